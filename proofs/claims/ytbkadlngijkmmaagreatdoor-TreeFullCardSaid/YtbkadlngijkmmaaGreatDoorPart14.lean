/- Part 14 of the proof. The last text: TreeFull: for every input the law answers true, and turns nothing. The tables that its row lists are premises, and tied to the text by its card. -/
import Derived.Test.YtbkadlngijkmmaaGreatDoorPart12
import Derived.Test.YtbkadlngijkmmaaGreatDoorPart10
import Derived.Test.YtbkadlngijkmmaaGreatDoorPart13
/- What a root tells that was there when all settled: the walk. -/
namespace Go.Proofs.YtbkadlngijkmmaaGreatDoor
open Go.GV
theorem ag_30_TrG8 : aggB Tryz.prog 30 = some true := by kernel_rfl
theorem ag_33_TrG8 : aggB Tryz.prog 33 = some false := by kernel_rfl
theorem ca_12_TrG8 : callable Tryz.prog 12 = true := by kernel_rfl
theorem ca_13_TrG8 : callable Tryz.prog 13 = true := by kernel_rfl
theorem ca_14_TrG8 : callable Tryz.prog 14 = true := by kernel_rfl
theorem ca_15_TrG8 : callable Tryz.prog 15 = true := by kernel_rfl
theorem ca_16_TrG8 : callable Tryz.prog 16 = true := by kernel_rfl
theorem ca_20_TrG8 : callable Tryz.prog 20 = true := by kernel_rfl
theorem ca_21_TrG8 : callable Tryz.prog 21 = true := by kernel_rfl
theorem ca_22_TrG8 : callable Tryz.prog 22 = true := by kernel_rfl
theorem ca_33_TrG8 : callable Tryz.prog 33 = true := by kernel_rfl
theorem ca_36_TrG8 : callable Tryz.prog 36 = true := by kernel_rfl
theorem ca_42_TrG8 : callable Tryz.prog 42 = true := by kernel_rfl
theorem ca_43_TrG8 : callable Tryz.prog 43 = true := by kernel_rfl
theorem ca_44_TrG8 : callable Tryz.prog 44 = true := by kernel_rfl
theorem el_22_TrG8 : elemT Tryz.prog 22 = some 30 := by kernel_rfl
theorem fo_36_0_TrG8 : fieldO Tryz.prog 36 0 = some 0 := by kernel_rfl
theorem fo_36_1_TrG8 : fieldO Tryz.prog 36 1 = some 1 := by kernel_rfl
theorem pl_30_TrG8 : placesB Tryz.prog 30 = some [(0, 1), (1, 1), (2, 1), (3, 1)] := by kernel_rfl
theorem sz_30_TrG8 : tsize Tryz.prog 30 = some 4 := by kernel_rfl
theorem un_26_TrG8 : Tryz.prog.underlying 26 = some (.pointer 36) := by kernel_rfl
theorem zc_30_TrG8 : zcells Tryz.prog 30 = some ([.bool false, .slice none 0 0, .slice none 0 0, .bool false]) := by kernel_rfl
attribute [local irreducible] Wops W Wq Wt

theorem settled01 {P : List Nat} (h : ∀ s ∈ P, s ≤ 3) : ∀ s ∈ P.map settleS, s = 0 ∨ s = 1 := by
  intro s hs
  obtain ⟨t, ht, rfl⟩ := List.mem_map.1 hs
  have h3 := h t ht
  have h4 : t = 0 ∨ t = 1 ∨ t = 2 ∨ t = 3 := by omega
  rcases h4 with rfl | rfl | rfl | rfl
  · exact .inl rfl
  · exact .inr rfl
  · exact .inr rfl
  · exact .inl rfl
theorem settle_same {P : List Nat} (h : ∀ s ∈ P, s = 0 ∨ s = 1) : P.map settleS = P := by
  have h1 : ∀ s ∈ P, settleS s = id s := fun s hs => by rcases h s hs with rfl | rfl <;> rfl
  rw [List.map_congr_left h1, List.map_id]
section
variable {w0 w w' : World} {bx bt bd bp ba n : Nat} {root : Int} {L : List Pr} {i : Nat} {A A' : Dev} {P : List Nat} {F : Mut}
theorem Std.dev (s : Std w0 w bx bt bd bp ba n root L i A P F) (D' : DevAt w' bd A' F) (t : Turn F w w') (T' : TreeAt 10 A' P root L) (hon : A'.on = true) (hleft : A'.left = -1) (hb : A'.B.length = A.B.length) (hf : Few A' (40 * i)) :
    Std w0 w' bx bt bd bp ba n root L i A' P F ∧ Grown (TM F ba bt bp []) (TM F ba bt bp []) w w' := by
  obtain ⟨h1, h2⟩ := s.D.T.devs D' t (fun x h => .inl h)
  exact ⟨⟨s.D.step h1 h2, T', hon, hleft, s.num, hb.trans s.blen, hf, s.li, s.new, h2.1.new s.hx s.new⟩, h2⟩
end

set_option maxRecDepth 20000 in
set_option maxHeartbeats 16000000 in
theorem treeKeeps_ok (a b : Option Addr) (c d : Nat) (l m : List Sm) (cr : Bool) (w : World) (R : Rd w a 4 Sm.enc l) (hin : ∀ x ∈ l, x.In w) (R2 : Rd w b 4 Sm.enc m) (hin2 : ∀ x ∈ m, x.In w) :
    Ret Tryz.prog 7 #[.slice a l.length c, .slice b m.length d, .bool cr] w fun v w' => v = .bool true ∧ Ext [] w w' := by
  obtain ⟨w0, rfl⟩ : ∃ w0, w0 = w := ⟨_, rfl⟩
  refine ret_of_W (fn := Tryz.f7) Tryz.func7 rfl [.slice a l.length c, .slice b m.length d, .bool cr] rfl (by kernel_rfl) ?_
  refine W_rseq ?_
  refine op_assign rfl (.bool _) rfl ?_
  refine op_nil (at_then ?_)
  refine W_seq ?_
  refine W_rseq (Wops_join (α := Unit) 528482304 (fun _ => [(28, .bool (heavy7B l || heavy7B m))]) (fun _ w' => w0 = w') rfl ?_ ?_)
  · refine op_move rfl (.slice _ _ _) rfl ?_
    refine op_call rfl ca_12_TrG8 (heavy7_ok a c l _ R) rfl ?_
    rintro v w ⟨rfl, rfl⟩
    refine op_move rfl (.bool _) rfl ?_
    refine Wops_split 25 rfl ?_ ?_
    · intro h1
      refine op_skip rfl ?_
      refine op_skip rfl ?_
      refine op_pick1 rfl rfl (.bool _) rfl ?_
      refine op_nil ?_
      exact ⟨rfl, (), rfl, ⟨congrArg Value.bool (by rw [Bool.eq_iff_iff]; simp_all), trivial⟩, rfl⟩
    · intro h2
      refine op_move rfl (.slice _ _ _) rfl ?_
      refine op_call rfl ca_12_TrG8 (heavy7_ok b d m _ R2) rfl ?_
      rintro v w ⟨rfl, rfl⟩
      refine op_pick0 rfl rfl (.bool _) rfl ?_
      refine op_nil ?_
      exact ⟨rfl, (), rfl, ⟨congrArg Value.bool (by rw [Bool.eq_iff_iff]; simp_all), trivial⟩, rfl⟩
  rintro - j28 w rfl
  refine W_cond _ rfl ?_ ?_
  · intro hA
    refine W_rseq ?_
    refine op_call rfl ca_13_TrG8 (works7_ok _) rfl ?_
    rintro v w ⟨rfl, hxw⟩
    refine op_assign rfl (.bool _) rfl ?_
    refine op_nil (at_then ?_)
    refine W_ret (ret_then (leave1 (v := (.bool _)) rfl rfl rfl ?_))
    exact ⟨rfl, hxw⟩
  · intro hA
    rw [Bool.or_eq_false_iff] at hA
    obtain ⟨hl3, hsm⟩ := light7 hA.1
    obtain ⟨hm3, hsm2⟩ := light7 hA.2
    refine W_skip (at_then ?_)
    refine W_rseq ?_
    refine op_call rfl ca_14_TrG8 (opened_ok 800 (by omega) (by omega) _) rfl ?_
    rintro v w1 ⟨bx, bt, bd, bp, ba, F0, rfl, D, hx, hnew, -⟩
    refine op_assign rfl (.pointer _) rfl ?_
    refine op_nil (at_then ?_)
    refine W_seq ?_
    refine W_rseq ?_
    refine op_move rfl (.pointer _) rfl ?_
    refine op_eqlptr rfl un_26_TrG8 rfl ?_
    refine op_nil (at_then ?_)
    refine W_cond0 rfl ?_
    refine W_skip (at_then ?_)
    refine W_rseq ?_
    refine op_assign rfl (.int _ _) rfl ?_
    refine op_nil (at_then ?_)
    refine W_rseq ?_
    refine op_assign rfl (.slice _ _ _) rfl ?_
    refine op_nil (at_then ?_)
    refine W_seq ?_
    refine W_rseq ?_
    refine op_assign rfl (.int _ _) rfl ?_
    refine op_nil (at_then ?_)
    refine W_block ?_
    refine W_loop 9223372028264857408 (α := Sv) (fun s => [(8, .int .i64 s.root), (9, .slice s.la s.L.length s.lc), (10, .int .i64 (s.i : Int))]) (fun s w' => s.i ≤ l.length ∧ Mid w0 w' bx bt bd bp ba s ∧ ∀ x ∈ s.P, x = 0 ∨ x = 1) (fun s => l.length - s.i) ⟨-1, none, 0, [], 0, newD (10 + 800), List.replicate 800 0, F0⟩ rfl ?_ ?_ ?_
    · exact ⟨rfl, rfl, rfl, trivial⟩
    · exact ⟨Nat.zero_le _, ⟨⟨D, new_tree 800, rfl, rfl, List.length_replicate .., newD_len _, new_few _, Nat.le_refl _, hnew, hx⟩, Prs.nil, by show 24 ≤ freeP (List.replicate 800 0); rw [new_free]; omega⟩, fun x h => .inl (List.eq_of_mem_replicate h)⟩
    · rintro ⟨root, la, lc, L, i, A, P, F⟩ j w ⟨hi, ⟨s, PL, hfree⟩, h01⟩; dsimp only at hi s PL hfree h01; dsimp only
      have hL := s.li
      refine W_seq ?_
      refine W_rseq ?_
      refine op_move rfl (.int _ _) rfl ?_
      refine op_move rfl (.slice _ _ _) rfl ?_
      refine op_len rfl el_22_TrG8 rfl ?_
      refine op_lss rfl rfl rfl ?_
      refine op_nil (at_then ?_)
      refine W_cond _ rfl ?_ ?_
      · intro h1
        replace h1 := dec_t h1
        obtain ⟨e, he⟩ := get_some (l := l) (i := i) (by omega)
        have hee := List.mem_of_getElem? he
        obtain ⟨hk200, hv500⟩ := hsm e hee
        have hei := hin e hee
        obtain ⟨wa, rfl⟩ : ∃ z, z = w := ⟨_, rfl⟩
        have H := Ctx.start wa []
        refine W_skip (at_then ?_)
        refine W_seq ?_
        refine W_block ?_
        refine W_rseq ?_
        refine op_move rfl (.pointer _) rfl ?_
        refine op_move rfl (.int _ _) rfl ?_
        refine op_move rfl (.slice _ _ _) rfl ?_
        refine op_move rfl (.slice _ _ _) rfl ?_
        refine op_move rfl (.int _ _) rfl ?_
        first | refine op_indexRd R rfl el_22_TrG8 sz_30_TrG8 rfl rfl (by omega) (by omega) (by first | rfl | omega) ?_ | refine op_indexAddr rfl el_22_TrG8 sz_30_TrG8 rfl rfl (by omega) (by omega) ?_
        first | refine op_ldN _ rfl ag_30_TrG8 sz_30_TrG8 rfl rfl ((R.ext0 s.hx).row he rfl) ?_ | refine op_ldbN rfl ag_30_TrG8 sz_30_TrG8 rfl H (by first | exact at0 | exact at1 | exact at2 | exact at3 | exact at4 | exact at5 | exact at6 | exact at7 | exact at8 | exact at9) rfl ?_
        refine op_call rfl ca_16_TrG8 (does_ok s.D s.T s.on s.hl (by rw [s.num]; omega) s.left hfree s.few (by omega) PL (by omega) e (hei.ok hk200 hv500 s.hx s.new)) rfl ?_
        rintro v w3 h3
        obtain ⟨r3, a3, c3, A3, P3, F3, rfl, s3, PL3, g3, -⟩ := s.does h3
        have hdk3 := s3.D.dk
        refine op_move rfl (.tuple _) rfl ?_
        refine op_extract rfl rfl rfl ?_
        refine op_extract rfl rfl rfl ?_
        refine op_extract rfl rfl rfl ?_
        refine op_assign rfl (.int _ _) rfl ?_
        refine op_assign rfl (.slice _ _ _) rfl ?_
        refine op_assign rfl (.bool _) rfl ?_
        refine op_nil (at_then ?_)
        refine W_seq ?_
        refine W_rseq ?_
        refine op_move rfl (.bool _) rfl ?_
        refine op_not rfl rfl ?_
        refine op_move rfl (.bool _) rfl ?_
        refine op_move rfl (.pointer _) rfl ?_
        refine op_nilCheck rfl rfl ?_
        refine op_fieldAddr rfl fo_36_1_TrG8 rfl ?_
        first | refine op_ldb rfl ag_33_TrG8 rfl H (by first | exact at0 | exact at1 | exact at2 | exact at3 | exact at4 | exact at5 | exact at6 | exact at7 | exact at8 | exact at9) rfl ?_ | refine op_ld rfl ag_33_TrG8 rfl ((by rw [cell_bl hdk3]; rfl)) ?_
        refine op_call rfl ca_15_TrG8 (psettle_ok s3.D.T.pg) rfl ?_
        rintro v w4 ⟨rfl, PA4, hx4⟩
        have hms := Mid.settle s3 PL3 (by omega) PA4 hx4
        refine op_neq rfl rfl rfl ?_
        refine op_pick0 rfl rfl (.bool _) rfl ?_
        refine op_nil (at_then ?_)
        refine W_cond0 rfl ?_
        refine W_skip (at_then ?_)
        refine W_rseq ?_
        refine op_move rfl (.int _ _) rfl ?_
        refine op_assign rfl (.int _ _) rfl ?_
        refine op_nil (at_then ?_)
        refine W_region ?_
        refine op_move rfl (.slice _ _ _) rfl ?_
        refine op_assign rfl (.slice _ _ _) rfl ?_
        refine op_nil (at_block (at_then ?_))
        refine W_region ?_
        refine op_move rfl (.int _ _) rfl ?_
        refine op_add_i64 rfl rfl rfl (by omega) (by omega) ?_
        refine op_assign rfl (.int _ _) rfl ?_
        refine op_nil (at_then ?_)
        exact ⟨⟨r3, a3, c3, stepL e.s L, i + 1, A3, P3.map settleS, F3⟩, rfl, ⟨rfl, rfl, rfl, trivial⟩, ⟨by dsimp only; omega, hms.1, settled01 s3.D.T.pg.ok⟩, by dsimp only; omega⟩
      · intro h1
        replace h1 := dec_f h1
        obtain rfl : i = l.length := by omega
        obtain ⟨wa, rfl⟩ : ∃ z, z = w := ⟨_, rfl⟩
        have H := Ctx.start wa []
        have hdk := s.D.dk
        obtain ⟨hfe, hfd⟩ := flush_calm s.on s.left
        have hff := flush_few s.few
        rw [hfd] at hff
        refine W_exit (exit_then (exit_then (exit_here (at_then ?_))))
        refine W_seq ?_
        refine W_rseq ?_
        refine op_move rfl (.pointer _) rfl ?_
        refine op_nilCheck rfl rfl ?_
        refine op_fieldAddr rfl fo_36_0_TrG8 rfl ?_
        first | refine op_ldb rfl ag_32 rfl H (by first | exact at0 | exact at1 | exact at2 | exact at3 | exact at4 | exact at5 | exact at6 | exact at7 | exact at8 | exact at9) rfl ?_ | refine op_ld rfl ag_32 rfl ((by rw [cell_bl hdk]; rfl)) ?_
        refine op_call rfl ca_36_TrG8 (dflush_ok s.few (by omega) s.D.T.dev) rfl ?_
        rintro v w2 ⟨rfl, DA2, t2⟩
        rw [hfe]
        rw [hfd] at DA2
        refine op_neq rfl rfl rfl ?_
        refine op_nil (at_then ?_)
        refine W_cond0 rfl ?_
        refine W_skip (at_then ?_)
        obtain ⟨s2, g2⟩ := s.dev DA2 t2 (sure_tree s.T) s.on s.left (List.length_map ..) hff
        have PL2 := PL.turn g2
        obtain ⟨A0, hA0⟩ : ∃ A0, A0 = sureD A := ⟨_, rfl⟩
        have hsure := sure_sure A
        rw [← hA0] at s2 hsure
        have sk0 := Sunk.start s2.T h01
        have hblen0 := s2.blen
        have hnum0 := s2.num
        refine W_rseq ?_
        refine op_move rfl (.int _ _) rfl ?_
        refine op_assign rfl (.int _ _) rfl ?_
        refine op_nil (at_then ?_)
        refine W_rseq ?_
        refine op_move rfl (.slice _ _ _) rfl ?_
        refine op_assign rfl (.slice _ _ _) rfl ?_
        refine op_nil (at_then ?_)
        refine W_seq ?_
        refine W_rseq ?_
        refine op_assign rfl (.int _ _) rfl ?_
        refine op_nil (at_then ?_)
        refine W_block ?_
        refine W_loop 324518553656065543541721199001664 (α := Nat × Sv) (fun s => [(14, .int .i64 s.2.root), (15, .slice s.2.la s.2.L.length s.2.lc), (16, .int .i64 (s.1 : Int))]) (fun s w' => s.1 ≤ m.length ∧ Std w0 w' bx bt bd bp ba 800 s.2.root s.2.L (l.length + s.1) s.2.A s.2.P s.2.F ∧ Prs w' (TM s.2.F ba bt bp []) s.2.la s.2.L.length s.2.lc s.2.L ∧ Sunk A0 P root L s.2.A s.2.P ∧ Prs w' (TM s.2.F ba bt bp []) la L.length lc L) (fun s => m.length - s.1) (0, ⟨root, la, lc, L, 0, A0, P, F⟩) rfl ?_ ?_ ?_
        · exact ⟨rfl, rfl, rfl, trivial⟩
        · exact ⟨Nat.zero_le _, s2, PL2, sk0, PL2⟩
        · clear s PL hfree s2 PL2 DA2 t2 g2 sk0
          rintro ⟨k, r5, a5, c5, L5, z5, A5, P5, F5⟩ j w ⟨hk, s, PL, sk, PO⟩; dsimp only at hk s PL sk PO; dsimp only
          have hL5 := s.li
          obtain ⟨wb, rfl⟩ : ∃ z, z = w := ⟨_, rfl⟩
          have H := Ctx.start wb []
          have hdk := s.D.dk
          refine W_seq ?_
          refine W_rseq (Wops_join (α := Unit) 9669045373675598575042560 (fun _ => [(82, .bool (decide (k < m.length) && decide (100 ≤ freeP P5)))]) (fun _ w' => wb = w') rfl ?_ ?_)
          · refine op_move rfl (.int _ _) rfl ?_
            refine op_move rfl (.slice _ _ _) rfl ?_
            refine op_len rfl el_22_TrG8 rfl ?_
            refine op_lss rfl rfl rfl ?_
            refine op_move rfl (.bool _) rfl ?_
            refine Wops_split 75 rfl ?_ ?_
            · intro h3
              replace h3 := dec_t h3
              refine op_move rfl (.pointer _) rfl ?_
              refine op_nilCheck rfl rfl ?_
              refine op_fieldAddr rfl fo_36_1_TrG8 rfl ?_
              first | refine op_ldb rfl ag_33_TrG8 rfl H (by first | exact at0 | exact at1 | exact at2 | exact at3 | exact at4 | exact at5 | exact at6 | exact at7 | exact at8 | exact at9) rfl ?_ | refine op_ld rfl ag_33_TrG8 rfl ((by rw [cell_bl hdk]; rfl)) ?_
              refine op_call rfl ca_22_TrG8 (pfree_ok s.D.T.pg) rfl ?_
              rintro v w ⟨rfl, rfl⟩
              refine op_geq rfl rfl rfl ?_
              refine op_pick1 rfl rfl (.bool _) rfl ?_
              refine op_nil ?_
              exact ⟨rfl, (), rfl, ⟨congrArg Value.bool (by rw [Bool.eq_iff_iff]; simp_all; try omega), trivial⟩, rfl⟩
            · intro h4
              replace h4 := dec_f h4
              refine op_skip rfl ?_
              refine op_skip rfl ?_
              refine op_skip rfl ?_
              refine op_skip rfl ?_
              refine op_skip rfl ?_
              refine op_skip rfl ?_
              refine op_pick0 rfl rfl (.bool _) rfl ?_
              refine op_nil ?_
              exact ⟨rfl, (), rfl, ⟨congrArg Value.bool (by rw [Bool.eq_iff_iff]; simp_all; try omega), trivial⟩, rfl⟩
          rintro - j82 w rfl
          refine W_cond _ rfl ?_ ?_
          · intro h2
            simp only [Bool.and_eq_true, decide_eq_true_eq] at h2
            obtain ⟨e, he⟩ := get_some (l := m) (i := k) (by omega)
            have hee := List.mem_of_getElem? he
            obtain ⟨hk200, hv500⟩ := hsm2 e hee
            have hei := hin2 e hee
            refine W_skip (at_then ?_)
            refine W_seq ?_
            refine W_block ?_
            refine W_rseq ?_
            refine op_move rfl (.pointer _) rfl ?_
            refine op_move rfl (.int _ _) rfl ?_
            refine op_move rfl (.slice _ _ _) rfl ?_
            refine op_move rfl (.slice _ _ _) rfl ?_
            refine op_move rfl (.int _ _) rfl ?_
            first | refine op_indexRd R rfl el_22_TrG8 sz_30_TrG8 rfl rfl (by omega) (by omega) (by first | rfl | omega) ?_ | refine op_indexRd R2 rfl el_22_TrG8 sz_30_TrG8 rfl rfl (by omega) (by omega) (by first | rfl | omega) ?_ | refine op_indexAddr rfl el_22_TrG8 sz_30_TrG8 rfl rfl (by omega) (by omega) ?_
            first | refine op_ldN _ rfl ag_30_TrG8 sz_30_TrG8 rfl rfl ((R.ext0 s.hx).row he rfl) ?_ | refine op_ldN _ rfl ag_30_TrG8 sz_30_TrG8 rfl rfl ((R2.ext0 s.hx).row he rfl) ?_ | refine op_ldbN rfl ag_30_TrG8 sz_30_TrG8 rfl H (by first | exact at0 | exact at1 | exact at2 | exact at3 | exact at4 | exact at5 | exact at6 | exact at7 | exact at8 | exact at9) rfl ?_
            refine op_call rfl ca_16_TrG8 (does_ok s.D s.T s.on s.hl (by rw [s.num]; omega) s.left (by omega) s.few (by omega) PL (by omega) e (hei.ok hk200 hv500 s.hx s.new)) rfl ?_
            rintro v w3 h3
            obtain ⟨r3, a3, c3, A3, P3, F3, rfl, s3, PL3, g3, af3⟩ := s.does h3
            refine op_move rfl (.tuple _) rfl ?_
            refine op_extract rfl rfl rfl ?_
            refine op_extract rfl rfl rfl ?_
            refine op_extract rfl rfl rfl ?_
            refine op_assign rfl (.int _ _) rfl ?_
            refine op_assign rfl (.slice _ _ _) rfl ?_
            refine op_assign rfl (.bool _) rfl ?_
            refine op_nil (at_then ?_)
            refine W_seq ?_
            have sk3 := sk.after af3
            have PO3 := PO.turn g3
            obtain ⟨S3, td3⟩ := sk3.told s3.on s3.hl (by rw [s3.num]; omega)
            have hS3 := td3.len
            refine W_rseq ?_
            refine op_move rfl (.bool _) rfl ?_
            refine op_not rfl rfl ?_
            refine op_move rfl (.bool _) rfl ?_
            refine op_move rfl (.pointer _) rfl ?_
            refine op_move rfl (.int _ _) rfl ?_
            refine op_move rfl (.slice _ _ _) rfl ?_
            refine op_call rfl ca_21_TrG8 (has_ok s3.D td3 (by omega) PO3 (by omega) s3.few (by omega) (by omega)) rfl ?_
            rintro v w4 ⟨rfl, hx4⟩
            rw [decide_eq_true (show L = L from rfl)]
            refine op_not rfl rfl ?_
            refine op_pick0 rfl rfl (.bool _) rfl ?_
            refine op_nil (at_then ?_)
            refine W_cond0 rfl ?_
            refine W_skip (at_then ?_)
            refine W_rseq ?_
            refine op_move rfl (.int _ _) rfl ?_
            refine op_assign rfl (.int _ _) rfl ?_
            refine op_nil (at_then ?_)
            refine W_region ?_
            refine op_move rfl (.slice _ _ _) rfl ?_
            refine op_assign rfl (.slice _ _ _) rfl ?_
            refine op_nil (at_block (at_then ?_))
            refine W_region ?_
            refine op_move rfl (.int _ _) rfl ?_
            refine op_add_i64 rfl rfl rfl (by omega) (by omega) ?_
            refine op_assign rfl (.int _ _) rfl ?_
            refine op_nil (at_then ?_)
            exact ⟨(k + 1, ⟨r3, a3, c3, stepL e.s L5, 0, A3, P3, F3⟩), rfl, ⟨rfl, rfl, rfl, trivial⟩, ⟨by dsimp only; omega, s3.call hx4, PL3.turn (.call0 hx4), sk3, PO3.turn (.call0 hx4)⟩, by dsimp only; omega⟩
          · intro h2
            refine W_exit (exit_then (exit_then (exit_here (at_then ?_))))
            refine W_seq ?_
            obtain ⟨S6, td6, -, -⟩ := s.told (by omega)
            have hS6 := td6.len
            refine W_rseq ?_
            refine op_move rfl (.pointer _) rfl ?_
            refine op_move rfl (.int _ _) rfl ?_
            refine op_move rfl (.slice _ _ _) rfl ?_
            refine op_call rfl ca_21_TrG8 (has_ok s.D td6 (by omega) PL (by omega) s.few (by omega) (by omega)) rfl ?_
            rintro v w6 ⟨rfl, hx6⟩
            rw [decide_eq_true (show L5 = L5 from rfl)]
            refine op_not rfl rfl ?_
            refine op_nil (at_then ?_)
            refine W_cond0 rfl ?_
            refine W_skip (at_then ?_)
            refine W_seq ?_
            have s6 := s.call hx6
            have PO6 := PO.turn (.call0 hx6)
            have hdk6 := s6.D.dk
            have H := Ctx.start w6 []
            obtain ⟨hoe, hone, honon, honl, honb, honf⟩ := crash_dev A5 []
            rw [if_pos s6.on] at hoe
            refine W_rseq (Wops_join (α := Unit) 1361119083090036784198241368734414405632 (fun _ => [(129, .bool (false))]) (fun _ w' => ∃ A8, Tx w' bt bd bp ba 10 A8 P5 F5 [] ∧ Grown (TM F5 ba bt bp []) (TM F5 ba bt bp []) w6 w' ∧ TreeAt 10 A8 P root L ∧ A8.on = true ∧ A8.left = -1 ∧ A8.B.length = A5.B.length ∧ Few A8 (40 * (l.length + k))) rfl ?_ ?_)
            · refine op_move rfl (.bool _) rfl ?_
              refine op_move rfl (.bool _) rfl ?_
              refine Wops_split 114 rfl ?_ ?_
              · intro h5
                refine op_move rfl (.pointer _) rfl ?_
                refine op_nilCheck rfl rfl ?_
                refine op_fieldAddr rfl fo_36_0_TrG8 rfl ?_
                first | refine op_ldb rfl ag_32 rfl H (by first | exact at0 | exact at1 | exact at2 | exact at3 | exact at4 | exact at5 | exact at6 | exact at7 | exact at8 | exact at9) rfl ?_ | refine op_ld rfl ag_32 rfl ((by first | (rw [cell_bl hdk7]; rfl) | (rw [cell_bl hdk6]; rfl))) ?_
                refine op_call rfl ca_43_TrG8 (doff_ok s6.D.T.dev) rfl ?_
                rintro v w7 ⟨rfl, DA7, t7⟩
                rw [hoe]
                obtain ⟨T7, g7⟩ := s6.D.T.devs DA7 t7 (fun x h => .inl h)
                have hdk7 := (s6.D.step T7 g7).dk
                refine op_neq rfl rfl rfl ?_
                refine op_move rfl (.bool _) rfl ?_
                refine op_move rfl (.pointer _) rfl ?_
                refine op_nilCheck rfl rfl ?_
                refine op_fieldAddr rfl fo_36_0_TrG8 rfl ?_
                first | refine op_ldb rfl ag_32 rfl H (by first | exact at0 | exact at1 | exact at2 | exact at3 | exact at4 | exact at5 | exact at6 | exact at7 | exact at8 | exact at9) rfl ?_ | refine op_ld rfl ag_32 rfl ((by first | (rw [cell_bl hdk7]; rfl) | (rw [cell_bl hdk6]; rfl))) ?_
                refine op_call rfl ca_42_TrG8 (donp_ok none 0 0 [] Rd.nil rfl (by omega) (Nat.le_refl _) (.inl rfl) (fun x h => by cases h) (show Few (offD A5) _ from s6.few) (by omega) T7.dev) rfl ?_
                rintro v w8 ⟨rfl, DA8, t8⟩
                rw [hone]
                obtain ⟨T8, g8⟩ := T7.devs DA8 t8 (fun x h => .inl h)
                have g78 := g7.trans g8
                refine op_neq rfl rfl rfl ?_
                refine op_pick0 rfl rfl (.bool _) rfl ?_
                refine op_pick1 rfl rfl (.bool _) rfl ?_
                refine op_nil ?_
                exact ⟨rfl, (), rfl, ⟨congrArg Value.bool (rfl), trivial⟩, by first | exact ⟨_, T8, g78, sk.crash hsure (by rw [hnum0, hblen0]; exact Nat.le_refl _) [], honon, honl, honb, honf.mono (Nat.zero_le _)⟩ | exact ⟨_, s6.D.T, .call0 (Ext.refl _ _), sk.calm, s6.on, s6.left, rfl, s6.few⟩⟩
              · intro h6
                refine op_skip rfl ?_
                refine op_skip rfl ?_
                refine op_skip rfl ?_
                refine op_skip rfl ?_
                refine op_skip rfl ?_
                refine op_skip rfl ?_
                refine op_skip rfl ?_
                refine op_skip rfl ?_
                refine op_skip rfl ?_
                refine op_skip rfl ?_
                refine op_skip rfl ?_
                refine op_skip rfl ?_
                refine op_skip rfl ?_
                refine op_skip rfl ?_
                refine op_pick0 rfl rfl (.bool _) rfl ?_
                refine op_nil ?_
                exact ⟨rfl, (), rfl, ⟨congrArg Value.bool (rfl), trivial⟩, by first | exact ⟨_, T8, g78, sk.crash hsure (by rw [hnum0, hblen0]; exact Nat.le_refl _) [], honon, honl, honb, honf.mono (Nat.zero_le _)⟩ | exact ⟨_, s6.D.T, .call0 (Ext.refl _ _), sk.calm, s6.on, s6.left, rfl, s6.few⟩⟩
            rintro - j129 w ⟨A8, T8, g68, TA8, hon8, hl8, hb8, hf8⟩
            refine W_cond0 rfl ?_
            refine W_skip (at_then ?_)
            refine W_seq ?_
            obtain ⟨w8, rfl⟩ : ∃ z, z = w := ⟨_, rfl⟩
            have D8 := s6.D.step T8 g68
            have hdk8 := D8.dk
            have hbk := sk.back
            have PO8 := PO6.turn g68
            have H := Ctx.start w8 []
            refine W_rseq ?_
            refine op_move rfl (.pointer _) rfl ?_
            refine op_nilCheck rfl rfl ?_
            refine op_fieldAddr rfl fo_36_1_TrG8 rfl ?_
            first | refine op_ldb rfl ag_33_TrG8 rfl H (by first | exact at0 | exact at1 | exact at2 | exact at3 | exact at4 | exact at5 | exact at6 | exact at7 | exact at8 | exact at9) rfl ?_ | refine op_ld rfl ag_33_TrG8 rfl ((by rw [cell_bl hdk8]; rfl)) ?_
            refine op_call rfl ca_44_TrG8 (pback_ok T8.pg) rfl ?_
            rintro v w9 ⟨rfl, PA9, hx9⟩
            rw [hbk] at PA9
            obtain ⟨T9, g9⟩ := T8.page PA9 hx9
            have g69 := g68.trans g9
            have s9 : Std w0 w9 bx bt bd bp ba 800 root L (l.length + k) A8 P F5 := ⟨D8.step T9 g9, TA8, hon8, hl8, hnum0, hb8.trans s6.blen, hf8, by omega, s6.new, g69.1.new s6.hx s6.new⟩
            have PO9 := PO8.turn g9
            obtain ⟨S9, td9, hnd9, hS9⟩ := s9.told (by omega)
            have hSl9 := td9.len
            refine op_neq rfl rfl rfl ?_
            refine op_move rfl (.bool _) rfl ?_
            refine op_move rfl (.pointer _) rfl ?_
            refine op_move rfl (.int _ _) rfl ?_
            refine op_move rfl (.slice _ _ _) rfl ?_
            refine op_call rfl ca_21_TrG8 (has_ok s9.D td9 (by omega) PO9 (by omega) s9.few (by omega) (by omega)) rfl ?_
            rintro v w10 ⟨rfl, hx10⟩
            rw [decide_eq_true (show L = L from rfl)]
            have s10 := s9.call hx10
            refine op_not rfl rfl ?_
            refine op_pick0 rfl rfl (.bool _) rfl ?_
            refine op_move rfl (.bool _) rfl ?_
            refine op_move rfl (.pointer _) rfl ?_
            refine op_move rfl (.int _ _) rfl ?_
            refine op_call rfl ca_20_TrG8 (held_ok s10.D td9 hnd9 hS9 s10.few (by omega) (by omega)) rfl ?_
            rintro v w11 ⟨rfl, hx11⟩
            refine op_not rfl rfl ?_
            refine op_pick0 rfl rfl (.bool _) rfl ?_
            refine op_nil (at_then ?_)
            refine W_cond0 rfl ?_
            refine W_skip (at_then ?_)
            have s11 := s10.call hx11
            have PO11 := (PO9.turn (.call0 hx10)).turn (.call0 hx11)
            have hfr := settle_free s11.D.T.pg.ok hnd9 hS9
            rw [settle_same h01] at hfr
            refine W_rseq ?_
            refine op_move rfl (.pointer _) rfl ?_
            refine op_move rfl (.int _ _) rfl ?_
            refine op_move rfl (.slice _ _ _) rfl ?_
            refine op_call rfl ca_33_TrG8 (b7_ok [111, 110] _) rfl ?_
            rintro v w12 ⟨b12, c12, rfl, X12, hc12, hb12, hx12⟩
            refine op_call rfl ca_33_TrG8 (b7_ok [97, 110, 100, 32, 111, 110] _) rfl ?_
            rintro v w13 ⟨b13, c13, rfl, X13, hc13, hb13, hx13⟩
            have s13 := (s11.call hx12).call hx13
            have PO13 := (PO11.turn (.call0 hx12)).turn (.call0 hx13)
            have sk13 := Sunk.start s13.T h01
            refine op_buildS [.bool false, .slice (some ⟨b12, 0, none⟩) 2 c12, .slice (some ⟨b13, 0, none⟩) 6 c13, .bool false] rfl pl_30_TrG8 zc_30_TrG8 (by kernel_rfl) ?_
            refine op_call rfl ca_16_TrG8 (does_ok s13.D s13.T s13.on s13.hl (by rw [s13.num]; omega) s13.left (by omega) s13.few (by omega) PO13 (by omega) ⟨some ⟨b12, 0, none⟩, c12, some ⟨b13, 0, none⟩, c13, ⟨false, [111, 110], [97, 110, 100, 32, 111, 110], false⟩⟩ ⟨Rdx.new (X12.ext0 hx13) s11.D.T.mlt (Nat.le_refl _) hb12, Rdx.new X13 s11.D.T.mlt hx12.size hb13, hc12, hc13, (show (2 : Nat) ≤ 200 by decide), (show (6 : Nat) ≤ 500 by decide)⟩) rfl ?_
            rintro v w14 h14
            obtain ⟨r14, a14, c14, A14, P14, F14, rfl, s14, PL14, g14, af14⟩ := s13.does h14
            refine op_move rfl (.tuple _) rfl ?_
            refine op_extract rfl rfl rfl ?_
            refine op_extract rfl rfl rfl ?_
            refine op_extract rfl rfl rfl ?_
            refine op_assign rfl (.int _ _) rfl ?_
            refine op_assign rfl (.slice _ _ _) rfl ?_
            refine op_assign rfl (.bool _) rfl ?_
            refine op_nil (at_then ?_)
            obtain ⟨L14, hL14⟩ : ∃ z, z = stepL ⟨false, [111, 110], [97, 110, 100, 32, 111, 110], false⟩ L := ⟨_, rfl⟩
            dsimp only at s14 PL14 ⊢
            rw [← hL14] at s14 PL14 ⊢
            have hli14 := s14.li
            have sk14 := sk13.after af14
            have PO14 := PO13.turn g14
            obtain ⟨S14, td14, -, -⟩ := s14.told (by omega)
            have hS14 := td14.len
            obtain ⟨S15, td15⟩ := sk14.told s14.on s14.hl (by rw [s14.num]; omega)
            have hS15 := td15.len
            refine W_rseq ?_
            refine op_move rfl (.bool _) rfl ?_
            refine op_move rfl (.bool _) rfl ?_
            refine op_move rfl (.pointer _) rfl ?_
            refine op_move rfl (.int _ _) rfl ?_
            refine op_move rfl (.slice _ _ _) rfl ?_
            refine op_call rfl ca_21_TrG8 (has_ok s14.D td14 (by omega) PL14 (by omega) s14.few (by omega) (by omega)) rfl ?_
            rintro v w15 ⟨rfl, hx15⟩
            rw [decide_eq_true (show L14 = L14 from rfl)]
            have s15 := s14.call hx15
            refine op_pick1 rfl rfl (.bool _) rfl ?_
            refine op_move rfl (.bool _) rfl ?_
            refine op_move rfl (.pointer _) rfl ?_
            refine op_move rfl (.int _ _) rfl ?_
            refine op_move rfl (.slice _ _ _) rfl ?_
            refine op_call rfl ca_21_TrG8 (has_ok s15.D td15 (by omega) (PO14.turn (.call0 hx15)) (by omega) s15.few (by omega) (by omega)) rfl ?_
            rintro v w16 ⟨rfl, hx16⟩
            rw [decide_eq_true (show L = L from rfl)]
            refine op_pick1 rfl rfl (.bool _) rfl ?_
            refine op_move rfl (.bool _) rfl ?_
            refine op_call rfl ca_13_TrG8 (works7_ok _) rfl ?_
            rintro v w17 ⟨rfl, hx17⟩
            refine op_pick1 rfl rfl (.bool _) rfl ?_
            refine op_assign rfl (.bool _) rfl ?_
            refine op_nil (at_then ?_)
            refine W_ret (leave1 (v := (.bool _)) rfl rfl rfl ?_)
            exact ⟨rfl, ((s15.call hx16).hx).trans hx17⟩

end Go.Proofs.YtbkadlngijkmmaaGreatDoor

/- Plain law of the tree: a device is off behind a change just if its error is that; what is sure stands behind a crash. -/
namespace Go.Proofs.YtbkadlngijkmmaaGreatDoor
open Go.GV

/-- Whether it is on tells the error. -/
def Tells (A : Dev) (e : Int) : Prop := A.on = !decide (e = 8)
theorem Tells.ok {A : Dev} (h : A.on = true) {e : Int} (he : e ≠ 8) : Tells A e := by
  unfold Tells
  rw [h, decide_eq_false he]; rfl
theorem Tells.on {A : Dev} {e : Int} (h : Tells A e) (he : e ≠ 8) : A.on = true := by
  unfold Tells at h
  rw [h, decide_eq_false he]; rfl
theorem Tells.off {A : Dev} (h : Tells A 8) : A.on = false := by
  unfold Tells at h
  rw [h]; rfl
theorem write_tells {A : Dev} (h : A.on = true) (k : Int) (b : Byt) : Tells (writeD A k b) (writeE A k b) := by
  unfold Tells writeD writeE
  rw [h]
  cases A.has k && decide (b.length = 512) with
  | false => simpa using h
  | true =>
    cases hg : A.goes with
    | true =>
      have h0 : A.left = 0 := of_decide_eq_true hg
      show A.less.on = _
      unfold Dev.less
      rw [if_pos h0]; rfl
    | false =>
      have h0 : ¬ A.left = 0 := of_decide_eq_false hg
      show (addW A.less k.toNat b).on = _
      unfold addW Dev.less
      rw [if_neg h0]
      split
      · exact h
      · exact h
theorem read_not8 {A : Dev} (h : A.on = true) (fr sz : Nat) (page depth : Int) : (readT A fr sz page depth).1 ≠ 8 := by
  have hr : readE A ((fr : Int) + page) ≠ 8 := by
    unfold readE
    rw [h]
    cases A.has ((fr : Int) + page) <;> decide
  unfold readT
  split
  · exact (show (9 : Int) ≠ 8 by decide)
  · split
    · split
      · exact (show (9 : Int) ≠ 8 by decide)
      · exact (show (0 : Int) ≠ 8 by decide)
    · exact hr
theorem seal_not8 (k : UInt8) (l : List UInt8) : sealE k l ≠ 8 := by
  unfold sealE
  cases decide (k.toNat = 0) with
  | true => exact (show (1 : Int) ≠ 8 by decide)
  | false => cases decide (505 < l.length) <;> decide
theorem wrC_tells {fr : Nat} {c : Ch} {i : Bool} {M : List It} (h : c.A.on = true) : Tells (wrC fr c i M).2.A (wrC fr c i M).1 := by
  unfold wrC
  split
  · refine .ok h ?_
    show takeE7 c.P ≠ 8
    unfold takeE7
    split <;> decide
  · split
    · exact .ok h (seal_not8 _ _)
    · exact write_tells h _ _
theorem putF_tells {fr : Nat} {i : Bool} : ∀ {Hs : List (List It)} {c : Ch} {acc : List It}, c.A.on = true → Tells (putF fr i Hs c acc).2.1.A (putF fr i Hs c acc).1
  | [], c, acc, h => .ok h (show (0 : Int) ≠ 8 by decide)
  | x :: Hs, c, acc, h => by
    have h1 := wrC_tells (fr := fr) (i := i) (M := x) h
    unfold putF
    split
    · rename_i h0
      exact putF_tells (h1.on (by rw [h0]; decide))
    · exact h1
theorem putS_tells {fr : Nat} {c : Ch} {i : Bool} {M : List It} (h : c.A.on = true) : Tells (putS fr c i M).2.1.A (putS fr c i M).1 := by
  unfold putS
  cases okM i M with
  | false => exact .ok h (show (99 : Int) ≠ 8 by decide)
  | true =>
    show Tells (putC fr c i M).2.1.A (putC fr c i M).1
    unfold putC
    split
    · exact .ok h (show (0 : Int) ≠ 8 by decide)
    · exact putF_tells h
theorem sideC_not8 {fr : Nat} {c : Ch} {l : List It} {i d : Nat} {inner : Bool} {kid : List It} (h : c.A.on = true) : (sideC fr c l i d inner kid).1 ≠ 8 := by
  unfold sideC
  split
  · split
    · exact (show (9 : Int) ≠ 8 by decide)
    · split
      · exact read_not8 h _ _ _ _
      · exact (show (9 : Int) ≠ 8 by decide)
      · exact (show (0 : Int) ≠ 8 by decide)
  · exact (show (0 : Int) ≠ 8 by decide)
theorem editC_tells {fr : Nat} {G : List It → List It} {key : Byt} : ∀ {n : Nat} {c : Ch} {p d : Nat}, c.A.on = true → Tells (editC fr G key n c p d).2.1.A (editC fr G key n c p d).1
  | 0, c, p, d, h => .ok h (show (9 : Int) ≠ 8 by decide)
  | n + 1, c, p, d, h => by
    have hr := (rdC_bnd (fr := fr) (c := c) (p := p) (d := d)).2.2.1
    unfold editC
    split
    · exact .ok h (read_not8 h _ _ _ _)
    · exact .ok (show (rdC fr c p d).A.on = true by rw [hr]; exact h) (show (0 : Int) ≠ 8 by decide)
    · rename_i l _
      have h1 := editC_tells (fr := fr) (G := G) (key := key) (n := n) (c := rdC fr c p d) (p := pageAt l (belowN l key)) (d := d + 1) (by rw [hr]; exact h)
      dsimp only
      split
      · exact h1
      · rename_i h0
        have h2 := h1.on (by rw [Classical.not_not.1 h0]; decide)
        obtain ⟨b1, b2, b3⟩ := sideC_bnd (fr := fr) (c := (editC fr G key n (rdC fr c p d) (pageAt l (belowN l key)) (d + 1)).2.1) (l := l) (i := belowN l key) (d := d) (inner := (editC fr G key n (rdC fr c p d) (pageAt l (belowN l key)) (d + 1)).2.2.1) (kid := (editC fr G key n (rdC fr c p d) (pageAt l (belowN l key)) (d + 1)).2.2.2)
        split
        · exact .ok (by dsimp only; rw [b3]; exact h2) (sideC_not8 h2)
        · exact putS_tells (by rw [b3]; exact h2)
theorem topC_tells {fr : Nat} {c : Ch} {i : Bool} {M : List It} (h : c.A.on = true) : Tells (topC fr c i M).2.1.A (topC fr c i M).1 := by
  have h1 := putS_tells (fr := fr) (i := i) (M := M) h
  unfold topC
  split
  · exact .ok h (show (0 : Int) ≠ 8 by decide)
  · split
    · exact h1
    · rename_i h0
      have h2 := h1.on (by rw [Classical.not_not.1 h0]; decide)
      split
      · exact .ok h2 (show (0 : Int) ≠ 8 by decide)
      · split
        · exact wrC_tells h2
        · exact .ok h2 (show (0 : Int) ≠ 8 by decide)
theorem turnC_tells {fr : Nat} {A : Dev} {P : List Nat} {root : Int} {key : Byt} {G : List It → List It} (h : A.on = true) : Tells (turnC fr A P root key G).2.2.A (turnC fr A P root key G).1 := by
  obtain ⟨ed, hed⟩ : ∃ ed, ed = (if root = -1 then (0, ⟨A, P, [], []⟩, false, G []) else editC fr G key 18 ⟨A, P, [], []⟩ root.toNat 0 : Int × Ch × Bool × List It) := ⟨_, rfl⟩
  have hb : Tells ed.2.1.A ed.1 := by
    rw [hed]
    split
    · exact .ok h (show (0 : Int) ≠ 8 by decide)
    · exact editC_tells h
  have hturn : turnC fr A P root key G = if ed.1 ≠ 0 then (ed.1, root, overC ed.2.1 ed.1) else if (topC fr ed.2.1 ed.2.2.1 ed.2.2.2).1 ≠ 0 then ((topC fr ed.2.1 ed.2.2.1 ed.2.2.2).1, root, overC (topC fr ed.2.1 ed.2.2.1 ed.2.2.2).2.1 (topC fr ed.2.1 ed.2.2.1 ed.2.2.2).1) else (0, (topC fr ed.2.1 ed.2.2.1 ed.2.2.2).2.2, overC (topC fr ed.2.1 ed.2.2.1 ed.2.2.2).2.1 0) := by
    unfold turnC; rw [hed]
  rw [hturn]
  split
  · exact hb
  · rename_i h0
    have ht := topC_tells (fr := fr) (i := ed.2.2.1) (M := ed.2.2.2) (hb.on (by rw [Classical.not_not.1 h0]; decide))
    split
    · exact ht
    · rename_i h1
      exact .ok (ht.on (by rw [Classical.not_not.1 h1]; decide)) (show (0 : Int) ≠ 8 by decide)
/-- A tree whose blocks are sure stands behind a crash. -/
theorem crash_tree {A0 A : Dev} {P : List Nat} {root : Int} {L : List Pr} (T : TreeAt 10 A0 P root L) (blk : ∀ q, (∀ x : Nat, P[x]? = some 0 → q ≠ 10 + x) → A.B.getD q (zeros, []) = A0.B.getD q (zeros, [])) (blen : A.B.length = A0.B.length) (hs : ∀ p ∈ A0.B, p.2 = []) (hl : 10 + P.length ≤ A0.B.length) (picks : List Int) :
    TreeAt 10 ⟨keepB A.B picks, -1, true⟩ P root L ∧ TreeAt 10 A P root L := by
  obtain ⟨S, h1, h2, h3⟩ := T.lies
  have h4 : ∀ x ∈ S, x < P.length := fun x hx => ((h3 x).1 hx).elim (fun h => (List.getElem?_eq_some_iff.1 h).1) fun h => (List.getElem?_eq_some_iff.1 h).1
  have h5 : ∀ x ∈ S, A.B.getD (10 + x) (zeros, []) = A0.B.getD (10 + x) (zeros, []) := fun x hx => blk _ fun y hy he => by
    obtain rfl : x = y := by omega
    rcases (h3 x).1 hx with h | h
    · rw [hy] at h; cases h
    · rw [hy] at h; cases h
  refine ⟨⟨⟨S, h1.frame fun x hx => ?_, h2, h3⟩, T.rise, T.ok⟩, ⟨⟨S, h1.frame fun x hx => by unfold RD; rw [h5 x hx], h2, h3⟩, T.rise, T.ok⟩⟩
  have hx4 := h4 x hx
  obtain ⟨p, hp⟩ := get_some (l := A.B) (i := 10 + x) (by omega)
  have hp5 := h5 x hx
  rw [List.getD_eq_getElem?_getD, hp] at hp5
  have hp6 : p = A0.B.getD (10 + x) (zeros, []) := hp5
  have hp2 : p.2 = [] := by rw [hp6]; exact hs _ (getD_mem (by omega))
  have hk := keepB_at A.B picks hp
  rw [if_pos hp2] at hk
  unfold RD
  rw [← hp6, List.getD_eq_getElem?_getD, hk]
  obtain ⟨p1, p2⟩ := p
  obtain rfl : p2 = [] := hp2
  rfl

end Go.Proofs.YtbkadlngijkmmaaGreatDoor

/- Plain law of the tree: what a put or a cut leaves on a few pages, whatever the device does. -/
namespace Go.Proofs.YtbkadlngijkmmaaGreatDoor
open Go.GV

theorem hm17 {P : List Nat} (hP : P.length ≤ 60) : ∀ h, h = 0 ∨ 2 ^ (h + 1) ≤ P.length + 1 → 2 * h + 3 ≤ 17 := fun h hh => by
  rcases hh with rfl | hh
  · omega
  · rcases Nat.lt_or_ge h 5 with h3 | h3
    · omega
    · have : 2 ^ 6 ≤ 2 ^ (h + 1) := Nat.pow_le_pow_right (by omega) (by omega)
      omega
/-- What a put or a cut leaves. -/
structure Res (A : Dev) (P : List Nat) (L' : List Pr) (e r' : Int) (A' : Dev) (P' : List Nat) (mx : Nat) : Prop where
  aft : After 10 A P A' P'
  few : Few A' mx
  out : (e = 0 ∧ A'.on = true ∧ TreeAt 10 A' P' r' L') ∨ (e = 8 ∧ A.left ≠ -1 ∧ A'.on = false ∧ P' = P) ∨ (e = 7 ∧ freeP P < 17 ∧ A'.on = true ∧ P' = P)
theorem Res.not99 {A : Dev} {P : List Nat} {L' : List Pr} {e r' : Int} {A' : Dev} {P' : List Nat} {mx : Nat} (h : Res A P L' e r' A' P' mx) : e ≠ 99 := by
  rcases h.out with h | h | h <;> omega
section
variable {A : Dev} {P : List Nat} {root : Int} {L : List Pr} {key val : Byt} {mx : Nat}
theorem turn_res {G : List It → List It} {g : List Pr → List Pr} (act : Acts key G g) (hr : ∀ L, Rising L → Rising (g L)) (T : TreeAt 10 A P root L) (hon : A.on = true) (hl : 10 + P.length ≤ A.B.length) (hP : P.length ≤ 60) (hfew : Few A mx) :
    Res A P (g L) (turnC 10 A P root key G).1 (turnC 10 A P root key G).2.1 (turnC 10 A P root key G).2.2.A (turnC 10 A P root key G).2.2.P (mx + 40) := by
  have ht := turnC_tells (fr := 10) (P := P) (root := root) (key := key) (G := G) hon
  obtain ⟨h1, h2⟩ := turn_spec act hr T hon hl (by omega) (hm17 hP)
  refine ⟨h1, turnC_few hfew, ?_⟩
  rcases h2 with ⟨h3, h4, h5⟩ | ⟨_, h4, h3⟩
  · exact .inl ⟨h3, h4, h5⟩
  · rcases h3 with ⟨h3, h5⟩ | ⟨h3, h5⟩
    · rw [h3] at ht
      exact .inr (.inl ⟨h3, h5, ht.off, h4⟩)
    · exact .inr (.inr ⟨h3, h5, ht.on (by rw [h3]; decide), h4⟩)
theorem put_res (T : TreeAt 10 A P root L) (hon : A.on = true) (hl : 10 + P.length ≤ A.B.length) (hP : P.length ≤ 60) (hfew : Few A mx) (hk : rightK key.length val.length = true) :
    Res A P (putP L key val) (putT 10 A P root key val).1 (putT 10 A P root key val).2.1 (putT 10 A P root key val).2.2.1 (putT 10 A P root key val).2.2.2 (mx + 40) := by
  obtain ⟨S, td, -, -⟩ := T.told hon hl (by omega)
  unfold putT
  rw [if_neg (by rw [td.may]; simp), if_pos hk]
  unfold rightK at hk
  simp only [Bool.and_eq_true, decide_eq_true_eq] at hk
  exact turn_res (g := fun L => putP L key val) (acts_put hk.1 hk.2.1 hk.2.2) (fun L h => putP_rising h key val) T hon hl hP hfew
theorem cut_res (T : TreeAt 10 A P root L) (hon : A.on = true) (hl : 10 + P.length ≤ A.B.length) (hP : P.length ≤ 60) (hfew : Few A mx) (hk : rightK key.length 0 = true) :
    Res A P (cutP L key) (cutT 10 A P root key).1 (cutT 10 A P root key).2.1 (cutT 10 A P root key).2.2.2.1 (cutT 10 A P root key).2.2.2.2 (mx + 40) := by
  have hget := get_good (key := key) T hon hl (by omega)
  rw [if_pos hk] at hget
  unfold cutT
  rw [hget, if_neg (by simp)]
  cases hg : getP L key with
  | none =>
    rw [if_pos (show ((0, (none : Option Byt)) : Int × Option Byt).2.isSome = false from rfl), cutP_none hg]
    exact ⟨After.refl _ _ _, hfew.mono (by omega), .inl ⟨rfl, hon, T⟩⟩
  | some u =>
    rw [if_neg (by simp)]
    exact turn_res (g := fun L => cutP L key) (acts_cut key) (fun L h => cutP_rising h key) T hon hl hP hfew
end

end Go.Proofs.YtbkadlngijkmmaaGreatDoor

/- What is answered with an error turns nothing: the walk. -/
namespace Go.Proofs.YtbkadlngijkmmaaGreatDoor
open Go.GV
theorem ag_30_TrFu : aggB Tryz.prog 30 = some true := by kernel_rfl
theorem ag_33_TrFu : aggB Tryz.prog 33 = some false := by kernel_rfl
theorem ag_34_TrFu : aggB Tryz.prog 34 = some false := by kernel_rfl
theorem ca_12_TrFu : callable Tryz.prog 12 = true := by kernel_rfl
theorem ca_13_TrFu : callable Tryz.prog 13 = true := by kernel_rfl
theorem ca_14_TrFu : callable Tryz.prog 14 = true := by kernel_rfl
theorem ca_15_TrFu : callable Tryz.prog 15 = true := by kernel_rfl
theorem ca_19_TrFu : callable Tryz.prog 19 = true := by kernel_rfl
theorem ca_20_TrFu : callable Tryz.prog 20 = true := by kernel_rfl
theorem ca_21_TrFu : callable Tryz.prog 21 = true := by kernel_rfl
theorem ca_22_TrFu : callable Tryz.prog 22 = true := by kernel_rfl
theorem ca_26_TrFu : callable Tryz.prog 26 = true := by kernel_rfl
theorem ca_27_TrFu : callable Tryz.prog 27 = true := by kernel_rfl
theorem ca_36_TrFu : callable Tryz.prog 36 = true := by kernel_rfl
theorem ca_37_TrFu : callable Tryz.prog 37 = true := by kernel_rfl
theorem ca_38_TrFu : callable Tryz.prog 38 = true := by kernel_rfl
theorem ca_39_TrFu : callable Tryz.prog 39 = true := by kernel_rfl
theorem ca_40_TrFu : callable Tryz.prog 40 = true := by kernel_rfl
theorem ca_41_TrFu : callable Tryz.prog 41 = true := by kernel_rfl
theorem ca_42_TrFu : callable Tryz.prog 42 = true := by kernel_rfl
theorem el_22_TrFu : elemT Tryz.prog 22 = some 30 := by kernel_rfl
theorem fo_30_0_TrFu : fieldO Tryz.prog 30 0 = some 0 := by kernel_rfl
theorem fo_30_1_TrFu : fieldO Tryz.prog 30 1 = some 1 := by kernel_rfl
theorem fo_30_2_TrFu : fieldO Tryz.prog 30 2 = some 2 := by kernel_rfl
theorem fo_30_3_TrFu : fieldO Tryz.prog 30 3 = some 3 := by kernel_rfl
theorem fo_36_0_TrFu : fieldO Tryz.prog 36 0 = some 0 := by kernel_rfl
theorem fo_36_1_TrFu : fieldO Tryz.prog 36 1 = some 1 := by kernel_rfl
theorem fo_36_2_TrFu : fieldO Tryz.prog 36 2 = some 2 := by kernel_rfl
theorem sz_30_TrFu : tsize Tryz.prog 30 = some 4 := by kernel_rfl
theorem un_26_TrFu : Tryz.prog.underlying 26 = some (.pointer 36) := by kernel_rfl
theorem zc_30_TrFu : zcells Tryz.prog 30 = some ([.bool false, .slice none 0 0, .slice none 0 0, .bool false]) := by kernel_rfl
theorem zc_3_TrFu : zcells Tryz.prog 3 = some ([.int .i64 0]) := by kernel_rfl
attribute [local irreducible] Wops W Wq Wt

theorem TreeAt.sameB {A A' : Dev} {P : List Nat} {root : Int} {L : List Pr} (T : TreeAt 10 A P root L) (h : A'.B = A.B) : TreeAt 10 A' P root L := by
  obtain ⟨S, h1, h2, h3⟩ := T.lies
  exact ⟨⟨S, h1.frame fun x _ => by unfold RD; rw [h], h2, h3⟩, T.rise, T.ok⟩
theorem After.still {A A' : Dev} {P : List Nat} {root : Int} {L : List Pr} (T : TreeAt 10 A P root L) (af : After 10 A P A' P) : TreeAt 10 A' P root L := by
  obtain ⟨S, h1, h2, h3⟩ := T.lies
  refine ⟨⟨S, h1.frame fun x hx => ?_, h2, h3⟩, T.rise, T.ok⟩
  unfold RD
  rw [af.blk (10 + x) fun y hy he => ?_]
  obtain rfl : x = y := by omega
  rcases (h3 x).1 hx with h | h
  · rw [hy] at h; cases h
  · rw [hy] at h; cases h
section
variable {w0 w w' : World} {bx bt bd bp ba n : Nat} {root : Int} {L : List Pr} {i : Nat} {A A' : Dev} {P : List Nat} {F : Mut}
theorem Std.next (s : Std w0 w bx bt bd bp ba n root L i A P F) : Std w0 w bx bt bd bp ba n root L (i + 1) A P F :=
  ⟨s.D, s.T, s.on, s.left, s.num, s.blen, s.few.mono (by omega), by have := s.li; omega, s.new, s.hx⟩
/-- A desk that stands, armed or not. -/
structure Armd (w0 w : World) (bx bt bd bp ba n : Nat) (root : Int) (L : List Pr) (i : Nat) (A : Dev) (P : List Nat) (F : Mut) : Prop where
  D : Dk w bx bt bd bp ba A P F
  T : TreeAt 10 A P root L
  on : A.on = true
  num : P.length = n
  blen : A.B.length = 10 + n
  few : Few A (40 * i)
  li : L.length ≤ i
  new : ∀ x, TM F ba bt bp [] x → w0.heap.size ≤ x
  hx : Ext [] w0 w
  sure : A.left = -1 ∨ ∀ p ∈ A.B, p.2 = []
theorem Std.armd (s : Std w0 w bx bt bd bp ba n root L i A P F) : Armd w0 w bx bt bd bp ba n root L i A P F := ⟨s.D, s.T, s.on, s.num, s.blen, s.few, s.li, s.new, s.hx, .inl s.left⟩
theorem Armd.call (s : Armd w0 w bx bt bd bp ba n root L i A P F) (hx : Ext [] w w') : Armd w0 w' bx bt bd bp ba n root L i A P F :=
  ⟨s.D.call hx, s.T, s.on, s.num, s.blen, s.few, s.li, s.new, s.hx.trans hx, s.sure⟩
theorem Std.arms (s : Std w0 w bx bt bd bp ba n root L i A P F) (hs : ∀ p ∈ A.B, p.2 = []) (k : Int) (D' : DevAt w' bd (armD A k) F) (t : Turn F w w') :
    Armd w0 w' bx bt bd bp ba n root L i (armD A k) P F ∧ Grown (TM F ba bt bp []) (TM F ba bt bp []) w w' := by
  obtain ⟨h1, h2⟩ := s.D.T.devs D' t (fun x h => .inl h)
  have hB : (armD A k).B = A.B := by unfold armD; rw [s.on]; rfl
  have hon : (armD A k).on = true := by unfold armD; rw [s.on]; rfl
  exact ⟨⟨s.D.step h1 h2, s.T.sameB hB, hon, s.num, by rw [hB]; exact s.blen, fun p hp => s.few p (by rw [← hB]; exact hp), s.li, s.new, h2.1.new s.hx s.new, .inr fun p hp => hs p (by rw [← hB]; exact hp)⟩, h2⟩
end
/-- What a step leaves of a tree, with an error or without. -/
def Left7 (e : Int) (A : Dev) (P : List Nat) (root : Int) (L : List Pr) : Prop :=
  (e ≠ 8 ∧ A.on = true ∧ TreeAt 10 A P root L) ∨ (e = 8 ∧ A.on = false ∧ ∀ picks, TreeAt 10 ⟨keepB A.B picks, -1, true⟩ P root L)
theorem left_err {A A' : Dev} {P P' : List Nat} {root r' : Int} {L L' : List Pr} {e : Int} {mx : Nat} (T : TreeAt 10 A P root L) (R : Res A P L' e r' A' P' mx) (he : e ≠ 0) (hs : A.left = -1 ∨ ∀ p ∈ A.B, p.2 = []) (hl : 10 + P.length ≤ A.B.length) :
    P' = P ∧ Left7 e A' P' root L ∧ (e = 8 ∨ e = 7 ∧ freeP P < 17) := by
  have af := R.aft
  rcases R.out with ⟨h, _⟩ | ⟨h1, h2, h3, rfl⟩ | ⟨h1, h2, h3, rfl⟩
  · exact absurd h he
  · refine ⟨rfl, .inr ⟨h1, h3, fun picks => ?_⟩, .inl h1⟩
    exact (crash_tree T af.blk af.blen (hs.elim (fun h => absurd h h2) id) hl picks).1
  · exact ⟨rfl, .inl ⟨by omega, h3, af.still T⟩, .inr ⟨h1, h2⟩⟩
theorem Left7.calm {e : Int} {A : Dev} {P : List Nat} {root : Int} {L : List Pr} (h : Left7 e A P root L) (he : ¬ e = 8) : A.on = true ∧ TreeAt 10 A P root L := h.elim And.right fun h => absurd h.1 he
theorem Left7.off {e : Int} {A : Dev} {P : List Nat} {root : Int} {L : List Pr} (h : Left7 e A P root L) (he : e = 8) : A.on = false ∧ ∀ picks, TreeAt 10 ⟨keepB A.B picks, -1, true⟩ P root L := h.elim (fun h => absurd he h.1) And.right
theorem rk_not (k v : Nat) : (!rightK k v) = (bif !(decide (1 ≤ k) && decide (k ≤ 32)) then true else !decide (v ≤ 128)) := by
  unfold rightK
  cases decide (1 ≤ k) <;> cases decide (k ≤ 32) <;> rfl
def u8v (s : Nat) : Value := .int .u8 (s : Int)

structure Fv where
  root : Int
  la : Option Addr
  lc : Nat
  L : List Pr
  i : Nat
  A : Dev
  P : List Nat
  F : Mut

set_option maxRecDepth 20000 in
set_option maxHeartbeats 16000000 in
theorem treeFull_ok (few : Nat) (a : Option Addr) (c : Nat) (l : List Sm) (arm : Int) (w : World) (hf : few ≤ 255) (R : Rd w a 4 Sm.enc l) (hin : ∀ x ∈ l, x.In w) :
    Ret Tryz.prog 6 #[.int .u8 (few : Int), .slice a l.length c, .int .i64 arm] w fun v w' => v = .bool true ∧ Ext [] w w' := by
  obtain ⟨w0, rfl⟩ : ∃ w0, w0 = w := ⟨_, rfl⟩
  refine ret_of_W (fn := Tryz.f6) Tryz.func6 rfl [.int .u8 (few : Int), .slice a l.length c, .int .i64 arm] rfl (by kernel_rfl) ?_
  refine W_rseq ?_
  refine op_assign rfl (.bool _) rfl ?_
  refine op_nil (at_then ?_)
  refine W_seq ?_
  refine W_rseq ?_
  refine op_move rfl (.slice _ _ _) rfl ?_
  refine op_call rfl ca_12_TrFu (heavy7_ok a c l _ R) rfl ?_
  rintro v w ⟨rfl, rfl⟩
  refine op_nil (at_then ?_)
  refine W_cond _ rfl ?_ ?_
  · intro hA
    refine W_rseq ?_
    refine op_call rfl ca_13_TrFu (works7_ok _) rfl ?_
    rintro v w ⟨rfl, hxw⟩
    refine op_assign rfl (.bool _) rfl ?_
    refine op_nil (at_then ?_)
    refine W_ret (ret_then (leave1 (v := (.bool _)) rfl rfl rfl ?_))
    exact ⟨rfl, hxw⟩
  · intro hA
    obtain ⟨hl3, hsm⟩ := light7 hA
    obtain ⟨n, hn⟩ : ∃ n : Nat, n = 1 + few % 60 := ⟨_, rfl⟩
    refine W_skip (at_then ?_)
    refine W_rseq ?_
    refine op_move rfl (.int _ _) rfl ?_
    refine op_conv_i64 rfl rfl un_5 un_3 (by omega) (by omega) ?_
    refine op_rem rfl rfl rfl (by omega) (by omega) ?_
    refine op_add_i64 rfl rfl rfl (by omega) (by omega) ?_
    rw [show (1 : Int) + (few : Int) % 60 = (n : Int) by omega]
    refine op_assign rfl (.int _ _) rfl ?_
    refine op_nil (at_then ?_)
    refine W_rseq ?_
    refine op_move rfl (.int _ _) rfl ?_
    refine op_call rfl ca_14_TrFu (opened_ok n (by omega) (by omega) _) rfl ?_
    rintro v w1 ⟨bx, bt, bd, bp, ba, F0, rfl, D, hx, hnew, -⟩
    refine op_assign rfl (.pointer _) rfl ?_
    refine op_nil (at_then ?_)
    refine W_seq ?_
    refine W_rseq ?_
    refine op_move rfl (.pointer _) rfl ?_
    refine op_eqlptr rfl un_26_TrFu rfl ?_
    refine op_nil (at_then ?_)
    refine W_cond0 rfl ?_
    refine W_skip (at_then ?_)
    refine W_rseq ?_
    refine op_assign rfl (.int _ _) rfl ?_
    refine op_nil (at_then ?_)
    refine W_rseq ?_
    refine op_assign rfl (.slice _ _ _) rfl ?_
    refine op_nil (at_then ?_)
    refine W_seq ?_
    refine W_rseq ?_
    refine op_assign rfl (.int _ _) rfl ?_
    refine op_nil (at_then ?_)
    refine W_block ?_
    refine W_loop 6582018229284824168619876730229402019930943462534319452321218112 (α := Fv) (fun s => [(9, .int .i64 s.root), (10, .slice s.la s.L.length s.lc), (11, .int .i64 (s.i : Int))]) (fun s w' => s.i ≤ l.length ∧ Std w0 w' bx bt bd bp ba n s.root s.L s.i s.A s.P s.F ∧ Prs w' (TM s.F ba bt bp []) s.la s.L.length s.lc s.L) (fun s => l.length - s.i) ⟨-1, none, 0, [], 0, newD (10 + n), List.replicate n 0, F0⟩ rfl ?_ ?_ ?_
    · exact ⟨rfl, rfl, rfl, trivial⟩
    · exact ⟨Nat.zero_le _, ⟨D, new_tree n, rfl, rfl, List.length_replicate .., newD_len _, new_few7 _, Nat.le_refl _, hnew, hx⟩, Prs.nil⟩
    · rintro ⟨root, la, lc, L, i, A, P, F⟩ j w ⟨hi, s, PL⟩; dsimp only at hi s PL; dsimp only
      have hL := s.li
      refine W_seq ?_
      refine W_rseq ?_
      refine op_move rfl (.int _ _) rfl ?_
      refine op_move rfl (.slice _ _ _) rfl ?_
      refine op_len rfl el_22_TrFu rfl ?_
      refine op_lss rfl rfl rfl ?_
      refine op_nil (at_then ?_)
      refine W_cond _ rfl ?_ ?_
      · intro h1
        replace h1 := dec_t h1
        obtain ⟨m, hm⟩ := get_some (l := l) (i := i) (by omega)
        have hmm := List.mem_of_getElem? hm
        obtain ⟨hk200, hv500⟩ := hsm m hmm
        have hmi := hin m hmm
        obtain ⟨wa, rfl⟩ : ∃ z, z = w := ⟨_, rfl⟩
        have H := Ctx.start wa []
        refine W_skip (at_then ?_)
        refine W_seq ?_
        refine W_block ?_
        refine W_rseq ?_
        refine op_move rfl (.slice _ _ _) rfl ?_
        refine op_move rfl (.int _ _) rfl ?_
        first | refine op_indexRd R rfl el_22_TrFu sz_30_TrFu rfl rfl (by omega) (by omega) (by first | rfl | omega) ?_ | refine op_indexAddr rfl el_22_TrFu sz_30_TrFu rfl rfl (by omega) (by omega) ?_
        first | refine op_ldN _ rfl ag_30_TrFu sz_30_TrFu rfl rfl ((R.ext0 (s.hx.trans H.ext)).row hm rfl) ?_ | refine op_ldbN rfl ag_30_TrFu sz_30_TrFu rfl H (by first | exact at0 | exact at1 | exact at2 | exact at3 | exact at4 | exact at5 | exact at6 | exact at7 | exact at8 | exact at9) rfl ?_
        refine op_alloc rfl zc_30_TrFu H ?_
        rintro b12 w - H
        refine op_stb0 rfl sz_30_TrFu rfl rfl rfl (Sm.oneE m) H at0 rfl ?_
        rintro w H
        refine op_nil (at_then ?_)
        refine W_seq ?_
        obtain ⟨wb, rfl⟩ : ∃ z, z = w := ⟨_, rfl⟩
        have hb12 := H.get at0
        have hb12n : w0.heap.size ≤ b12 := (H.own _ (List.mem_cons_self ..)).elim (fun h => by cases h) fun h => Nat.le_trans s.hx.size h
        have hn12 : ¬ TM F ba bt bp [] b12 := fun h => by
          have h1 := s.D.T.mlt _ h
          have h2 := (H.own _ (List.mem_cons_self ..)).elim (fun h => by cases h) id
          dsimp only at h2; omega
        have s1 := s.call H.ext
        have PL1 := PL.turn (.call0 H.ext)
        have H := Ctx.start wb []
        have hdk1 := s1.D.dk
        obtain ⟨hfe, hfd⟩ := flush_calm s.on s.left
        have hff := flush_few s.few
        rw [hfd] at hff
        refine W_rseq (Wops_join (α := Unit) 288229276640083968 (fun _ => [(57, .bool (false))]) (fun _ w' => ∃ A' P', Std w0 w' bx bt bd bp ba n root L i A' P' F ∧ Prs w' (TM F ba bt bp []) la L.length lc L ∧ w'.heap[b12]? = some (Bl 30 m.enc)) rfl ?_ ?_)
        · refine op_fieldAddr rfl fo_30_3_TrFu rfl ?_
          first | refine op_ldb rfl ag_4 rfl H (by first | exact at0 | exact at1 | exact at2 | exact at3 | exact at4 | exact at5 | exact at6 | exact at7 | exact at8 | exact at9) rfl ?_ | refine op_ld rfl ag_4 rfl ((by rw [cell_bl hb12]; rfl)) ?_ | refine op_ld rfl ag_4 rfl ((by rw [cell_bl hdk1]; rfl)) ?_ | refine op_ld rfl ag_4 rfl ((by rw [cell_bl hdk2]; rfl)) ?_
          refine op_move rfl (.bool _) rfl ?_
          refine Wops_split 42 rfl ?_ ?_
          · intro h1
            refine op_move rfl (.pointer _) rfl ?_
            refine op_nilCheck rfl rfl ?_
            refine op_fieldAddr rfl fo_36_1_TrFu rfl ?_
            first | refine op_ldb rfl ag_33_TrFu rfl H (by first | exact at0 | exact at1 | exact at2 | exact at3 | exact at4 | exact at5 | exact at6 | exact at7 | exact at8 | exact at9) rfl ?_ | refine op_ld rfl ag_33_TrFu rfl ((by rw [cell_bl hb12]; rfl)) ?_ | refine op_ld rfl ag_33_TrFu rfl ((by rw [cell_bl hdk1]; rfl)) ?_ | refine op_ld rfl ag_33_TrFu rfl ((by rw [cell_bl hdk2]; rfl)) ?_
            refine op_call rfl ca_15_TrFu (psettle_ok s1.D.T.pg) rfl ?_
            rintro v w2 ⟨rfl, PA2, hx2⟩
            obtain ⟨s2, g2⟩ := s1.settle PA2 hx2
            have hb2 := g2.keep hb12 hn12
            have hdk2 := s2.D.dk
            have H := Ctx.start w2 []
            refine op_neq rfl rfl rfl ?_
            refine op_move rfl (.bool _) rfl ?_
            refine op_move rfl (.pointer _) rfl ?_
            refine op_nilCheck rfl rfl ?_
            refine op_fieldAddr rfl fo_36_0_TrFu rfl ?_
            first | refine op_ldb rfl ag_32 rfl H (by first | exact at0 | exact at1 | exact at2 | exact at3 | exact at4 | exact at5 | exact at6 | exact at7 | exact at8 | exact at9) rfl ?_ | refine op_ld rfl ag_32 rfl ((by rw [cell_bl hb12]; rfl)) ?_ | refine op_ld rfl ag_32 rfl ((by rw [cell_bl hdk1]; rfl)) ?_ | refine op_ld rfl ag_32 rfl ((by rw [cell_bl hdk2]; rfl)) ?_
            refine op_call rfl ca_36_TrFu (dflush_ok s2.few (by omega) s2.D.T.dev) rfl ?_
            rintro v w3 ⟨rfl, DA3, t3⟩
            rw [hfe]
            rw [hfd] at DA3
            obtain ⟨s3, g3⟩ := s2.dev DA3 t3 (sure_tree s2.T) s.on s.left (List.length_map ..) hff
            refine op_neq rfl rfl rfl ?_
            refine op_pick0 rfl rfl (.bool _) rfl ?_
            refine op_pick1 rfl rfl (.bool _) rfl ?_
            refine op_nil ?_
            exact ⟨rfl, (), rfl, ⟨congrArg Value.bool (rfl), trivial⟩, by first | exact ⟨_, _, s3, (PL1.turn g2).turn g3, g3.keep hb2 hn12⟩ | exact ⟨_, _, s1, PL1, hb12⟩⟩
          · intro h2
            refine op_skip rfl ?_
            refine op_skip rfl ?_
            refine op_skip rfl ?_
            refine op_skip rfl ?_
            refine op_skip rfl ?_
            refine op_skip rfl ?_
            refine op_skip rfl ?_
            refine op_skip rfl ?_
            refine op_skip rfl ?_
            refine op_skip rfl ?_
            refine op_skip rfl ?_
            refine op_skip rfl ?_
            refine op_skip rfl ?_
            refine op_skip rfl ?_
            refine op_pick0 rfl rfl (.bool _) rfl ?_
            refine op_nil ?_
            exact ⟨rfl, (), rfl, ⟨congrArg Value.bool (rfl), trivial⟩, by first | exact ⟨_, _, s3, (PL1.turn g2).turn g3, g3.keep hb2 hn12⟩ | exact ⟨_, _, s1, PL1, hb12⟩⟩
        rintro - j57 w ⟨A2, P2, s2, PL2, hb2⟩
        refine W_cond0 rfl ?_
        refine W_skip (at_then ?_)
        refine W_seq ?_
        obtain ⟨w2, rfl⟩ : ∃ z, z = w := ⟨_, rfl⟩
        have H := Ctx.start w2 []
        refine W_rseq (Wops_join (α := Unit) 294859674803201114112 (fun _ => [(67, .bool (!rightK m.s.key.length m.s.val.length))]) (fun _ w' => w2 = w') rfl ?_ ?_)
        · refine op_fieldAddr rfl fo_30_1_TrFu rfl ?_
          first | refine op_ldb rfl ag_23 rfl H (by first | exact at0 | exact at1 | exact at2 | exact at3 | exact at4 | exact at5 | exact at6 | exact at7 | exact at8 | exact at9) rfl ?_ | refine op_ld rfl ag_23 rfl ((by rw [cell_bl hb2]; rfl)) ?_
          refine op_call rfl ca_19_TrFu (mayKey_ok m.ka m.s.key.length m.kc w2) rfl ?_
          rintro v w5 ⟨rfl, rfl⟩
          refine op_not rfl rfl ?_
          refine op_move rfl (.bool _) rfl ?_
          refine Wops_split 62 rfl ?_ ?_
          · intro h3
            replace h3 := nvar_t h3
            refine op_skip rfl ?_
            refine op_skip rfl ?_
            refine op_skip rfl ?_
            refine op_skip rfl ?_
            refine op_pick1 rfl rfl (.bool _) rfl ?_
            refine op_nil ?_
            exact ⟨rfl, (), rfl, ⟨congrArg Value.bool (by first | (rw [rk_not, ‹(decide (1 ≤ m.s.key.length) && decide (m.s.key.length ≤ 32)) = false›]; rfl) | (rw [rk_not, ‹(decide (1 ≤ m.s.key.length) && decide (m.s.key.length ≤ 32)) = true›]; rfl)), trivial⟩, rfl⟩
          · intro h4
            replace h4 := nvar_f h4
            refine op_fieldAddr rfl fo_30_2_TrFu rfl ?_
            first | refine op_ldb rfl ag_23 rfl H (by first | exact at0 | exact at1 | exact at2 | exact at3 | exact at4 | exact at5 | exact at6 | exact at7 | exact at8 | exact at9) rfl ?_ | refine op_ld rfl ag_23 rfl ((by rw [cell_bl hb2]; rfl)) ?_
            refine op_call rfl ca_37_TrFu (mayVal_ok m.va m.s.val.length m.vc w2) rfl ?_
            rintro v w5 ⟨rfl, rfl⟩
            refine op_not rfl rfl ?_
            refine op_pick0 rfl rfl (.bool _) rfl ?_
            refine op_nil ?_
            exact ⟨rfl, (), rfl, ⟨congrArg Value.bool (by first | (rw [rk_not, ‹(decide (1 ≤ m.s.key.length) && decide (m.s.key.length ≤ 32)) = false›]; rfl) | (rw [rk_not, ‹(decide (1 ≤ m.s.key.length) && decide (m.s.key.length ≤ 32)) = true›]; rfl)), trivial⟩, rfl⟩
        rintro - j67 w rfl
        refine W_cond _ rfl ?_ ?_
        · intro hk
          replace hk := nvar_t hk
          refine W_exit (exit_then (exit_here (at_then ?_)))
          refine W_region ?_
          refine op_move rfl (.int _ _) rfl ?_
          refine op_add_i64 rfl rfl rfl (by omega) (by omega) ?_
          refine op_assign rfl (.int _ _) rfl ?_
          refine op_nil (at_then ?_)
          exact ⟨⟨root, la, lc, L, i + 1, A2, P2, F⟩, rfl, ⟨rfl, rfl, rfl, trivial⟩, ⟨by dsimp only; omega, s2.next, PL2⟩, by dsimp only; omega⟩
        · intro hk
          replace hk := nvar_f hk
          have hk : rightK m.s.key.length m.s.val.length = true := by simpa using hk
          have hkk : rightK m.s.key.length 0 = true := by unfold rightK at hk ⊢; simp only [Bool.and_eq_true, decide_eq_true_eq] at hk ⊢; omega
          have hstep : stepL m.s L = if m.s.cut = true then cutP L m.s.key else putP L m.s.key m.s.val := by unfold stepL; rw [if_pos hk, if_pos hkk]
          obtain ⟨hfe, hfd⟩ := flush_calm s2.on s2.left
          have hff := flush_few s2.few
          rw [hfd] at hff
          have hdk2 := s2.D.dk
          refine W_skip (at_then ?_)
          refine W_seq ?_
          refine W_rseq (Wops_join (α := Unit) 618969724494784958096736256 (fun _ => [(88, .bool (false))]) (fun _ w' => ∃ A', Armd w0 w' bx bt bd bp ba n root L i A' P2 F ∧ Prs w' (TM F ba bt bp []) la L.length lc L ∧ w'.heap[b12]? = some (Bl 30 m.enc)) rfl ?_ ?_)
          · refine op_move rfl (.int _ _) rfl ?_
            refine op_rem rfl rfl rfl (by omega) (by omega) ?_
            refine op_eql rfl rfl rfl ?_
            refine op_move rfl (.bool _) rfl ?_
            refine Wops_split 71 rfl ?_ ?_
            · intro h5
              replace h5 := dec_t h5
              refine op_move rfl (.pointer _) rfl ?_
              refine op_nilCheck rfl rfl ?_
              refine op_fieldAddr rfl fo_36_0_TrFu rfl ?_
              first | refine op_ldb rfl ag_32 rfl H (by first | exact at0 | exact at1 | exact at2 | exact at3 | exact at4 | exact at5 | exact at6 | exact at7 | exact at8 | exact at9) rfl ?_ | refine op_ld rfl ag_32 rfl ((by rw [cell_bl hdk2]; rfl)) ?_ | refine op_ld rfl ag_32 rfl ((by rw [cell_bl hdk3]; rfl)) ?_
              refine op_call rfl ca_36_TrFu (dflush_ok s2.few (by omega) s2.D.T.dev) rfl ?_
              rintro v w3 ⟨rfl, DA3, t3⟩
              rw [hfe]
              rw [hfd] at DA3
              obtain ⟨s3, g3⟩ := s2.dev DA3 t3 (sure_tree s2.T) s2.on s2.left (List.length_map ..) hff
              have hdk3 := s3.D.dk
              refine op_neq rfl rfl rfl ?_
              refine op_move rfl (.bool _) rfl ?_
              refine op_move rfl (.pointer _) rfl ?_
              refine op_nilCheck rfl rfl ?_
              refine op_fieldAddr rfl fo_36_0_TrFu rfl ?_
              first | refine op_ldb rfl ag_32 rfl H (by first | exact at0 | exact at1 | exact at2 | exact at3 | exact at4 | exact at5 | exact at6 | exact at7 | exact at8 | exact at9) rfl ?_ | refine op_ld rfl ag_32 rfl ((by rw [cell_bl hdk2]; rfl)) ?_ | refine op_ld rfl ag_32 rfl ((by rw [cell_bl hdk3]; rfl)) ?_
              refine op_move rfl (.int _ _) rfl ?_
              refine op_remt rfl rfl rfl (by omega) ?_
              refine op_call rfl ca_38_TrFu (darm_ok (arm.tmod 8) (by have := Int.tmod_lt_of_pos arm (show (0 : Int) < 8 by decide); omega) s3.D.T.dev) rfl ?_
              rintro v w4 ⟨rfl, DA4, t4⟩
              rw [show armE (sureD A2) = 0 from by unfold armE; rw [s3.on]; rfl]
              obtain ⟨s4, g4⟩ := s3.arms (sure_sure A2) _ DA4 t4
              refine op_neq rfl rfl rfl ?_
              refine op_pick0 rfl rfl (.bool _) rfl ?_
              refine op_pick1 rfl rfl (.bool _) rfl ?_
              refine op_nil ?_
              exact ⟨rfl, (), rfl, ⟨congrArg Value.bool (by first | rfl | simp), trivial⟩, by first | exact ⟨_, s4, (PL2.turn g3).turn g4, g4.keep (g3.keep hb2 hn12) hn12⟩ | exact ⟨_, s2.armd, PL2, hb2⟩⟩
            · intro h6
              replace h6 := dec_f h6
              refine op_skip rfl ?_
              refine op_skip rfl ?_
              refine op_skip rfl ?_
              refine op_skip rfl ?_
              refine op_skip rfl ?_
              refine op_skip rfl ?_
              refine op_skip rfl ?_
              refine op_skip rfl ?_
              refine op_skip rfl ?_
              refine op_skip rfl ?_
              refine op_skip rfl ?_
              refine op_skip rfl ?_
              refine op_skip rfl ?_
              refine op_skip rfl ?_
              refine op_skip rfl ?_
              refine op_skip rfl ?_
              refine op_pick0 rfl rfl (.bool _) rfl ?_
              refine op_nil ?_
              exact ⟨rfl, (), rfl, ⟨congrArg Value.bool (by first | rfl | simp), trivial⟩, by first | exact ⟨_, s4, (PL2.turn g3).turn g4, g4.keep (g3.keep hb2 hn12) hn12⟩ | exact ⟨_, s2.armd, PL2, hb2⟩⟩
          rintro - j88 w ⟨A3, s3, PL3, hb3⟩
          refine W_cond0 rfl ?_
          refine W_skip (at_then ?_)
          obtain ⟨w3, rfl⟩ : ∃ z, z = w := ⟨_, rfl⟩
          have H := Ctx.start w3 []
          have hdk3 := s3.D.dk
          have hP3 := s3.D.T.pg
          have hnum := s3.num
          refine W_rseq ?_
          refine op_move rfl (.pointer _) rfl ?_
          refine op_nilCheck rfl rfl ?_
          refine op_fieldAddr rfl fo_36_1_TrFu rfl ?_
          first | refine op_ldb rfl ag_33_TrFu rfl H (by first | exact at0 | exact at1 | exact at2 | exact at3 | exact at4 | exact at5 | exact at6 | exact at7 | exact at8 | exact at9) rfl ?_ | refine op_ld rfl ag_33_TrFu rfl ((by rw [cell_bl (show _ = some (Bl 36 [ptr bd, ptr bp, ptr bt]) from (by rw [H.ext.block bx (heap_lt hdk3) (by simp)]; exact hdk3))]; rfl)) ?_
          refine op_call rfl ca_22_TrFu (pfree_ok hP3) rfl ?_
          rintro v w5 ⟨rfl, rfl⟩
          refine op_assign rfl (.int _ _) rfl ?_
          refine op_nil (at_then ?_)
          refine W_rseq ?_
          refine op_assign rfl (.slice _ _ _) rfl ?_
          refine op_nil (at_then ?_)
          refine W_seq ?_
          refine W_rseq ?_
          refine op_assign rfl (.int _ _) rfl ?_
          refine op_nil (at_then ?_)
          refine W_block ?_
          have H := Ctx.start w3 []
          refine W_loop 324498746617798160698757634637824 (α := Nat × Option Addr × Nat × List Value) (fun s => [(15, .int .i64 (s.1 : Int)), (14, .slice s.2.1 s.1 s.2.2.1)]) (fun s w' => s.1 ≤ n ∧ Ctx w3 [] w' (ent s.2.1 5 s.2.2.2) ∧ OS s.2.1 s.1 s.2.2.1 1 s.2.2.2 ((P2.take s.1).map u8v)) (fun s => n - s.1) (0, none, 0, []) rfl ?_ ?_ ?_
          · exact ⟨rfl, rfl, trivial⟩
          · exact ⟨Nat.zero_le _, H, OS.nil⟩
          · rintro ⟨k, ak, ck, fk⟩ j w ⟨hk7, H, OA⟩; dsimp only at hk7 H OA; dsimp only
            refine W_seq ?_
            refine W_rseq ?_
            refine op_move rfl (.int _ _) rfl ?_
            refine op_move rfl (.int _ _) rfl ?_
            refine op_lss rfl rfl rfl ?_
            refine op_nil (at_then ?_)
            refine W_cond _ rfl ?_ ?_
            · intro h2
              replace h2 := dec_t h2
              obtain ⟨sk, hsk⟩ := get_some (l := P2) (i := k) (by omega)
              have hs3 := hP3.ok sk (List.mem_of_getElem? hsk)
              refine W_skip (at_then ?_)
              refine W_seq ?_
              refine W_block ?_
              refine W_region ?_
              refine op_move rfl (.slice _ _ _) rfl ?_
              refine op_move rfl (.pointer _) rfl ?_
              refine op_nilCheck rfl rfl ?_
              refine op_fieldAddr rfl fo_36_1_TrFu rfl ?_
              first | refine op_ldb rfl ag_33_TrFu rfl H (by first | exact at0 | exact at1 | exact at2 | exact at3 | exact at4 | exact at5 | exact at6 | exact at7 | exact at8 | exact at9) rfl ?_ | refine op_ld rfl ag_33_TrFu rfl ((by rw [cell_bl (show _ = some (Bl 36 [ptr bd, ptr bp, ptr bt]) from (by rw [H.ext.block bx (heap_lt hdk3) (by simp)]; exact hdk3))]; rfl)) ?_
              refine op_move rfl (.int _ _) rfl ?_
              refine op_call rfl ca_39_TrFu (pstate_ok (hP3.keep H.ext (by simp) (by simp)) k hsk) rfl ?_
              rintro v w6 ⟨rfl, rfl⟩
              refine op_build1 _ (.int _ _) rfl el_23 sz_5 zc_5 rfl (by decide) (by decide) rfl rfl rfl H ?_
              rintro b106 w - H
              refine op_appendb (L := []) rfl el_23 el_23 sz_5 by_5 zc_5 rfl (by decide) rfl rfl H OA rfl (by simp [oneCell]) (by omega) ?_
              rintro a8 c8 f8 w H OB
              refine op_assign rfl (.slice _ _ _) rfl ?_
              refine op_nil (at_block (at_then ?_))
              refine W_region ?_
              refine op_move rfl (.int _ _) rfl ?_
              refine op_add_i64 rfl rfl rfl (by omega) (by omega) ?_
              refine op_assign rfl (.int _ _) rfl ?_
              refine op_nil (at_then ?_)
              exact ⟨(k + 1, a8, c8, f8), rfl, ⟨rfl, rfl, trivial⟩, ⟨by dsimp only; omega, H, by dsimp only; rw [take_snoc hsk, List.map_append]; exact OB⟩, by dsimp only; omega⟩
            · intro h2
              replace h2 := dec_f h2
              obtain rfl : n = k := by omega
              rw [List.take_of_length_le (by omega)] at OA
              have hxw := H.ext
              have RW : Rd w ak 1 (fun s : Nat => [.int .u8 (s : Int)]) P2 := OS.rd1 (f := u8v) OA fun y hy => H.blk y hy
              have hRW : P2 = [] ∨ ¬ TM F ba bt bp [] (adr ak).block := by
                cases hak : ak with
                | none => exact .inl (List.eq_nil_of_length_eq_zero (by have h8 := OA.le; have h9 := OA.none' hak; omega))
                | some q =>
                  subst hak
                  refine .inr fun h => ?_
                  have h8 := s3.D.T.mlt _ h
                  have h9 := (H.own (q.block, _) (List.mem_singleton.2 rfl)).elim (fun h => by cases h) id
                  obtain ⟨qb, qo, qs⟩ := q
                  dsimp only [adr] at h8 h9
                  omega
              obtain ⟨w4, rfl⟩ : ∃ z, z = w := ⟨_, rfl⟩
              have s4 := s3.call hxw
              have PL4 := PL3.turn (.call0 hxw)
              have hb4 := (Grown.call0 (F := TM F ba bt bp []) hxw).keep hb3 hn12
              have hdk4 := s4.D.dk
              have hl4 : 10 + P2.length ≤ A3.B.length := by rw [s3.blen, hnum]; exact Nat.le_refl _
              obtain ⟨S4, td4, -, -⟩ := s4.T.told s4.on hl4 (by omega)
              have hlo := td4.rlo; have hhi := td4.rhi
              have H := Ctx.start w4 []
              refine W_exit (exit_then (exit_then (exit_here (at_then ?_))))
              refine W_rseq ?_
              refine op_move rfl (.int _ _) rfl ?_
              refine op_assign rfl (.int _ _) rfl ?_
              refine op_nil (at_then ?_)
              refine W_rseq ?_
              refine op_assign rfl (.int _ _) rfl ?_
              refine op_nil (at_then ?_)
              refine W_seq ?_
              refine W_rseq ?_
              refine op_fieldAddr rfl fo_30_0_TrFu rfl ?_
              first | refine op_ldb rfl ag_4 rfl H (by first | exact at0 | exact at1 | exact at2 | exact at3 | exact at4 | exact at5 | exact at6 | exact at7 | exact at8 | exact at9) rfl ?_ | refine op_ld rfl ag_4 rfl ((by rw [cell_bl hb4]; rfl)) ?_
              refine op_nil (at_then ?_)
              refine W_joinK 87112283335611817379210085237284497719296 (α := Int × Int × Dev × List Nat × Mut) (fun s => [(16, .int .i64 s.1), (17, .int .i64 s.2.1)]) (fun s w' => Res A3 P2 (stepL m.s L) s.2.1 s.1 s.2.2.1 s.2.2.2.1 (40 * i + 40) ∧ Dk w' bx bt bd bp ba s.2.2.1 s.2.2.2.1 s.2.2.2.2 ∧ Grown (TM F ba bt bp []) (TM s.2.2.2.2 ba bt bp []) w4 w') rfl ?_ ?_
              · skip
                refine W_cond _ rfl ?_ ?_
                · intro hC
                  rw [hstep, if_pos hC]
                  have hres := cut_res s4.T s4.on hl4 (by omega) s4.few hkk
                  obtain ⟨ct, hct⟩ : ∃ ct, ct = cutT 10 A3 P2 root m.s.key := ⟨_, rfl⟩
                  have hok99 : (cutT 10 A3 P2 root m.s.key).1 ≠ 99 := hres.not99
                  rw [← hct] at hres
                  have hdr := Grown.call0 (F := TM F ba bt bp []) (Ext.drew [] w4)
                  refine W_segz [([0, 1, 2, 3, 4, 5, 6], 7), ([8, 9, 10, 11, 12], 13)] (fun z => z.heap[bx]? = some (Bl 36 [ptr bd, ptr bp, ptr bt]) ∧ z.heap[b12]? = some (Bl 30 m.enc)) [] mixed (by kernel_rfl) (⟨hdk4, hb4⟩) ?_
                  refine seg_cons rfl rfl ?_
                  refine t_move rfl (.pointer _) rfl ?_
                  refine t_nilCheck rfl rfl ?_
                  refine t_fieldAddr rfl fo_36_2_TrFu rfl ?_
                  first | refine t_ldb rfl ag_34_TrFu rfl (fun _ _ => Ctx.start _ []) (by first | exact at0 | exact at1 | exact at2 | exact at3 | exact at4 | exact at5 | exact at6 | exact at7 | exact at8 | exact at9) rfl ?_ | refine t_ld rfl ag_34_TrFu rfl (fun _ hx => (by rw [cell_bl hx.1]; rfl)) ?_ | refine t_ld rfl ag_34_TrFu rfl (fun _ hx => (by rw [cell_bl hx.2]; rfl)) ?_
                  refine t_move rfl (.int _ _) rfl ?_
                  refine t_fieldAddr rfl fo_30_1_TrFu rfl ?_
                  first | refine t_ldb rfl ag_23 rfl (fun _ _ => Ctx.start _ []) (by first | exact at0 | exact at1 | exact at2 | exact at3 | exact at4 | exact at5 | exact at6 | exact at7 | exact at8 | exact at9) rfl ?_ | refine t_ld rfl ag_23 rfl (fun _ hx => (by rw [cell_bl hx.1]; rfl)) ?_ | refine t_ld rfl ag_23 rfl (fun _ hx => (by rw [cell_bl hx.2]; rfl)) ?_
                  refine t_nil ?_
                  skip
                  refine op_call rfl ca_27_TrFu (cut8_ok (by omega) (s4.D.call (Ext.drew [] w4)).T root (by omega) (by omega) m.ka m.kc _ m.s.key (.of0 hmi.k (s4.hx.trans (Ext.drew [] w4)) s4.new) rfl (by omega) s4.few (by omega) hok99) rfl ?_
                  rintro v w5 ⟨F5, rfl, T5, g5⟩
                  rw [← hct] at T5
                  rw [← hct]
                  have g45 := hdr.trans g5
                  have D5 := s4.D.step T5 g45
                  have hb5 := g45.keep hb4 hn12
                  refine op_nil (at_seg (⟨D5.dk, hb5⟩) ?_)
                  refine seg_cons rfl rfl ?_
                  refine t_move rfl (.tuple _) rfl ?_
                  refine t_extract rfl rfl rfl ?_
                  refine t_extract rfl rfl rfl ?_
                  refine t_extract rfl rfl rfl ?_
                  refine t_assign rfl (.int _ _) rfl ?_
                  refine t_nil ?_
                  refine op_assign rfl (.int _ _) rfl ?_
                  refine op_nil (at_seg (⟨D5.dk, hb5⟩) ?_)
                  refine seg_nil ?_
                  refine at_then ?_
                  exact ⟨(ct.2.1, ct.1, ct.2.2.2.1, ct.2.2.2.2, F5), rfl, ⟨rfl, rfl, trivial⟩, hres, D5, g45⟩
                · intro hC
                  rw [hstep, if_neg (by rw [hC]; simp)]
                  have hres := put_res s4.T s4.on hl4 (by omega) s4.few hk
                  obtain ⟨ct, hct⟩ : ∃ ct, ct = putT 10 A3 P2 root m.s.key m.s.val := ⟨_, rfl⟩
                  have hok99 : (putT 10 A3 P2 root m.s.key m.s.val).1 ≠ 99 := hres.not99
                  rw [← hct] at hres
                  have hdr := Grown.call0 (F := TM F ba bt bp []) (Ext.drew [] w4)
                  refine W_segz [([0, 1, 2, 3, 4, 5, 6, 7, 8], 9), ([10, 11, 12, 13], 14)] (fun z => z.heap[bx]? = some (Bl 36 [ptr bd, ptr bp, ptr bt]) ∧ z.heap[b12]? = some (Bl 30 m.enc)) [] mixed (by kernel_rfl) (⟨hdk4, hb4⟩) ?_
                  refine seg_cons rfl rfl ?_
                  refine t_move rfl (.pointer _) rfl ?_
                  refine t_nilCheck rfl rfl ?_
                  refine t_fieldAddr rfl fo_36_2_TrFu rfl ?_
                  first | refine t_ldb rfl ag_34_TrFu rfl (fun _ _ => Ctx.start _ []) (by first | exact at0 | exact at1 | exact at2 | exact at3 | exact at4 | exact at5 | exact at6 | exact at7 | exact at8 | exact at9) rfl ?_ | refine t_ld rfl ag_34_TrFu rfl (fun _ hx => (by rw [cell_bl hx.1]; rfl)) ?_ | refine t_ld rfl ag_34_TrFu rfl (fun _ hx => (by rw [cell_bl hx.2]; rfl)) ?_
                  refine t_move rfl (.int _ _) rfl ?_
                  refine t_fieldAddr rfl fo_30_1_TrFu rfl ?_
                  first | refine t_ldb rfl ag_23 rfl (fun _ _ => Ctx.start _ []) (by first | exact at0 | exact at1 | exact at2 | exact at3 | exact at4 | exact at5 | exact at6 | exact at7 | exact at8 | exact at9) rfl ?_ | refine t_ld rfl ag_23 rfl (fun _ hx => (by rw [cell_bl hx.1]; rfl)) ?_ | refine t_ld rfl ag_23 rfl (fun _ hx => (by rw [cell_bl hx.2]; rfl)) ?_
                  refine t_fieldAddr rfl fo_30_2_TrFu rfl ?_
                  first | refine t_ldb rfl ag_23 rfl (fun _ _ => Ctx.start _ []) (by first | exact at0 | exact at1 | exact at2 | exact at3 | exact at4 | exact at5 | exact at6 | exact at7 | exact at8 | exact at9) rfl ?_ | refine t_ld rfl ag_23 rfl (fun _ hx => (by rw [cell_bl hx.1]; rfl)) ?_ | refine t_ld rfl ag_23 rfl (fun _ hx => (by rw [cell_bl hx.2]; rfl)) ?_
                  refine t_nil ?_
                  skip
                  refine op_call rfl ca_26_TrFu (put8_ok (by omega) (s4.D.call (Ext.drew [] w4)).T root (by omega) (by omega) m.ka m.va m.kc m.vc _ _ m.s.key m.s.val (.of0 hmi.k (s4.hx.trans (Ext.drew [] w4)) s4.new) (.of0 hmi.v (s4.hx.trans (Ext.drew [] w4)) s4.new) rfl rfl hmi.kc hmi.vc (by omega) s4.few (by omega) hok99) rfl ?_
                  rintro v w5 ⟨F5, rfl, T5, g5⟩
                  rw [← hct] at T5
                  rw [← hct]
                  have g45 := hdr.trans g5
                  have D5 := s4.D.step T5 g45
                  have hb5 := g45.keep hb4 hn12
                  refine op_nil (at_seg (⟨D5.dk, hb5⟩) ?_)
                  refine seg_cons rfl rfl ?_
                  refine t_move rfl (.tuple _) rfl ?_
                  refine t_extract rfl rfl rfl ?_
                  refine t_extract rfl rfl rfl ?_
                  refine t_assign rfl (.int _ _) rfl ?_
                  refine t_nil ?_
                  refine op_assign rfl (.int _ _) rfl ?_
                  refine op_nil (at_seg (⟨D5.dk, hb5⟩) ?_)
                  refine seg_nil ?_
                  refine at_then ?_
                  exact ⟨(ct.2.1, ct.1, ct.2.2.1, ct.2.2.2, F5), rfl, ⟨rfl, rfl, trivial⟩, hres, D5, g45⟩
              · rintro ⟨r5, e5, A5, P5, F5⟩ j16 w ⟨hres, D5, g5⟩; dsimp only at hres D5 g5; dsimp only
                obtain ⟨w5, rfl⟩ : ∃ z, z = w := ⟨_, rfl⟩
                have hb5 := g5.keep hb4 hn12
                have hn5 : ¬ TM F5 ba bt bp [] b12 := fun h => (g5.2 _ h).elim hn12 fun h => by have := heap_lt hb4; omega
                have new5 : ∀ x, TM F5 ba bt bp [] x → w0.heap.size ≤ x := fun x h => (g5.2 x h).elim (s4.new x) fun h => Nat.le_trans s4.hx.size h
                have hx5 : Ext [] w0 w5 := g5.1.new s4.hx s4.new
                have PL5 := PL4.turn g5
                obtain ⟨RW5, -⟩ := Rd.turnM RW hRW (by decide) (fun _ _ => rfl) g5
                have hdk5 := D5.dk
                have hli5 : (stepL m.s L).length ≤ L.length + 1 := stepL_len s4.T.rise
                have hbl5 : A5.B.length = 10 + n := hres.aft.blen.trans s4.blen
                have hnu5 : P5.length = n := hres.aft.len.trans hnum
                have H := Ctx.start w5 []
                refine W_seq ?_
                refine W_rseq ?_
                refine op_move rfl (.int _ _) rfl ?_
                refine op_eql rfl rfl rfl ?_
                refine op_nil (at_then ?_)
                refine W_joinK 191561942607887658151066337407202152354332259624683072 (α := Int × Option Addr × Nat × List Pr) (fun s => [(9, .int .i64 s.1), (10, .slice s.2.1 s.2.2.2.length s.2.2.1)]) (fun s w' => Left7 e5 A5 P5 s.1 s.2.2.2 ∧ Dk w' bx bt bd bp ba A5 P5 F5 ∧ Prs w' (TM F5 ba bt bp []) s.2.1 s.2.2.2.length s.2.2.1 s.2.2.2 ∧ Ext [] w0 w' ∧ s.2.2.2.length ≤ i + 1) rfl ?_ ?_
                · skip
                  refine W_cond _ rfl ?_ ?_
                  · intro hE
                    replace hE := dec_t hE
                    have hok5 : A5.on = true ∧ TreeAt 10 A5 P5 r5 (stepL m.s L) := by
                      rcases hres.out with ⟨_, h1, h2⟩ | ⟨h, _⟩ | ⟨h, _⟩
                      · exact ⟨h1, h2⟩
                      · omega
                      · omega
                    refine W_rseq ?_
                    refine op_move rfl (.int _ _) rfl ?_
                    refine op_assign rfl (.int _ _) rfl ?_
                    refine op_nil (at_then ?_)
                    refine W_rseq ?_
                    refine op_fieldAddr rfl fo_30_0_TrFu rfl ?_
                    first | refine op_ldb rfl ag_4 rfl H (by first | exact at0 | exact at1 | exact at2 | exact at3 | exact at4 | exact at5 | exact at6 | exact at7 | exact at8 | exact at9) rfl ?_ | refine op_ld rfl ag_4 rfl ((by rw [cell_bl hb5]; rfl)) ?_
                    refine op_nil (at_then ?_)
                    refine W_cond _ rfl ?_ ?_
                    · intro hG
                      rw [hstep, if_pos hG] at hok5 hli5
                      refine W_region ?_
                      refine op_move rfl (.slice _ _ _) rfl ?_
                      refine op_fieldAddr rfl fo_30_1_TrFu rfl ?_
                      first | refine op_ldb rfl ag_23 rfl H (by first | exact at0 | exact at1 | exact at2 | exact at3 | exact at4 | exact at5 | exact at6 | exact at7 | exact at8 | exact at9) rfl ?_ | refine op_ld rfl ag_23 rfl ((by rw [cell_bl hb5]; rfl)) ?_
                      refine op_call rfl ca_40_TrFu (rcut7_ok D5.T.mlt PL5 (by omega) (hmi.k.ext0 hx5) rfl) rfl ?_
                      rintro v w6 ⟨a6, c6, rfl, P6, hx6⟩
                      refine op_assign rfl (.slice _ _ _) rfl ?_
                      refine op_nil (at_then ?_)
                      exact ⟨(r5, a6, c6, cutP L m.s.key), rfl, ⟨rfl, rfl, trivial⟩, .inl ⟨by omega, hok5⟩, D5.call hx6, P6, hx5.trans hx6, by dsimp only; omega⟩
                    · intro hG
                      rw [hstep, if_neg (by rw [hG]; simp)] at hok5 hli5
                      refine W_region ?_
                      refine op_move rfl (.slice _ _ _) rfl ?_
                      refine op_fieldAddr rfl fo_30_1_TrFu rfl ?_
                      first | refine op_ldb rfl ag_23 rfl H (by first | exact at0 | exact at1 | exact at2 | exact at3 | exact at4 | exact at5 | exact at6 | exact at7 | exact at8 | exact at9) rfl ?_ | refine op_ld rfl ag_23 rfl ((by rw [cell_bl hb5]; rfl)) ?_
                      refine op_fieldAddr rfl fo_30_2_TrFu rfl ?_
                      first | refine op_ldb rfl ag_23 rfl H (by first | exact at0 | exact at1 | exact at2 | exact at3 | exact at4 | exact at5 | exact at6 | exact at7 | exact at8 | exact at9) rfl ?_ | refine op_ld rfl ag_23 rfl ((by rw [cell_bl hb5]; rfl)) ?_
                      refine op_call rfl ca_41_TrFu (rput7_ok D5.T.mlt PL5 (by omega) (.of0 hmi.k hx5 new5) rfl hmi.kc (.of0 hmi.v hx5 new5) rfl hmi.vc s4.T.rise) rfl ?_
                      rintro v w6 ⟨a6, c6, rfl, P6, hx6⟩
                      refine op_assign rfl (.slice _ _ _) rfl ?_
                      refine op_nil (at_then ?_)
                      exact ⟨(r5, a6, c6, putP L m.s.key m.s.val), rfl, ⟨rfl, rfl, trivial⟩, .inl ⟨by omega, hok5⟩, D5.call hx6, P6, hx5.trans hx6, by dsimp only; omega⟩
                  · intro hE
                    replace hE := dec_f hE
                    obtain ⟨hPP, hlf, h87⟩ := left_err s4.T hres (by simpa using hE) s4.sure hl4
                    refine W_seq ?_
                    refine W_rseq (Wops_join (α := Unit) 2920148779276393916645253093493667049039099592704 (fun _ => [(160, .bool (false))]) (fun _ w' => w5 = w') rfl ?_ ?_)
                    · refine op_move rfl (.int _ _) rfl ?_
                      refine op_neq rfl rfl rfl ?_
                      refine op_move rfl (.bool _) rfl ?_
                      refine Wops_split 153 rfl ?_ ?_
                      · intro h7
                        replace h7 := ndec_t h7
                        refine op_move rfl (.int _ _) rfl ?_
                        refine op_neq rfl rfl rfl ?_
                        refine op_move rfl (.bool _) rfl ?_
                        refine Wops_split 156 rfl ?_ ?_
                        · intro h8
                          replace h8 := ndec_t h8
                          refine op_skip rfl ?_
                          refine op_skip rfl ?_
                          refine op_pick1 rfl rfl (.bool _) rfl ?_
                          refine op_pick1 rfl rfl (.bool _) rfl ?_
                          refine op_nil ?_
                          exact ⟨rfl, (), rfl, ⟨congrArg Value.bool (by rcases h87 with h | ⟨h, h'⟩ <;> simp_all <;> omega), trivial⟩, rfl⟩
                        · intro h9
                          replace h9 := ndec_f h9
                          refine op_move rfl (.int _ _) rfl ?_
                          refine op_geq rfl rfl rfl ?_
                          refine op_pick0 rfl rfl (.bool _) rfl ?_
                          refine op_pick1 rfl rfl (.bool _) rfl ?_
                          refine op_nil ?_
                          exact ⟨rfl, (), rfl, ⟨congrArg Value.bool (by rcases h87 with h | ⟨h, h'⟩ <;> simp_all <;> omega), trivial⟩, rfl⟩
                      · intro h10
                        replace h10 := ndec_f h10
                        refine op_skip rfl ?_
                        refine op_skip rfl ?_
                        refine op_skip rfl ?_
                        refine op_skip rfl ?_
                        refine op_skip rfl ?_
                        refine op_skip rfl ?_
                        refine op_pick0 rfl rfl (.bool _) rfl ?_
                        refine op_nil ?_
                        exact ⟨rfl, (), rfl, ⟨congrArg Value.bool (by rcases h87 with h | ⟨h, h'⟩ <;> simp_all <;> omega), trivial⟩, rfl⟩
                    rintro - j160 w rfl
                    refine W_cond0 rfl ?_
                    refine W_skip (at_then ?_)
                    refine W_rseq ?_
                    refine op_assign rfl (.int _ _) rfl ?_
                    refine op_nil (at_then ?_)
                    refine W_block ?_
                    refine W_loop 191559019604961445488956971024123215386303078408126528 (α := Nat) (fun k => [(18, .int .i64 (k : Int))]) (fun k w' => k ≤ n ∧ Ext [] w5 w') (fun k => n - k) 0 rfl ?_ ?_ ?_
                    · exact ⟨rfl, trivial⟩
                    · exact ⟨Nat.zero_le _, .refl _ _⟩
                    · rintro k j w ⟨hk7, hx7⟩
                      have D7 := D5.call hx7
                      have hdk7 := D7.dk
                      have RW7 := RW5.ext0 hx7
                      refine W_seq ?_
                      refine W_rseq ?_
                      refine op_move rfl (.int _ _) rfl ?_
                      refine op_move rfl (.int _ _) rfl ?_
                      refine op_lss rfl rfl rfl ?_
                      refine op_nil (at_then ?_)
                      refine W_cond _ rfl ?_ ?_
                      · intro h4
                        replace h4 := dec_t h4
                        obtain ⟨sk, hsk⟩ := get_some (l := P2) (i := k) (by omega)
                        refine W_skip (at_then ?_)
                        refine W_seq ?_
                        refine W_block ?_
                        refine W_sseqz [([0, 1, 2, 3, 4, 6, 7, 8, 9], 5), ([], 10)] (fun z => z.heap[bx]? = some (Bl 36 [ptr bd, ptr bp, ptr bt]) ∧ z.cell? ⟨(adr ak).block, (adr ak).off + k * 1 + 0, none⟩ = some (.int .u8 (sk : Int))) [] mixed (by kernel_rfl) (⟨hdk7, (RW7.ext0 (Ext.drew [] w)).fld hsk rfl (j := 0) rfl⟩) ?_
                        refine seg_cons rfl rfl ?_
                        refine t_move rfl (.pointer _) rfl ?_
                        refine t_nilCheck rfl rfl ?_
                        refine t_fieldAddr rfl fo_36_1_TrFu rfl ?_
                        first | refine t_ldb rfl ag_33_TrFu rfl (fun _ _ => Ctx.start _ []) (by first | exact at0 | exact at1 | exact at2 | exact at3 | exact at4 | exact at5 | exact at6 | exact at7 | exact at8 | exact at9) rfl ?_ | refine t_ld rfl ag_33_TrFu rfl (fun _ hx => (by rw [cell_bl hx.1]; rfl)) ?_ | refine t_ld rfl ag_33_TrFu rfl (fun _ hx => hx.2) ?_
                        refine t_move rfl (.int _ _) rfl ?_
                        refine t_move rfl (.slice _ _ _) rfl ?_
                        refine t_move rfl (.int _ _) rfl ?_
                        first | refine t_indexRd R rfl el_23 sz_5 rfl rfl (by omega) (by omega) (by first | rfl | omega) ?_ | refine t_indexRd RW7 rfl el_23 sz_5 rfl rfl (by omega) (by omega) (by first | rfl | omega) ?_ | refine t_indexAddr rfl el_23 sz_5 rfl rfl (by omega) (by omega) ?_
                        first | refine t_ldb rfl ag_5 rfl (fun _ _ => Ctx.start _ []) (by first | exact at0 | exact at1 | exact at2 | exact at3 | exact at4 | exact at5 | exact at6 | exact at7 | exact at8 | exact at9) rfl ?_ | refine t_ld rfl ag_5 rfl (fun _ hx => (by rw [cell_bl hx.1]; rfl)) ?_ | refine t_ld rfl ag_5 rfl (fun _ hx => hx.2) ?_
                        refine t_nil ?_
                        skip
                        refine op_call rfl ca_39_TrFu (pstate_ok (D7.call (Ext.drew [] w)).T.pg k (by rw [hPP]; exact hsk)) rfl ?_
                        rintro v w6 ⟨rfl, rfl⟩
                        refine op_nil (at_seg (⟨hdk7, (RW7.ext0 (Ext.drew [] w)).fld hsk rfl (j := 0) rfl⟩) ?_)
                        refine seg_cons rfl rfl ?_
                        refine t_nil ?_
                        refine op_neq rfl rfl rfl ?_
                        refine op_nil (at_seg (⟨hdk7, (RW7.ext0 (Ext.drew [] w)).fld hsk rfl (j := 0) rfl⟩) ?_)
                        refine seg_nil ?_
                        refine W_cond _ rfl ?_ ?_
                        · intro h5
                          replace h5 := ndec_t h5
                          exact absurd h5 (by simp)
                        · intro h5
                          replace h5 := ndec_f h5
                          refine W_skip (at_block (at_then ?_))
                          refine W_region ?_
                          refine op_move rfl (.int _ _) rfl ?_
                          refine op_add_i64 rfl rfl rfl (by omega) (by omega) ?_
                          refine op_assign rfl (.int _ _) rfl ?_
                          refine op_nil (at_then ?_)
                          exact ⟨k + 1, rfl, ⟨rfl, trivial⟩, ⟨by omega, hx7.trans (Ext.drew [] w)⟩, by omega⟩
                      · intro h4
                        replace h4 := dec_f h4
                        refine W_exit (exit_then (exit_then (exit_here (at_then ?_))))
                        exact ⟨(root, la, lc, L), rfl, ⟨rfl, rfl, trivial⟩, hlf, D7, PL5.turn (.call0 hx7), hx5.trans hx7, by dsimp only; omega⟩
                · rintro ⟨r6, la6, lc6, L6⟩ j9 w ⟨hlf, D6, PL6, hx6, hli6⟩; dsimp only at hlf D6 PL6 hx6 hli6; dsimp only
                  obtain ⟨w6, rfl⟩ : ∃ z, z = w := ⟨_, rfl⟩
                  have hdk6 := D6.dk
                  have H := Ctx.start w6 []
                  refine W_seq ?_
                  refine W_rseq (Wops_join (α := Unit) 12554011908830753291564284053036939043556758546537796075520 (fun _ => [(192, .bool (false))]) (fun _ w' => ∃ A8, Dk w' bx bt bd bp ba A8 P5 F5 ∧ Prs w' (TM F5 ba bt bp []) la6 L6.length lc6 L6 ∧ TreeAt 10 A8 P5 r6 L6 ∧ A8.on = true ∧ A8.B.length = 10 + n ∧ Few A8 (40 * i + 40) ∧ Ext [] w0 w') rfl ?_ ?_)
                  · refine op_move rfl (.int _ _) rfl ?_
                    refine op_eql rfl rfl rfl ?_
                    refine op_move rfl (.bool _) rfl ?_
                    refine Wops_split 179 rfl ?_ ?_
                    · intro h11
                      replace h11 := dec_t h11
                      refine op_move rfl (.pointer _) rfl ?_
                      refine op_nilCheck rfl rfl ?_
                      refine op_fieldAddr rfl fo_36_0_TrFu rfl ?_
                      first | refine op_ldb rfl ag_32 rfl H (by first | exact at0 | exact at1 | exact at2 | exact at3 | exact at4 | exact at5 | exact at6 | exact at7 | exact at8 | exact at9) rfl ?_ | refine op_ld rfl ag_32 rfl ((by rw [cell_bl hdk6]; rfl)) ?_
                      refine op_move rfl (.int _ _) rfl ?_
                      refine op_move rfl (.int _ _) rfl ?_
                      refine op_add_i64 rfl rfl rfl (by omega) (by omega) ?_
                      refine op_move rfl (.int _ _) rfl ?_
                      refine op_quo rfl rfl rfl (by omega) (by omega) (show _ ≤ (9223372036854775807 : Int) by omega) ?_
                      refine op_buildL [.int .i64 (i : Int), .int .i64 ((i : Int) + 1), .int .i64 ((i : Int) / 2)] rfl el_57 sz_3 zc_3_TrFu (by decide) (by decide) (by kernel_rfl) H ?_
                      rintro b189 w7 - H
                      have D7 := D6.call H.ext
                      refine op_call rfl ca_42_TrFu (donp_ok (some ⟨b189, 0, none⟩) 3 3 [(i : Int), (i : Int) + 1, (i : Int) / 2] (Rd.of_bl (r := []) (H.get at0) rfl (fun _ _ => rfl)) rfl (by omega) (Nat.le_refl _) (.inr fun h => by have h8 := D6.T.lt _ h; have h9 := (H.own _ (List.mem_cons_self ..)).elim (fun h => by cases h) id; dsimp only [adr] at h8 h9; omega) (fun x hx => by simp only [List.mem_cons, List.not_mem_nil, or_false] at hx; omega) hres.few (by omega) D7.T.dev) rfl ?_
                      rintro v w8 ⟨rfl, DA8, t8⟩
                      obtain ⟨hoff, hcr⟩ := hlf.off ‹e5 = 8›
                      rw [show onE A5 = 0 from by unfold onE; rw [hoff]; rfl]
                      obtain ⟨T8, g8⟩ := D7.T.devs DA8 t8 (fun x h => .inl h)
                      have hon8 : onD A5 [(i : Int), (i : Int) + 1, (i : Int) / 2] = ⟨keepB A5.B [(i : Int), (i : Int) + 1, (i : Int) / 2], -1, true⟩ := (by unfold onD; rw [hoff]; rfl)
                      refine op_neq rfl rfl rfl ?_
                      refine op_pick1 rfl rfl (.bool _) rfl ?_
                      refine op_nil ?_
                      exact ⟨rfl, (), rfl, ⟨congrArg Value.bool (rfl), trivial⟩, by first | exact ⟨_, D7.step T8 g8, (PL6.turn (.call0 H.ext)).turn g8, by rw [hon8]; exact hcr _, by rw [hon8], by rw [hon8]; show (keepB _ _).length = _; rw [keepB_len]; exact hbl5, fun p hp => by rw [hon8] at hp; rw [(keepB_mem (show p ∈ keepB A5.B _ from hp)).1]; exact Nat.zero_le _, g8.1.new (hx6.trans H.ext) new5⟩ | exact ⟨_, D6, PL6, (hlf.calm ‹¬ e5 = 8›).2, (hlf.calm ‹¬ e5 = 8›).1, hbl5, hres.few, hx6⟩⟩
                    · intro h12
                      replace h12 := dec_f h12
                      refine op_skip rfl ?_
                      refine op_skip rfl ?_
                      refine op_skip rfl ?_
                      refine op_skip rfl ?_
                      refine op_skip rfl ?_
                      refine op_skip rfl ?_
                      refine op_skip rfl ?_
                      refine op_skip rfl ?_
                      refine op_skip rfl ?_
                      refine op_skip rfl ?_
                      refine op_skip rfl ?_
                      refine op_skip rfl ?_
                      refine op_pick0 rfl rfl (.bool _) rfl ?_
                      refine op_nil ?_
                      exact ⟨rfl, (), rfl, ⟨congrArg Value.bool (rfl), trivial⟩, by first | exact ⟨_, D7.step T8 g8, (PL6.turn (.call0 H.ext)).turn g8, by rw [hon8]; exact hcr _, by rw [hon8], by rw [hon8]; show (keepB _ _).length = _; rw [keepB_len]; exact hbl5, fun p hp => by rw [hon8] at hp; rw [(keepB_mem (show p ∈ keepB A5.B _ from hp)).1]; exact Nat.zero_le _, g8.1.new (hx6.trans H.ext) new5⟩ | exact ⟨_, D6, PL6, (hlf.calm ‹¬ e5 = 8›).2, (hlf.calm ‹¬ e5 = 8›).1, hbl5, hres.few, hx6⟩⟩
                  rintro - j192 w ⟨A8, D8, PL8, T8, hon8, hbl8, hfew8, hx8⟩
                  refine W_cond0 rfl ?_
                  refine W_skip (at_then ?_)
                  obtain ⟨w8, rfl⟩ : ∃ z, z = w := ⟨_, rfl⟩
                  have hdk8 := D8.dk
                  have H := Ctx.start w8 []
                  have hB9 : (armD A8 (-1)).B = A8.B := by unfold armD; rw [hon8]; rfl
                  have hon9 : (armD A8 (-1)).on = true := by unfold armD; rw [hon8]; rfl
                  have hl9 : (armD A8 (-1)).left = -1 := by unfold armD; rw [hon8]; rfl
                  refine W_rseq ?_
                  refine op_move rfl (.pointer _) rfl ?_
                  refine op_nilCheck rfl rfl ?_
                  refine op_fieldAddr rfl fo_36_0_TrFu rfl ?_
                  first | refine op_ldb rfl ag_32 rfl H (by first | exact at0 | exact at1 | exact at2 | exact at3 | exact at4 | exact at5 | exact at6 | exact at7 | exact at8 | exact at9) rfl ?_ | refine op_ld rfl ag_32 rfl ((by rw [cell_bl hdk8]; rfl)) ?_
                  refine op_call rfl ca_38_TrFu (darm_ok (-1) (by omega) D8.T.dev) rfl ?_
                  rintro v w9 ⟨rfl, DA9, t9⟩
                  rw [show armE A8 = 0 from by unfold armE; rw [hon8]; rfl]
                  obtain ⟨T9, g9⟩ := D8.T.devs DA9 t9 (fun x h => .inl h)
                  have s9 : Std w0 w9 bx bt bd bp ba n r6 L6 (i + 1) (armD A8 (-1)) P5 F5 := ⟨D8.step T9 g9, T8.sameB hB9, hon9, hl9, hnu5, by rw [hB9]; exact hbl8, fun p hp => by have := hfew8 p (by rw [← hB9]; exact hp); omega, hli6, new5, g9.1.new hx8 new5⟩
                  have PL9 := PL8.turn g9
                  obtain ⟨S9, td9, hnd9, hS9⟩ := s9.told (by omega)
                  have hSl9 := td9.len
                  refine op_neq rfl rfl rfl ?_
                  refine op_move rfl (.bool _) rfl ?_
                  refine op_move rfl (.pointer _) rfl ?_
                  refine op_move rfl (.int _ _) rfl ?_
                  refine op_move rfl (.slice _ _ _) rfl ?_
                  refine op_call rfl ca_21_TrFu (has_ok s9.D td9 (by omega) PL9 (by omega) s9.few (by omega) (by omega)) rfl ?_
                  rintro v w10 ⟨rfl, hx10⟩
                  rw [decide_eq_true (show L6 = L6 from rfl)]
                  have s10 := s9.call hx10
                  refine op_not rfl rfl ?_
                  refine op_pick0 rfl rfl (.bool _) rfl ?_
                  refine op_move rfl (.bool _) rfl ?_
                  refine op_move rfl (.pointer _) rfl ?_
                  refine op_move rfl (.int _ _) rfl ?_
                  refine op_call rfl ca_20_TrFu (held_ok s10.D td9 hnd9 hS9 s10.few (by omega) (by omega)) rfl ?_
                  rintro v w11 ⟨rfl, hx11⟩
                  refine op_not rfl rfl ?_
                  refine op_pick0 rfl rfl (.bool _) rfl ?_
                  refine op_nil (at_then ?_)
                  refine W_cond0 rfl ?_
                  refine W_skip (at_block (at_then ?_))
                  refine W_region ?_
                  refine op_move rfl (.int _ _) rfl ?_
                  refine op_add_i64 rfl rfl rfl (by omega) (by omega) ?_
                  refine op_assign rfl (.int _ _) rfl ?_
                  refine op_nil (at_then ?_)
                  exact ⟨⟨r6, la6, lc6, L6, i + 1, armD A8 (-1), P5, F5⟩, rfl, ⟨rfl, rfl, rfl, trivial⟩, ⟨by dsimp only; omega, s10.call hx11, (PL9.turn (.call0 hx10)).turn (.call0 hx11)⟩, by dsimp only; omega⟩
      · intro h1
        replace h1 := dec_f h1
        refine W_exit (exit_then (exit_then (exit_here (at_then ?_))))
        refine W_rseq ?_
        refine op_call rfl ca_13_TrFu (works7_ok _) rfl ?_
        rintro v w9 ⟨rfl, hx9⟩
        refine op_assign rfl (.bool _) rfl ?_
        refine op_nil (at_then ?_)
        refine W_ret (leave1 (v := (.bool _)) rfl rfl rfl ?_)
        exact ⟨rfl, s.hx.trans hx9⟩

end Go.Proofs.YtbkadlngijkmmaaGreatDoor

/- TreeFull: for every input the law answers true, and turns nothing. The tables that its row lists are premises, and tied to the text by its card. -/
namespace Go.Proofs.YtbkadlngijkmmaaGreatDoor.treeFull
open Go.GV Go.ChangeShapes Go.WideShapes Go.ChangeAt Go.RowKit

theorem laid_met (os : Os) : laidMet Tryz.prog Rows.treeFullRow.laid ((laidWorld os).forCall (fun _ _ => 0) ⟨#[], #[.int .u8 0, .slice none 0 0, .int .i64 0], []⟩).memory :=
  laidMet_of_run' 8 (by kernel_rfl) (by kernel_rfl)
theorem reads (os : Os) {H : Type} (enc : TypeId × Value → H) : ∃ ds places, DataW.whole enc Tryz.prog ((laidWorld os).forCall (fun _ _ => 0) ⟨#[], #[.int .u8 0, .slice none 0 0, .int .i64 0], []⟩).memory Tryz.f6.params.toList Rows.treeFullSpec.vars false (#[.int .u8 0, .slice none 0 0, .int .i64 0] : Array Value).toList 8 = some (ds, [], places) :=
  ⟨[.lit (.int .u8 0), .nil, .lit (.int .i64 0)], [], by kernel_rfl⟩

set_option maxRecDepth 100000 in
theorem lifted (os : Os) (started : os.Started) (H : Type) (enc : TypeId × Value → H) (F : Stop.Interp) :
    ReturnsInHanded {} Tryz.checked os 6 .any ((OpenSpec.ofChange Rows.treeFullSpec).preRow enc Tryz.prog Tryz.f6 Rows.treeFullRow.domain false Rows.treeFullRow.laid) (((OpenSpec.ofChange Rows.treeFullSpec).at F).post enc Tryz.prog Tryz.f6 false true false false) := by
  obtain ⟨ds, places, hx⟩ := reads os enc
  refine returnsInHanded_of_row (C := Tryz.checked) (s := OpenSpec.ofChange Rows.treeFullSpec) own started (by kernel_rfl) Tryz.func6
    (witness_row_at (enc := enc) (C := Tryz.checked) false (laidWorld os) #[.int .u8 0, .slice none 0 0, .int .i64 0] rfl (by kernel_rfl) (by kernel_rfl) (by kernel_rfl)
      (OpenSpec.preRow_of_cond 8 hx (by kernel_rfl) (fun k hk => by cases hk) (by kernel_rfl) (laid_met os))) ?_
  intro W base args ds gs before hval0 hW _ _ hLt _ _ _
  have hval : ∀ (j : Nat) t v, Tryz.f6.params[j]? = some t → args[j]? = some v → Value.okWide Tryz.prog W .any base t v := hval0
  have hW' := hW
  obtain ⟨p, q, hA0, hV, rfl, hfz, hnd⟩ := hW
  have hA : DataW.TrodAll enc Tryz.prog W 0 (fun _ => true) true Tryz.f6.params.toList args.toList ds p := hA0
  rw [Tryz.params6] at hA hval
  obtain ⟨v0, vs0, d0, ds0, p0, q0, hargs, rfl, rfl, h0, r0⟩ := trodAll_cons hA
  obtain ⟨v1, vs1, d1, ds1, p1, q1, rfl, rfl, rfl, h1, r1⟩ := trodAll_cons r0
  obtain ⟨v2, vs2, d2, ds2, p2, q2, rfl, rfl, rfl, h2, r2⟩ := trodAll_cons r1
  obtain ⟨rfl, rfl, rfl⟩ := trodAll_nil r2
  obtain rfl : args = #[v0, v1, v2] := by cases args; simp_all
  obtain ⟨k0, rfl, rfl, rfl, hg0⟩ := open_int Tryz.underlying5 (hval 0 _ v0 rfl rfl) h0
  obtain ⟨n0, rfl, hb0⟩ := nat_of (m := 255) (wf_bounds hg0).1 (wf_bounds hg0).2
  have hL1 : Light Tryz.prog 22 d1 := light_of hLt (i := 1) rfl rfl
  obtain ⟨a1, c1, l1, rfl, R1, hc1, hm1, hw1, H1⟩ := rdw_of_T Tryz.underlying22 step7Cells (by decide) dec_step7 (okWide_slice Tryz.underlying22 (hval 1 _ v1 rfl rfl)) h1 hL1
  unfold maxLen at hm1
  obtain ⟨k2, rfl, rfl, rfl, hg2⟩ := open_int Tryz.underlying3 (hval 2 _ v2 rfl rfl) h2
  have hb2 : -9223372036854775808 ≤ k2 ∧ k2 ≤ 9223372036854775807 := wf_bounds hg2
  refine (treeFull_ok n0 a1 c1 l1 k2 W hb0 R1 H1).calls.mono ?_
  rintro e W' ⟨v, rfl, rfl, hx⟩
  exact ⟨_, rfl, law_post laidOut rfl (by kernel_rfl) rfl Tryz.underlying4 (fun ds h => match ds, h with | [_, _, _], _ => rfl) hW' hx⟩

theorem said : Rows.TreeFullSaid :=
  OpenClaim.holds_of_cond 6 Tryz.f6 rfl rfl rfl rfl rfl rfl rfl ⟨rfl, rfl, rfl, rfl, rfl⟩ rfl rfl rfl rfl rfl (by kernel_rfl) Tryz.func6 (by kernel_rfl)
    (of_decide_eq_true (by kernel_rfl)) (by unfold Func.isWrapper; first | (rw [if_pos (by decide +kernel)]; kernel_rfl) | (rw [if_neg (by decide +kernel)]; exact ⟨rfl, rfl⟩))
    (fun os started H enc _ F => by rw [OpenClaim.pre_eq_preRow]; exact lifted os started H enc F)

theorem plain (f : FuncId) (fn : Func) (hf : Tryz.pinned.checked.prog.funcNamed "gablet/gabletlaw07.TreeFull" = some f) (hfn : Tryz.pinned.checked.prog.funcs[f]? = some fn) :
    false = Tryz.pinned.checked.prog.looks [] ∧ ∀ (j : Nat) t, fn.params[j]? = some t → Tryz.pinned.checked.prog.wantsStandIn t = false := by
  obtain rfl : f = 6 := Option.some.inj ((show Tryz.prog.funcNamed "gablet/gabletlaw07.TreeFull" = some 6 by kernel_rfl).symm.trans hf) |>.symm
  obtain rfl : fn = Tryz.f6 := (Option.some.inj (Tryz.func6.symm.trans hfn)).symm
  refine ⟨by kernel_rfl, fun j t ht => ?_⟩
  rw [Tryz.params6] at ht
  have hm := Array.mem_of_getElem? ht
  exact List.all_eq_true.1 (show (Tryz.f6.params.toList.all fun t => !Tryz.prog.wantsStandIn t) = true by kernel_rfl) t (by rw [Tryz.params6]; simpa using hm) |> fun h => (Bool.not_eq_true' _).mp h

theorem card : Rows.TreeFullCardSaid :=
  Claim7.holds_tied_plain_at .later [] _ _ _ _ said (fun _ h => by cases h) (by kernel_rfl) (fun _ h => by cases h) treeFull_row_tie rfl ⟨rfl, rfl⟩ (by kernel_rfl) rfl plain (by kernel_rfl)
end Go.Proofs.YtbkadlngijkmmaaGreatDoor.treeFull
namespace Go.Proofs.YtbkadlngijkmmaaGreatDoor
theorem treeFull_holds : Rows.TreeFullCardSaid := treeFull.card
#print axioms treeFull_holds
end Go.Proofs.YtbkadlngijkmmaaGreatDoor
