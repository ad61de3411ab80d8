/- Part 14 of the proof. The last text: TreeKeeps: for every input the law answers true, and turns nothing. The tables that its row lists are premises, and tied to the text by its card. -/
import Derived.Test.YtbkadlngijkmmaaGreatDoorPart12
import Derived.Test.YtbkadlngijkmmaaGreatDoorPart13
/- What a root tells that was there when all settled: the walk. -/
namespace Go.Proofs.YtbkadlngijkmmaaGreatDoor
open Go.GV
theorem ag_30_TrG8 : aggB Tryz.prog 30 = some true := by kernel_rfl
theorem ag_33_TrG8 : aggB Tryz.prog 33 = some false := by kernel_rfl
theorem ca_12_TrG8 : callable Tryz.prog 12 = true := by kernel_rfl
theorem ca_13_TrG8 : callable Tryz.prog 13 = true := by kernel_rfl
theorem ca_14_TrG8 : callable Tryz.prog 14 = true := by kernel_rfl
theorem ca_15_TrG8 : callable Tryz.prog 15 = true := by kernel_rfl
theorem ca_16_TrG8 : callable Tryz.prog 16 = true := by kernel_rfl
theorem ca_20_TrG8 : callable Tryz.prog 20 = true := by kernel_rfl
theorem ca_21_TrG8 : callable Tryz.prog 21 = true := by kernel_rfl
theorem ca_22_TrG8 : callable Tryz.prog 22 = true := by kernel_rfl
theorem ca_33_TrG8 : callable Tryz.prog 33 = true := by kernel_rfl
theorem ca_36_TrG8 : callable Tryz.prog 36 = true := by kernel_rfl
theorem ca_42_TrG8 : callable Tryz.prog 42 = true := by kernel_rfl
theorem ca_43_TrG8 : callable Tryz.prog 43 = true := by kernel_rfl
theorem ca_44_TrG8 : callable Tryz.prog 44 = true := by kernel_rfl
theorem el_22_TrG8 : elemT Tryz.prog 22 = some 30 := by kernel_rfl
theorem fo_36_0_TrG8 : fieldO Tryz.prog 36 0 = some 0 := by kernel_rfl
theorem fo_36_1_TrG8 : fieldO Tryz.prog 36 1 = some 1 := by kernel_rfl
theorem pl_30_TrG8 : placesB Tryz.prog 30 = some [(0, 1), (1, 1), (2, 1), (3, 1)] := by kernel_rfl
theorem sz_30_TrG8 : tsize Tryz.prog 30 = some 4 := by kernel_rfl
theorem un_26_TrG8 : Tryz.prog.underlying 26 = some (.pointer 36) := by kernel_rfl
theorem zc_30_TrG8 : zcells Tryz.prog 30 = some ([.bool false, .slice none 0 0, .slice none 0 0, .bool false]) := by kernel_rfl
attribute [local irreducible] Wops W Wq Wt

theorem settled01 {P : List Nat} (h : ∀ s ∈ P, s ≤ 3) : ∀ s ∈ P.map settleS, s = 0 ∨ s = 1 := by
  intro s hs
  obtain ⟨t, ht, rfl⟩ := List.mem_map.1 hs
  have h3 := h t ht
  have h4 : t = 0 ∨ t = 1 ∨ t = 2 ∨ t = 3 := by omega
  rcases h4 with rfl | rfl | rfl | rfl
  · exact .inl rfl
  · exact .inr rfl
  · exact .inr rfl
  · exact .inl rfl
theorem settle_same {P : List Nat} (h : ∀ s ∈ P, s = 0 ∨ s = 1) : P.map settleS = P := by
  have h1 : ∀ s ∈ P, settleS s = id s := fun s hs => by rcases h s hs with rfl | rfl <;> rfl
  rw [List.map_congr_left h1, List.map_id]
section
variable {w0 w w' : World} {bx bt bd bp ba n : Nat} {root : Int} {L : List Pr} {i : Nat} {A A' : Dev} {P : List Nat} {F : Mut}
theorem Std.dev (s : Std w0 w bx bt bd bp ba n root L i A P F) (D' : DevAt w' bd A' F) (t : Turn F w w') (T' : TreeAt 10 A' P root L) (hon : A'.on = true) (hleft : A'.left = -1) (hb : A'.B.length = A.B.length) (hf : Few A' (40 * i)) :
    Std w0 w' bx bt bd bp ba n root L i A' P F ∧ Grown (TM F ba bt bp []) (TM F ba bt bp []) w w' := by
  obtain ⟨h1, h2⟩ := s.D.T.devs D' t (fun x h => .inl h)
  exact ⟨⟨s.D.step h1 h2, T', hon, hleft, s.num, hb.trans s.blen, hf, s.li, s.new, h2.1.new s.hx s.new⟩, h2⟩
end

set_option maxRecDepth 20000 in
set_option maxHeartbeats 16000000 in
theorem treeKeeps_ok (a b : Option Addr) (c d : Nat) (l m : List Sm) (cr : Bool) (w : World) (R : Rd w a 4 Sm.enc l) (hin : ∀ x ∈ l, x.In w) (R2 : Rd w b 4 Sm.enc m) (hin2 : ∀ x ∈ m, x.In w) :
    Ret Tryz.prog 7 #[.slice a l.length c, .slice b m.length d, .bool cr] w fun v w' => v = .bool true ∧ Ext [] w w' := by
  obtain ⟨w0, rfl⟩ : ∃ w0, w0 = w := ⟨_, rfl⟩
  refine ret_of_W (fn := Tryz.f7) Tryz.func7 rfl [.slice a l.length c, .slice b m.length d, .bool cr] rfl (by kernel_rfl) ?_
  refine W_rseq ?_
  refine op_assign rfl (.bool _) rfl ?_
  refine op_nil (at_then ?_)
  refine W_seq ?_
  refine W_rseq (Wops_join (α := Unit) 528482304 (fun _ => [(28, .bool (heavy7B l || heavy7B m))]) (fun _ w' => w0 = w') rfl ?_ ?_)
  · refine op_move rfl (.slice _ _ _) rfl ?_
    refine op_call rfl ca_12_TrG8 (heavy7_ok a c l _ R) rfl ?_
    rintro v w ⟨rfl, rfl⟩
    refine op_move rfl (.bool _) rfl ?_
    refine Wops_split 25 rfl ?_ ?_
    · intro h1
      refine op_skip rfl ?_
      refine op_skip rfl ?_
      refine op_pick1 rfl rfl (.bool _) rfl ?_
      refine op_nil ?_
      exact ⟨rfl, (), rfl, ⟨congrArg Value.bool (by rw [Bool.eq_iff_iff]; simp_all), trivial⟩, rfl⟩
    · intro h2
      refine op_move rfl (.slice _ _ _) rfl ?_
      refine op_call rfl ca_12_TrG8 (heavy7_ok b d m _ R2) rfl ?_
      rintro v w ⟨rfl, rfl⟩
      refine op_pick0 rfl rfl (.bool _) rfl ?_
      refine op_nil ?_
      exact ⟨rfl, (), rfl, ⟨congrArg Value.bool (by rw [Bool.eq_iff_iff]; simp_all), trivial⟩, rfl⟩
  rintro - j28 w rfl
  refine W_cond _ rfl ?_ ?_
  · intro hA
    refine W_rseq ?_
    refine op_call rfl ca_13_TrG8 (works7_ok _) rfl ?_
    rintro v w ⟨rfl, hxw⟩
    refine op_assign rfl (.bool _) rfl ?_
    refine op_nil (at_then ?_)
    refine W_ret (ret_then (leave1 (v := (.bool _)) rfl rfl rfl ?_))
    exact ⟨rfl, hxw⟩
  · intro hA
    rw [Bool.or_eq_false_iff] at hA
    obtain ⟨hl3, hsm⟩ := light7 hA.1
    obtain ⟨hm3, hsm2⟩ := light7 hA.2
    refine W_skip (at_then ?_)
    refine W_rseq ?_
    refine op_call rfl ca_14_TrG8 (opened_ok 800 (by omega) (by omega) _) rfl ?_
    rintro v w1 ⟨bx, bt, bd, bp, ba, F0, rfl, D, hx, hnew, -⟩
    refine op_assign rfl (.pointer _) rfl ?_
    refine op_nil (at_then ?_)
    refine W_seq ?_
    refine W_rseq ?_
    refine op_move rfl (.pointer _) rfl ?_
    refine op_eqlptr rfl un_26_TrG8 rfl ?_
    refine op_nil (at_then ?_)
    refine W_cond0 rfl ?_
    refine W_skip (at_then ?_)
    refine W_rseq ?_
    refine op_assign rfl (.int _ _) rfl ?_
    refine op_nil (at_then ?_)
    refine W_rseq ?_
    refine op_assign rfl (.slice _ _ _) rfl ?_
    refine op_nil (at_then ?_)
    refine W_seq ?_
    refine W_rseq ?_
    refine op_assign rfl (.int _ _) rfl ?_
    refine op_nil (at_then ?_)
    refine W_block ?_
    refine W_loop 9223372028264857408 (α := Sv) (fun s => [(8, .int .i64 s.root), (9, .slice s.la s.L.length s.lc), (10, .int .i64 (s.i : Int))]) (fun s w' => s.i ≤ l.length ∧ Mid w0 w' bx bt bd bp ba s ∧ ∀ x ∈ s.P, x = 0 ∨ x = 1) (fun s => l.length - s.i) ⟨-1, none, 0, [], 0, newD (10 + 800), List.replicate 800 0, F0⟩ rfl ?_ ?_ ?_
    · exact ⟨rfl, rfl, rfl, trivial⟩
    · exact ⟨Nat.zero_le _, ⟨⟨D, new_tree 800, rfl, rfl, List.length_replicate .., newD_len _, new_few _, Nat.le_refl _, hnew, hx⟩, Prs.nil, by show 24 ≤ freeP (List.replicate 800 0); rw [new_free]; omega⟩, fun x h => .inl (List.eq_of_mem_replicate h)⟩
    · rintro ⟨root, la, lc, L, i, A, P, F⟩ j w ⟨hi, ⟨s, PL, hfree⟩, h01⟩; dsimp only at hi s PL hfree h01; dsimp only
      have hL := s.li
      refine W_seq ?_
      refine W_rseq ?_
      refine op_move rfl (.int _ _) rfl ?_
      refine op_move rfl (.slice _ _ _) rfl ?_
      refine op_len rfl el_22_TrG8 rfl ?_
      refine op_lss rfl rfl rfl ?_
      refine op_nil (at_then ?_)
      refine W_cond _ rfl ?_ ?_
      · intro h1
        replace h1 := dec_t h1
        obtain ⟨e, he⟩ := get_some (l := l) (i := i) (by omega)
        have hee := List.mem_of_getElem? he
        obtain ⟨hk200, hv500⟩ := hsm e hee
        have hei := hin e hee
        obtain ⟨wa, rfl⟩ : ∃ z, z = w := ⟨_, rfl⟩
        have H := Ctx.start wa []
        refine W_skip (at_then ?_)
        refine W_seq ?_
        refine W_block ?_
        refine W_rseq ?_
        refine op_move rfl (.pointer _) rfl ?_
        refine op_move rfl (.int _ _) rfl ?_
        refine op_move rfl (.slice _ _ _) rfl ?_
        refine op_move rfl (.slice _ _ _) rfl ?_
        refine op_move rfl (.int _ _) rfl ?_
        first | refine op_indexRd R rfl el_22_TrG8 sz_30_TrG8 rfl rfl (by omega) (by omega) (by first | rfl | omega) ?_ | refine op_indexAddr rfl el_22_TrG8 sz_30_TrG8 rfl rfl (by omega) (by omega) ?_
        first | refine op_ldN _ rfl ag_30_TrG8 sz_30_TrG8 rfl rfl ((R.ext0 s.hx).row he rfl) ?_ | refine op_ldbN rfl ag_30_TrG8 sz_30_TrG8 rfl H (by first | exact at0 | exact at1 | exact at2 | exact at3 | exact at4 | exact at5 | exact at6 | exact at7 | exact at8 | exact at9) rfl ?_
        refine op_call rfl ca_16_TrG8 (does_ok s.D s.T s.on s.hl (by rw [s.num]; omega) s.left hfree s.few (by omega) PL (by omega) e (hei.ok hk200 hv500 s.hx s.new)) rfl ?_
        rintro v w3 h3
        obtain ⟨r3, a3, c3, A3, P3, F3, rfl, s3, PL3, g3, -⟩ := s.does h3
        have hdk3 := s3.D.dk
        refine op_move rfl (.tuple _) rfl ?_
        refine op_extract rfl rfl rfl ?_
        refine op_extract rfl rfl rfl ?_
        refine op_extract rfl rfl rfl ?_
        refine op_assign rfl (.int _ _) rfl ?_
        refine op_assign rfl (.slice _ _ _) rfl ?_
        refine op_assign rfl (.bool _) rfl ?_
        refine op_nil (at_then ?_)
        refine W_seq ?_
        refine W_rseq ?_
        refine op_move rfl (.bool _) rfl ?_
        refine op_not rfl rfl ?_
        refine op_move rfl (.bool _) rfl ?_
        refine op_move rfl (.pointer _) rfl ?_
        refine op_nilCheck rfl rfl ?_
        refine op_fieldAddr rfl fo_36_1_TrG8 rfl ?_
        first | refine op_ldb rfl ag_33_TrG8 rfl H (by first | exact at0 | exact at1 | exact at2 | exact at3 | exact at4 | exact at5 | exact at6 | exact at7 | exact at8 | exact at9) rfl ?_ | refine op_ld rfl ag_33_TrG8 rfl ((by rw [cell_bl hdk3]; rfl)) ?_
        refine op_call rfl ca_15_TrG8 (psettle_ok s3.D.T.pg) rfl ?_
        rintro v w4 ⟨rfl, PA4, hx4⟩
        have hms := Mid.settle s3 PL3 (by omega) PA4 hx4
        refine op_neq rfl rfl rfl ?_
        refine op_pick0 rfl rfl (.bool _) rfl ?_
        refine op_nil (at_then ?_)
        refine W_cond0 rfl ?_
        refine W_skip (at_then ?_)
        refine W_rseq ?_
        refine op_move rfl (.int _ _) rfl ?_
        refine op_assign rfl (.int _ _) rfl ?_
        refine op_nil (at_then ?_)
        refine W_region ?_
        refine op_move rfl (.slice _ _ _) rfl ?_
        refine op_assign rfl (.slice _ _ _) rfl ?_
        refine op_nil (at_block (at_then ?_))
        refine W_region ?_
        refine op_move rfl (.int _ _) rfl ?_
        refine op_add_i64 rfl rfl rfl (by omega) (by omega) ?_
        refine op_assign rfl (.int _ _) rfl ?_
        refine op_nil (at_then ?_)
        exact ⟨⟨r3, a3, c3, stepL e.s L, i + 1, A3, P3.map settleS, F3⟩, rfl, ⟨rfl, rfl, rfl, trivial⟩, ⟨by dsimp only; omega, hms.1, settled01 s3.D.T.pg.ok⟩, by dsimp only; omega⟩
      · intro h1
        replace h1 := dec_f h1
        obtain rfl : i = l.length := by omega
        obtain ⟨wa, rfl⟩ : ∃ z, z = w := ⟨_, rfl⟩
        have H := Ctx.start wa []
        have hdk := s.D.dk
        obtain ⟨hfe, hfd⟩ := flush_calm s.on s.left
        have hff := flush_few s.few
        rw [hfd] at hff
        refine W_exit (exit_then (exit_then (exit_here (at_then ?_))))
        refine W_seq ?_
        refine W_rseq ?_
        refine op_move rfl (.pointer _) rfl ?_
        refine op_nilCheck rfl rfl ?_
        refine op_fieldAddr rfl fo_36_0_TrG8 rfl ?_
        first | refine op_ldb rfl ag_32 rfl H (by first | exact at0 | exact at1 | exact at2 | exact at3 | exact at4 | exact at5 | exact at6 | exact at7 | exact at8 | exact at9) rfl ?_ | refine op_ld rfl ag_32 rfl ((by rw [cell_bl hdk]; rfl)) ?_
        refine op_call rfl ca_36_TrG8 (dflush_ok s.few (by omega) s.D.T.dev) rfl ?_
        rintro v w2 ⟨rfl, DA2, t2⟩
        rw [hfe]
        rw [hfd] at DA2
        refine op_neq rfl rfl rfl ?_
        refine op_nil (at_then ?_)
        refine W_cond0 rfl ?_
        refine W_skip (at_then ?_)
        obtain ⟨s2, g2⟩ := s.dev DA2 t2 (sure_tree s.T) s.on s.left (List.length_map ..) hff
        have PL2 := PL.turn g2
        obtain ⟨A0, hA0⟩ : ∃ A0, A0 = sureD A := ⟨_, rfl⟩
        have hsure := sure_sure A
        rw [← hA0] at s2 hsure
        have sk0 := Sunk.start s2.T h01
        have hblen0 := s2.blen
        have hnum0 := s2.num
        refine W_rseq ?_
        refine op_move rfl (.int _ _) rfl ?_
        refine op_assign rfl (.int _ _) rfl ?_
        refine op_nil (at_then ?_)
        refine W_rseq ?_
        refine op_move rfl (.slice _ _ _) rfl ?_
        refine op_assign rfl (.slice _ _ _) rfl ?_
        refine op_nil (at_then ?_)
        refine W_seq ?_
        refine W_rseq ?_
        refine op_assign rfl (.int _ _) rfl ?_
        refine op_nil (at_then ?_)
        refine W_block ?_
        refine W_loop 324518553656065543541721199001664 (α := Nat × Sv) (fun s => [(14, .int .i64 s.2.root), (15, .slice s.2.la s.2.L.length s.2.lc), (16, .int .i64 (s.1 : Int))]) (fun s w' => s.1 ≤ m.length ∧ Std w0 w' bx bt bd bp ba 800 s.2.root s.2.L (l.length + s.1) s.2.A s.2.P s.2.F ∧ Prs w' (TM s.2.F ba bt bp []) s.2.la s.2.L.length s.2.lc s.2.L ∧ Sunk A0 P root L s.2.A s.2.P ∧ Prs w' (TM s.2.F ba bt bp []) la L.length lc L) (fun s => m.length - s.1) (0, ⟨root, la, lc, L, 0, A0, P, F⟩) rfl ?_ ?_ ?_
        · exact ⟨rfl, rfl, rfl, trivial⟩
        · exact ⟨Nat.zero_le _, s2, PL2, sk0, PL2⟩
        · clear s PL hfree s2 PL2 DA2 t2 g2 sk0
          rintro ⟨k, r5, a5, c5, L5, z5, A5, P5, F5⟩ j w ⟨hk, s, PL, sk, PO⟩; dsimp only at hk s PL sk PO; dsimp only
          have hL5 := s.li
          obtain ⟨wb, rfl⟩ : ∃ z, z = w := ⟨_, rfl⟩
          have H := Ctx.start wb []
          have hdk := s.D.dk
          refine W_seq ?_
          refine W_rseq (Wops_join (α := Unit) 9669045373675598575042560 (fun _ => [(82, .bool (decide (k < m.length) && decide (100 ≤ freeP P5)))]) (fun _ w' => wb = w') rfl ?_ ?_)
          · refine op_move rfl (.int _ _) rfl ?_
            refine op_move rfl (.slice _ _ _) rfl ?_
            refine op_len rfl el_22_TrG8 rfl ?_
            refine op_lss rfl rfl rfl ?_
            refine op_move rfl (.bool _) rfl ?_
            refine Wops_split 75 rfl ?_ ?_
            · intro h3
              replace h3 := dec_t h3
              refine op_move rfl (.pointer _) rfl ?_
              refine op_nilCheck rfl rfl ?_
              refine op_fieldAddr rfl fo_36_1_TrG8 rfl ?_
              first | refine op_ldb rfl ag_33_TrG8 rfl H (by first | exact at0 | exact at1 | exact at2 | exact at3 | exact at4 | exact at5 | exact at6 | exact at7 | exact at8 | exact at9) rfl ?_ | refine op_ld rfl ag_33_TrG8 rfl ((by rw [cell_bl hdk]; rfl)) ?_
              refine op_call rfl ca_22_TrG8 (pfree_ok s.D.T.pg) rfl ?_
              rintro v w ⟨rfl, rfl⟩
              refine op_geq rfl rfl rfl ?_
              refine op_pick1 rfl rfl (.bool _) rfl ?_
              refine op_nil ?_
              exact ⟨rfl, (), rfl, ⟨congrArg Value.bool (by rw [Bool.eq_iff_iff]; simp_all; try omega), trivial⟩, rfl⟩
            · intro h4
              replace h4 := dec_f h4
              refine op_skip rfl ?_
              refine op_skip rfl ?_
              refine op_skip rfl ?_
              refine op_skip rfl ?_
              refine op_skip rfl ?_
              refine op_skip rfl ?_
              refine op_pick0 rfl rfl (.bool _) rfl ?_
              refine op_nil ?_
              exact ⟨rfl, (), rfl, ⟨congrArg Value.bool (by rw [Bool.eq_iff_iff]; simp_all; try omega), trivial⟩, rfl⟩
          rintro - j82 w rfl
          refine W_cond _ rfl ?_ ?_
          · intro h2
            simp only [Bool.and_eq_true, decide_eq_true_eq] at h2
            obtain ⟨e, he⟩ := get_some (l := m) (i := k) (by omega)
            have hee := List.mem_of_getElem? he
            obtain ⟨hk200, hv500⟩ := hsm2 e hee
            have hei := hin2 e hee
            refine W_skip (at_then ?_)
            refine W_seq ?_
            refine W_block ?_
            refine W_rseq ?_
            refine op_move rfl (.pointer _) rfl ?_
            refine op_move rfl (.int _ _) rfl ?_
            refine op_move rfl (.slice _ _ _) rfl ?_
            refine op_move rfl (.slice _ _ _) rfl ?_
            refine op_move rfl (.int _ _) rfl ?_
            first | refine op_indexRd R rfl el_22_TrG8 sz_30_TrG8 rfl rfl (by omega) (by omega) (by first | rfl | omega) ?_ | refine op_indexRd R2 rfl el_22_TrG8 sz_30_TrG8 rfl rfl (by omega) (by omega) (by first | rfl | omega) ?_ | refine op_indexAddr rfl el_22_TrG8 sz_30_TrG8 rfl rfl (by omega) (by omega) ?_
            first | refine op_ldN _ rfl ag_30_TrG8 sz_30_TrG8 rfl rfl ((R.ext0 s.hx).row he rfl) ?_ | refine op_ldN _ rfl ag_30_TrG8 sz_30_TrG8 rfl rfl ((R2.ext0 s.hx).row he rfl) ?_ | refine op_ldbN rfl ag_30_TrG8 sz_30_TrG8 rfl H (by first | exact at0 | exact at1 | exact at2 | exact at3 | exact at4 | exact at5 | exact at6 | exact at7 | exact at8 | exact at9) rfl ?_
            refine op_call rfl ca_16_TrG8 (does_ok s.D s.T s.on s.hl (by rw [s.num]; omega) s.left (by omega) s.few (by omega) PL (by omega) e (hei.ok hk200 hv500 s.hx s.new)) rfl ?_
            rintro v w3 h3
            obtain ⟨r3, a3, c3, A3, P3, F3, rfl, s3, PL3, g3, af3⟩ := s.does h3
            refine op_move rfl (.tuple _) rfl ?_
            refine op_extract rfl rfl rfl ?_
            refine op_extract rfl rfl rfl ?_
            refine op_extract rfl rfl rfl ?_
            refine op_assign rfl (.int _ _) rfl ?_
            refine op_assign rfl (.slice _ _ _) rfl ?_
            refine op_assign rfl (.bool _) rfl ?_
            refine op_nil (at_then ?_)
            refine W_seq ?_
            have sk3 := sk.after af3
            have PO3 := PO.turn g3
            obtain ⟨S3, td3⟩ := sk3.told s3.on s3.hl (by rw [s3.num]; omega)
            have hS3 := td3.len
            refine W_rseq ?_
            refine op_move rfl (.bool _) rfl ?_
            refine op_not rfl rfl ?_
            refine op_move rfl (.bool _) rfl ?_
            refine op_move rfl (.pointer _) rfl ?_
            refine op_move rfl (.int _ _) rfl ?_
            refine op_move rfl (.slice _ _ _) rfl ?_
            refine op_call rfl ca_21_TrG8 (has_ok s3.D td3 (by omega) PO3 (by omega) s3.few (by omega) (by omega)) rfl ?_
            rintro v w4 ⟨rfl, hx4⟩
            rw [decide_eq_true (show L = L from rfl)]
            refine op_not rfl rfl ?_
            refine op_pick0 rfl rfl (.bool _) rfl ?_
            refine op_nil (at_then ?_)
            refine W_cond0 rfl ?_
            refine W_skip (at_then ?_)
            refine W_rseq ?_
            refine op_move rfl (.int _ _) rfl ?_
            refine op_assign rfl (.int _ _) rfl ?_
            refine op_nil (at_then ?_)
            refine W_region ?_
            refine op_move rfl (.slice _ _ _) rfl ?_
            refine op_assign rfl (.slice _ _ _) rfl ?_
            refine op_nil (at_block (at_then ?_))
            refine W_region ?_
            refine op_move rfl (.int _ _) rfl ?_
            refine op_add_i64 rfl rfl rfl (by omega) (by omega) ?_
            refine op_assign rfl (.int _ _) rfl ?_
            refine op_nil (at_then ?_)
            exact ⟨(k + 1, ⟨r3, a3, c3, stepL e.s L5, 0, A3, P3, F3⟩), rfl, ⟨rfl, rfl, rfl, trivial⟩, ⟨by dsimp only; omega, s3.call hx4, PL3.turn (.call0 hx4), sk3, PO3.turn (.call0 hx4)⟩, by dsimp only; omega⟩
          · intro h2
            refine W_exit (exit_then (exit_then (exit_here (at_then ?_))))
            refine W_seq ?_
            obtain ⟨S6, td6, -, -⟩ := s.told (by omega)
            have hS6 := td6.len
            refine W_rseq ?_
            refine op_move rfl (.pointer _) rfl ?_
            refine op_move rfl (.int _ _) rfl ?_
            refine op_move rfl (.slice _ _ _) rfl ?_
            refine op_call rfl ca_21_TrG8 (has_ok s.D td6 (by omega) PL (by omega) s.few (by omega) (by omega)) rfl ?_
            rintro v w6 ⟨rfl, hx6⟩
            rw [decide_eq_true (show L5 = L5 from rfl)]
            refine op_not rfl rfl ?_
            refine op_nil (at_then ?_)
            refine W_cond0 rfl ?_
            refine W_skip (at_then ?_)
            refine W_seq ?_
            have s6 := s.call hx6
            have PO6 := PO.turn (.call0 hx6)
            have hdk6 := s6.D.dk
            have H := Ctx.start w6 []
            obtain ⟨hoe, hone, honon, honl, honb, honf⟩ := crash_dev A5 []
            rw [if_pos s6.on] at hoe
            refine W_rseq (Wops_join (α := Unit) 1361119083090036784198241368734414405632 (fun _ => [(129, .bool (false))]) (fun _ w' => ∃ A8, Tx w' bt bd bp ba 10 A8 P5 F5 [] ∧ Grown (TM F5 ba bt bp []) (TM F5 ba bt bp []) w6 w' ∧ TreeAt 10 A8 P root L ∧ A8.on = true ∧ A8.left = -1 ∧ A8.B.length = A5.B.length ∧ Few A8 (40 * (l.length + k))) rfl ?_ ?_)
            · refine op_move rfl (.bool _) rfl ?_
              refine op_move rfl (.bool _) rfl ?_
              refine Wops_split 114 rfl ?_ ?_
              · intro h5
                refine op_move rfl (.pointer _) rfl ?_
                refine op_nilCheck rfl rfl ?_
                refine op_fieldAddr rfl fo_36_0_TrG8 rfl ?_
                first | refine op_ldb rfl ag_32 rfl H (by first | exact at0 | exact at1 | exact at2 | exact at3 | exact at4 | exact at5 | exact at6 | exact at7 | exact at8 | exact at9) rfl ?_ | refine op_ld rfl ag_32 rfl ((by first | (rw [cell_bl hdk7]; rfl) | (rw [cell_bl hdk6]; rfl))) ?_
                refine op_call rfl ca_43_TrG8 (doff_ok s6.D.T.dev) rfl ?_
                rintro v w7 ⟨rfl, DA7, t7⟩
                rw [hoe]
                obtain ⟨T7, g7⟩ := s6.D.T.devs DA7 t7 (fun x h => .inl h)
                have hdk7 := (s6.D.step T7 g7).dk
                refine op_neq rfl rfl rfl ?_
                refine op_move rfl (.bool _) rfl ?_
                refine op_move rfl (.pointer _) rfl ?_
                refine op_nilCheck rfl rfl ?_
                refine op_fieldAddr rfl fo_36_0_TrG8 rfl ?_
                first | refine op_ldb rfl ag_32 rfl H (by first | exact at0 | exact at1 | exact at2 | exact at3 | exact at4 | exact at5 | exact at6 | exact at7 | exact at8 | exact at9) rfl ?_ | refine op_ld rfl ag_32 rfl ((by first | (rw [cell_bl hdk7]; rfl) | (rw [cell_bl hdk6]; rfl))) ?_
                refine op_call rfl ca_42_TrG8 (donp_ok none 0 0 [] Rd.nil rfl (by omega) (Nat.le_refl _) (.inl rfl) (fun x h => by cases h) (show Few (offD A5) _ from s6.few) (by omega) T7.dev) rfl ?_
                rintro v w8 ⟨rfl, DA8, t8⟩
                rw [hone]
                obtain ⟨T8, g8⟩ := T7.devs DA8 t8 (fun x h => .inl h)
                have g78 := g7.trans g8
                refine op_neq rfl rfl rfl ?_
                refine op_pick0 rfl rfl (.bool _) rfl ?_
                refine op_pick1 rfl rfl (.bool _) rfl ?_
                refine op_nil ?_
                exact ⟨rfl, (), rfl, ⟨congrArg Value.bool (rfl), trivial⟩, by first | exact ⟨_, T8, g78, sk.crash hsure (by rw [hnum0, hblen0]; exact Nat.le_refl _) [], honon, honl, honb, honf.mono (Nat.zero_le _)⟩ | exact ⟨_, s6.D.T, .call0 (Ext.refl _ _), sk.calm, s6.on, s6.left, rfl, s6.few⟩⟩
              · intro h6
                refine op_skip rfl ?_
                refine op_skip rfl ?_
                refine op_skip rfl ?_
                refine op_skip rfl ?_
                refine op_skip rfl ?_
                refine op_skip rfl ?_
                refine op_skip rfl ?_
                refine op_skip rfl ?_
                refine op_skip rfl ?_
                refine op_skip rfl ?_
                refine op_skip rfl ?_
                refine op_skip rfl ?_
                refine op_skip rfl ?_
                refine op_skip rfl ?_
                refine op_pick0 rfl rfl (.bool _) rfl ?_
                refine op_nil ?_
                exact ⟨rfl, (), rfl, ⟨congrArg Value.bool (rfl), trivial⟩, by first | exact ⟨_, T8, g78, sk.crash hsure (by rw [hnum0, hblen0]; exact Nat.le_refl _) [], honon, honl, honb, honf.mono (Nat.zero_le _)⟩ | exact ⟨_, s6.D.T, .call0 (Ext.refl _ _), sk.calm, s6.on, s6.left, rfl, s6.few⟩⟩
            rintro - j129 w ⟨A8, T8, g68, TA8, hon8, hl8, hb8, hf8⟩
            refine W_cond0 rfl ?_
            refine W_skip (at_then ?_)
            refine W_seq ?_
            obtain ⟨w8, rfl⟩ : ∃ z, z = w := ⟨_, rfl⟩
            have D8 := s6.D.step T8 g68
            have hdk8 := D8.dk
            have hbk := sk.back
            have PO8 := PO6.turn g68
            have H := Ctx.start w8 []
            refine W_rseq ?_
            refine op_move rfl (.pointer _) rfl ?_
            refine op_nilCheck rfl rfl ?_
            refine op_fieldAddr rfl fo_36_1_TrG8 rfl ?_
            first | refine op_ldb rfl ag_33_TrG8 rfl H (by first | exact at0 | exact at1 | exact at2 | exact at3 | exact at4 | exact at5 | exact at6 | exact at7 | exact at8 | exact at9) rfl ?_ | refine op_ld rfl ag_33_TrG8 rfl ((by rw [cell_bl hdk8]; rfl)) ?_
            refine op_call rfl ca_44_TrG8 (pback_ok T8.pg) rfl ?_
            rintro v w9 ⟨rfl, PA9, hx9⟩
            rw [hbk] at PA9
            obtain ⟨T9, g9⟩ := T8.page PA9 hx9
            have g69 := g68.trans g9
            have s9 : Std w0 w9 bx bt bd bp ba 800 root L (l.length + k) A8 P F5 := ⟨D8.step T9 g9, TA8, hon8, hl8, hnum0, hb8.trans s6.blen, hf8, by omega, s6.new, g69.1.new s6.hx s6.new⟩
            have PO9 := PO8.turn g9
            obtain ⟨S9, td9, hnd9, hS9⟩ := s9.told (by omega)
            have hSl9 := td9.len
            refine op_neq rfl rfl rfl ?_
            refine op_move rfl (.bool _) rfl ?_
            refine op_move rfl (.pointer _) rfl ?_
            refine op_move rfl (.int _ _) rfl ?_
            refine op_move rfl (.slice _ _ _) rfl ?_
            refine op_call rfl ca_21_TrG8 (has_ok s9.D td9 (by omega) PO9 (by omega) s9.few (by omega) (by omega)) rfl ?_
            rintro v w10 ⟨rfl, hx10⟩
            rw [decide_eq_true (show L = L from rfl)]
            have s10 := s9.call hx10
            refine op_not rfl rfl ?_
            refine op_pick0 rfl rfl (.bool _) rfl ?_
            refine op_move rfl (.bool _) rfl ?_
            refine op_move rfl (.pointer _) rfl ?_
            refine op_move rfl (.int _ _) rfl ?_
            refine op_call rfl ca_20_TrG8 (held_ok s10.D td9 hnd9 hS9 s10.few (by omega) (by omega)) rfl ?_
            rintro v w11 ⟨rfl, hx11⟩
            refine op_not rfl rfl ?_
            refine op_pick0 rfl rfl (.bool _) rfl ?_
            refine op_nil (at_then ?_)
            refine W_cond0 rfl ?_
            refine W_skip (at_then ?_)
            have s11 := s10.call hx11
            have PO11 := (PO9.turn (.call0 hx10)).turn (.call0 hx11)
            have hfr := settle_free s11.D.T.pg.ok hnd9 hS9
            rw [settle_same h01] at hfr
            refine W_rseq ?_
            refine op_move rfl (.pointer _) rfl ?_
            refine op_move rfl (.int _ _) rfl ?_
            refine op_move rfl (.slice _ _ _) rfl ?_
            refine op_call rfl ca_33_TrG8 (b7_ok [111, 110] _) rfl ?_
            rintro v w12 ⟨b12, c12, rfl, X12, hc12, hb12, hx12⟩
            refine op_call rfl ca_33_TrG8 (b7_ok [97, 110, 100, 32, 111, 110] _) rfl ?_
            rintro v w13 ⟨b13, c13, rfl, X13, hc13, hb13, hx13⟩
            have s13 := (s11.call hx12).call hx13
            have PO13 := (PO11.turn (.call0 hx12)).turn (.call0 hx13)
            have sk13 := Sunk.start s13.T h01
            refine op_buildS [.bool false, .slice (some ⟨b12, 0, none⟩) 2 c12, .slice (some ⟨b13, 0, none⟩) 6 c13, .bool false] rfl pl_30_TrG8 zc_30_TrG8 (by kernel_rfl) ?_
            refine op_call rfl ca_16_TrG8 (does_ok s13.D s13.T s13.on s13.hl (by rw [s13.num]; omega) s13.left (by omega) s13.few (by omega) PO13 (by omega) ⟨some ⟨b12, 0, none⟩, c12, some ⟨b13, 0, none⟩, c13, ⟨false, [111, 110], [97, 110, 100, 32, 111, 110], false⟩⟩ ⟨Rdx.new (X12.ext0 hx13) s11.D.T.mlt (Nat.le_refl _) hb12, Rdx.new X13 s11.D.T.mlt hx12.size hb13, hc12, hc13, (show (2 : Nat) ≤ 200 by decide), (show (6 : Nat) ≤ 500 by decide)⟩) rfl ?_
            rintro v w14 h14
            obtain ⟨r14, a14, c14, A14, P14, F14, rfl, s14, PL14, g14, af14⟩ := s13.does h14
            refine op_move rfl (.tuple _) rfl ?_
            refine op_extract rfl rfl rfl ?_
            refine op_extract rfl rfl rfl ?_
            refine op_extract rfl rfl rfl ?_
            refine op_assign rfl (.int _ _) rfl ?_
            refine op_assign rfl (.slice _ _ _) rfl ?_
            refine op_assign rfl (.bool _) rfl ?_
            refine op_nil (at_then ?_)
            obtain ⟨L14, hL14⟩ : ∃ z, z = stepL ⟨false, [111, 110], [97, 110, 100, 32, 111, 110], false⟩ L := ⟨_, rfl⟩
            dsimp only at s14 PL14 ⊢
            rw [← hL14] at s14 PL14 ⊢
            have hli14 := s14.li
            have sk14 := sk13.after af14
            have PO14 := PO13.turn g14
            obtain ⟨S14, td14, -, -⟩ := s14.told (by omega)
            have hS14 := td14.len
            obtain ⟨S15, td15⟩ := sk14.told s14.on s14.hl (by rw [s14.num]; omega)
            have hS15 := td15.len
            refine W_rseq ?_
            refine op_move rfl (.bool _) rfl ?_
            refine op_move rfl (.bool _) rfl ?_
            refine op_move rfl (.pointer _) rfl ?_
            refine op_move rfl (.int _ _) rfl ?_
            refine op_move rfl (.slice _ _ _) rfl ?_
            refine op_call rfl ca_21_TrG8 (has_ok s14.D td14 (by omega) PL14 (by omega) s14.few (by omega) (by omega)) rfl ?_
            rintro v w15 ⟨rfl, hx15⟩
            rw [decide_eq_true (show L14 = L14 from rfl)]
            have s15 := s14.call hx15
            refine op_pick1 rfl rfl (.bool _) rfl ?_
            refine op_move rfl (.bool _) rfl ?_
            refine op_move rfl (.pointer _) rfl ?_
            refine op_move rfl (.int _ _) rfl ?_
            refine op_move rfl (.slice _ _ _) rfl ?_
            refine op_call rfl ca_21_TrG8 (has_ok s15.D td15 (by omega) (PO14.turn (.call0 hx15)) (by omega) s15.few (by omega) (by omega)) rfl ?_
            rintro v w16 ⟨rfl, hx16⟩
            rw [decide_eq_true (show L = L from rfl)]
            refine op_pick1 rfl rfl (.bool _) rfl ?_
            refine op_move rfl (.bool _) rfl ?_
            refine op_call rfl ca_13_TrG8 (works7_ok _) rfl ?_
            rintro v w17 ⟨rfl, hx17⟩
            refine op_pick1 rfl rfl (.bool _) rfl ?_
            refine op_assign rfl (.bool _) rfl ?_
            refine op_nil (at_then ?_)
            refine W_ret (leave1 (v := (.bool _)) rfl rfl rfl ?_)
            exact ⟨rfl, ((s15.call hx16).hx).trans hx17⟩

end Go.Proofs.YtbkadlngijkmmaaGreatDoor

/- TreeKeeps: for every input the law answers true, and turns nothing. The tables that its row lists are premises, and tied to the text by its card. -/
namespace Go.Proofs.YtbkadlngijkmmaaGreatDoor.treeKeeps
open Go.GV Go.ChangeShapes Go.WideShapes Go.ChangeAt Go.RowKit

theorem laid_met (os : Os) : laidMet Tryz.prog Rows.treeKeepsRow.laid ((laidWorld os).forCall (fun _ _ => 0) ⟨#[], #[.slice none 0 0, .slice none 0 0, .bool false], []⟩).memory :=
  laidMet_of_run' 8 (by kernel_rfl) (by kernel_rfl)
theorem reads (os : Os) {H : Type} (enc : TypeId × Value → H) : ∃ ds places, DataW.whole enc Tryz.prog ((laidWorld os).forCall (fun _ _ => 0) ⟨#[], #[.slice none 0 0, .slice none 0 0, .bool false], []⟩).memory Tryz.f7.params.toList Rows.treeKeepsSpec.vars false (#[.slice none 0 0, .slice none 0 0, .bool false] : Array Value).toList 8 = some (ds, [], places) :=
  ⟨[.nil, .nil, .lit (.bool false)], [], by kernel_rfl⟩

set_option maxRecDepth 100000 in
theorem lifted (os : Os) (started : os.Started) (H : Type) (enc : TypeId × Value → H) (F : Stop.Interp) :
    ReturnsInHanded {} Tryz.checked os 7 .any ((OpenSpec.ofChange Rows.treeKeepsSpec).preRow enc Tryz.prog Tryz.f7 Rows.treeKeepsRow.domain false Rows.treeKeepsRow.laid) (((OpenSpec.ofChange Rows.treeKeepsSpec).at F).post enc Tryz.prog Tryz.f7 false true false false) := by
  obtain ⟨ds, places, hx⟩ := reads os enc
  refine returnsInHanded_of_row (C := Tryz.checked) (s := OpenSpec.ofChange Rows.treeKeepsSpec) own started (by kernel_rfl) Tryz.func7
    (witness_row_at (enc := enc) (C := Tryz.checked) false (laidWorld os) #[.slice none 0 0, .slice none 0 0, .bool false] rfl (by kernel_rfl) (by kernel_rfl) (by kernel_rfl)
      (OpenSpec.preRow_of_cond 8 hx (by kernel_rfl) (fun k hk => by cases hk) (by kernel_rfl) (laid_met os))) ?_
  intro W base args ds gs before hval0 hW _ _ hLt _ _ _
  have hval : ∀ (j : Nat) t v, Tryz.f7.params[j]? = some t → args[j]? = some v → Value.okWide Tryz.prog W .any base t v := hval0
  have hW' := hW
  obtain ⟨p, q, hA0, hV, rfl, hfz, hnd⟩ := hW
  have hA : DataW.TrodAll enc Tryz.prog W 0 (fun _ => true) true Tryz.f7.params.toList args.toList ds p := hA0
  rw [Tryz.params7] at hA hval
  obtain ⟨v0, vs0, d0, ds0, p0, q0, hargs, rfl, rfl, h0, r0⟩ := trodAll_cons hA
  obtain ⟨v1, vs1, d1, ds1, p1, q1, rfl, rfl, rfl, h1, r1⟩ := trodAll_cons r0
  obtain ⟨v2, vs2, d2, ds2, p2, q2, rfl, rfl, rfl, h2, r2⟩ := trodAll_cons r1
  obtain ⟨rfl, rfl, rfl⟩ := trodAll_nil r2
  obtain rfl : args = #[v0, v1, v2] := by cases args; simp_all
  have hL0 : Light Tryz.prog 22 d0 := light_of hLt (i := 0) rfl rfl
  obtain ⟨a0, c0, l0, rfl, R0, hc0, hm0, hw0, H0⟩ := rdw_of_T Tryz.underlying22 step7Cells (by decide) dec_step7 (okWide_slice Tryz.underlying22 (hval 0 _ v0 rfl rfl)) h0 hL0
  unfold maxLen at hm0
  have hL1 : Light Tryz.prog 22 d1 := light_of hLt (i := 1) rfl rfl
  obtain ⟨a1, c1, l1, rfl, R1, hc1, hm1, hw1, H1⟩ := rdw_of_T Tryz.underlying22 step7Cells (by decide) dec_step7 (okWide_slice Tryz.underlying22 (hval 1 _ v1 rfl rfl)) h1 hL1
  unfold maxLen at hm1
  obtain ⟨k2, rfl, rfl, rfl⟩ := open_bool Tryz.underlying4 (hval 2 _ v2 rfl rfl) h2
  refine (treeKeeps_ok a0 a1 c0 c1 l0 l1 k2 W R0 H0 R1 H1).calls.mono ?_
  rintro e W' ⟨v, rfl, rfl, hx⟩
  exact ⟨_, rfl, law_post laidOut rfl (by kernel_rfl) rfl Tryz.underlying4 (fun ds h => match ds, h with | [_, _, _], _ => rfl) hW' hx⟩

theorem said : Rows.TreeKeepsSaid :=
  OpenClaim.holds_of_cond 7 Tryz.f7 rfl rfl rfl rfl rfl rfl rfl ⟨rfl, rfl, rfl, rfl, rfl⟩ rfl rfl rfl rfl rfl (by kernel_rfl) Tryz.func7 (by kernel_rfl)
    (of_decide_eq_true (by kernel_rfl)) (by unfold Func.isWrapper; first | (rw [if_pos (by decide +kernel)]; kernel_rfl) | (rw [if_neg (by decide +kernel)]; exact ⟨rfl, rfl⟩))
    (fun os started H enc _ F => by rw [OpenClaim.pre_eq_preRow]; exact lifted os started H enc F)

theorem plain (f : FuncId) (fn : Func) (hf : Tryz.pinned.checked.prog.funcNamed "gablet/gabletlaw07.TreeKeeps" = some f) (hfn : Tryz.pinned.checked.prog.funcs[f]? = some fn) :
    false = Tryz.pinned.checked.prog.looks [] ∧ ∀ (j : Nat) t, fn.params[j]? = some t → Tryz.pinned.checked.prog.wantsStandIn t = false := by
  obtain rfl : f = 7 := Option.some.inj ((show Tryz.prog.funcNamed "gablet/gabletlaw07.TreeKeeps" = some 7 by kernel_rfl).symm.trans hf) |>.symm
  obtain rfl : fn = Tryz.f7 := (Option.some.inj (Tryz.func7.symm.trans hfn)).symm
  refine ⟨by kernel_rfl, fun j t ht => ?_⟩
  rw [Tryz.params7] at ht
  have hm := Array.mem_of_getElem? ht
  exact List.all_eq_true.1 (show (Tryz.f7.params.toList.all fun t => !Tryz.prog.wantsStandIn t) = true by kernel_rfl) t (by rw [Tryz.params7]; simpa using hm) |> fun h => (Bool.not_eq_true' _).mp h

theorem card : Rows.TreeKeepsCardSaid :=
  Claim7.holds_tied_plain_at .later [] _ _ _ _ said (fun _ h => by cases h) (by kernel_rfl) (fun _ h => by cases h) treeKeeps_row_tie rfl ⟨rfl, rfl⟩ (by kernel_rfl) rfl plain (by kernel_rfl)
end Go.Proofs.YtbkadlngijkmmaaGreatDoor.treeKeeps
namespace Go.Proofs.YtbkadlngijkmmaaGreatDoor
theorem treeKeeps_holds : Rows.TreeKeepsCardSaid := treeKeeps.card
#print axioms treeKeeps_holds
end Go.Proofs.YtbkadlngijkmmaaGreatDoor
