/- Part 20 of the proof. -/
import Derived.Test.YtapphbmlkdhnmaaGreatPart19
/- Nets that are the same; whether a round is one of now, as the reference has it. -/
namespace Go.Proofs.YtapphbmlkdhnmaaGreat
open Go.GV
theorem ag_23_SqM : aggB Tryz.prog 23 = some false := by kernel_rfl
theorem ag_24_SqM : aggB Tryz.prog 24 = some false := by kernel_rfl
theorem ag_25_SqM : aggB Tryz.prog 25 = some false := by kernel_rfl
theorem ag_26_SqM : aggB Tryz.prog 26 = some false := by kernel_rfl
theorem ag_28_SqM : aggB Tryz.prog 28 = some true := by kernel_rfl
theorem ag_3_SqM : aggB Tryz.prog 3 = some false := by kernel_rfl
theorem ag_4_SqM : aggB Tryz.prog 4 = some false := by kernel_rfl
theorem ag_92_SqM : aggB Tryz.prog 92 = some true := by kernel_rfl
theorem ca_13_SqM : callable Tryz.prog 13 = true := by kernel_rfl
theorem ca_14_SqM : callable Tryz.prog 14 = true := by kernel_rfl
theorem ca_19_SqM : callable Tryz.prog 19 = true := by kernel_rfl
theorem el_25_SqM : elemT Tryz.prog 25 = some 24 := by kernel_rfl
theorem el_26_SqM : elemT Tryz.prog 26 = some 92 := by kernel_rfl
theorem fo_28_0_SqM : fieldO Tryz.prog 28 0 = some 0 := by kernel_rfl
theorem fo_28_1_SqM : fieldO Tryz.prog 28 1 = some 1 := by kernel_rfl
theorem fo_33_2_SqM : fieldO Tryz.prog 33 2 = some 2 := by kernel_rfl
theorem fo_33_3_SqM : fieldO Tryz.prog 33 3 = some 3 := by kernel_rfl
theorem fo_33_4_SqM : fieldO Tryz.prog 33 4 = some 4 := by kernel_rfl
theorem fo_48_0_SqM : fieldO Tryz.prog 48 0 = some 0 := by kernel_rfl
theorem mixed_SqM : Tryz.prog.follows .mixedOrders = true := by kernel_rfl
theorem sz_24_SqM : tsize Tryz.prog 24 = some 1 := by kernel_rfl
theorem sz_28_SqM : tsize Tryz.prog 28 = some 2 := by kernel_rfl
theorem sz_92_SqM : tsize Tryz.prog 92 = some 4 := by kernel_rfl
theorem zc_28_SqM : zcells Tryz.prog 28 = some ([.int .i64 0, .slice none 0 0]) := by kernel_rfl
attribute [local irreducible] Wops W Wq Wt

def sameB (N M : Int) (xs ys : List Ed) : Bool := decide (N = M) && decide (xs = ys)
set_option maxRecDepth 20000 in
set_option maxHeartbeats 2000000 in
theorem sameNet_ok (N M : Int) (a b : Option Addr) (n c m d : Nat) (xs ys : List Ed) (w : World) (R : Rd w a 4 encE xs) (hn : xs.length = n) (hn2 : n ≤ 1000000) (Ry : Rd w b 4 encE ys) (hm : ys.length = m) (hm2 : m ≤ 1000000) :
    Ret Tryz.prog 19 #[netV N a n c, netV M b m d] w fun v w' => v = .bool (sameB N M xs ys) ∧ Ext [] w w' := by
  subst hn hm
  obtain ⟨w0, rfl⟩ : ∃ w0, w0 = w := ⟨_, rfl⟩
  have H := Ctx.start w0 []
  refine ret_of_W (fn := Tryz.f19) Tryz.func19 rfl [netV N a xs.length c, netV M b ys.length d] rfl (by kernel_rfl) ?_
  refine W_rseq ?_
  refine op_box rfl [.int .i64 N, .slice a xs.length c] (.agg _) rfl rfl H ?_
  rintro b2 w - H
  refine op_box rfl [.int .i64 M, .slice b ys.length d] (.agg _) rfl rfl H ?_
  rintro b3 w - H
  refine op_assign rfl (.bool _) rfl ?_
  refine op_nil (at_then ?_)
  refine W_seq ?_
  refine W_rseq (Wops_join (α := Unit) 1048512 (fun _ => [(19, .bool (!(decide (N = M) && decide (xs.length = ys.length))))]) (fun _ w' => Ctx w0 [] w' [(b3, Bl 28 [.int .i64 M, .slice b ys.length d]), (b2, Bl 28 [.int .i64 N, .slice a xs.length c])]) rfl ?_ ?_)
  · refine op_fieldAddr rfl fo_28_0_SqM rfl ?_
    refine op_ldb rfl ag_3_SqM rfl H (by first | exact at0 | exact at1 | exact at2 | exact at3 | exact at4 | exact at5 | exact at6 | exact at7 | exact at8 | exact at9) rfl ?_
    refine op_fieldAddr rfl fo_28_0_SqM rfl ?_
    refine op_ldb rfl ag_3_SqM rfl H (by first | exact at0 | exact at1 | exact at2 | exact at3 | exact at4 | exact at5 | exact at6 | exact at7 | exact at8 | exact at9) rfl ?_
    refine op_neq rfl rfl rfl ?_
    refine op_move rfl (.bool _) rfl ?_
    refine Wops_split 11 rfl ?_ ?_
    · intro h1
      replace h1 := ndec_t h1
      refine op_skip rfl ?_
      refine op_skip rfl ?_
      refine op_skip rfl ?_
      refine op_skip rfl ?_
      refine op_skip rfl ?_
      refine op_skip rfl ?_
      refine op_skip rfl ?_
      refine op_pick1 rfl rfl (.bool _) rfl ?_
      refine op_nil ?_
      exact ⟨rfl, (), rfl, ⟨congrArg Value.bool (by rw [Bool.eq_iff_iff]; simp_all; try omega), trivial⟩, H⟩
    · intro h2
      replace h2 := ndec_f h2
      refine op_fieldAddr rfl fo_28_1_SqM rfl ?_
      refine op_ldb rfl ag_26_SqM rfl H (by first | exact at0 | exact at1 | exact at2 | exact at3 | exact at4 | exact at5 | exact at6 | exact at7 | exact at8 | exact at9) rfl ?_
      refine op_len rfl el_26_SqM rfl ?_
      refine op_fieldAddr rfl fo_28_1_SqM rfl ?_
      refine op_ldb rfl ag_26_SqM rfl H (by first | exact at0 | exact at1 | exact at2 | exact at3 | exact at4 | exact at5 | exact at6 | exact at7 | exact at8 | exact at9) rfl ?_
      refine op_len rfl el_26_SqM rfl ?_
      refine op_neq rfl rfl rfl ?_
      refine op_pick0 rfl rfl (.bool _) rfl ?_
      refine op_nil ?_
      exact ⟨rfl, (), rfl, ⟨congrArg Value.bool (by rw [Bool.eq_iff_iff]; simp_all; try omega), trivial⟩, H⟩
  rintro - j19 w H
  refine W_cond _ rfl ?_ ?_
  · intro h1
    replace h1 := nvar_t h1
    refine W_rseq ?_
    refine op_assign rfl (.bool _) rfl ?_
    refine op_nil (at_then ?_)
    refine W_ret (ret_then (leave1 (v := (.bool _)) rfl rfl rfl ?_))
    have h1' : ¬ (N = M ∧ xs.length = ys.length) := by simpa using h1
    refine ⟨congrArg Value.bool ?_, H.ext⟩
    unfold sameB
    by_cases h2 : N = M
    · rw [decide_eq_true h2, decide_eq_false (fun h => h1' ⟨h2, by rw [h]⟩)]; rfl
    · rw [decide_eq_false h2]; rfl
  · intro h1
    replace h1 := nvar_f h1
    have h1' : N = M ∧ xs.length = ys.length := by simpa using h1
    have hsb : sameB N M xs ys = decide (xs = ys) := by unfold sameB; rw [decide_eq_true h1'.1]; rfl
    have hle := h1'.2
    rw [hsb]
    refine W_skip (at_then ?_)
    refine W_seq ?_
    refine W_rseq ?_
    refine op_assign rfl (.int _ _) rfl ?_
    refine op_nil (at_then ?_)
    refine W_block ?_
    refine W_loop 274876858416 (α := Nat) (fun i => [(5, .int .i64 (i : Int))]) (fun i w' => i ≤ xs.length ∧ Ctx w0 [] w' [(b3, Bl 28 [.int .i64 M, .slice b ys.length d]), (b2, Bl 28 [.int .i64 N, .slice a xs.length c])] ∧ ∀ (k : Nat) (x y : Ed), k < i → xs[k]? = some x → ys[k]? = some y → x = y) (fun i => xs.length - i) 0 rfl ?_ ?_ ?_
    · exact ⟨rfl, trivial⟩
    · exact ⟨Nat.zero_le _, H, fun k x y h => absurd h (Nat.not_lt_zero _)⟩
    · clear H
      rintro i j w ⟨hi, H, hb⟩
      refine W_seq ?_
      refine W_rseq ?_
      refine op_move rfl (.int _ _) rfl ?_
      refine op_fieldAddr rfl fo_28_1_SqM rfl ?_
      refine op_ldb rfl ag_26_SqM rfl H (by first | exact at0 | exact at1 | exact at2 | exact at3 | exact at4 | exact at5 | exact at6 | exact at7 | exact at8 | exact at9) rfl ?_
      refine op_len rfl el_26_SqM rfl ?_
      refine op_lss rfl rfl rfl ?_
      refine op_nil (at_then ?_)
      refine W_cond _ rfl ?_ ?_
      · intro h2
        replace h2 := dec_t h2
        obtain ⟨x, hx⟩ := get_some (l := xs) (i := i) (by omega)
        obtain ⟨y, hy⟩ := get_some (l := ys) (i := i) (by omega)
        refine W_skip (at_then ?_)
        refine W_seq ?_
        refine W_block ?_
        refine W_qseq (fun x => x = _) mixed_SqM (by kernel_rfl) rfl ?_
        refine q_fieldAddr rfl fo_28_1_SqM rfl ?_
        refine q_ldb rfl ag_26_SqM rfl (by rintro _ rfl; exact H.drew) (by first | exact at0 | exact at1 | exact at2 | exact at3 | exact at4 | exact at5 | exact at6 | exact at7 | exact at8 | exact at9) rfl ?_
        refine q_move rfl (.int _ _) rfl ?_
        first | refine q_indexRd R rfl el_26_SqM sz_92_SqM rfl rfl (by omega) (by omega) (by first | rfl | omega) ?_ | refine q_indexRd Ry rfl el_26_SqM sz_92_SqM rfl rfl (by omega) (by omega) (by first | rfl | omega) ?_ | refine q_indexAddr rfl el_26_SqM sz_92_SqM rfl rfl (by omega) (by omega) ?_
        first | refine q_ldN _ rfl ag_92_SqM sz_92_SqM rfl rfl (by rintro _ rfl; exact ((R.ext0 H.drew.ext).row hx rfl)) ?_ | refine q_ldN _ rfl ag_92_SqM sz_92_SqM rfl rfl (by rintro _ rfl; exact ((Ry.ext0 H.drew.ext).row hy rfl)) ?_ | refine q_ldbN rfl ag_92_SqM sz_92_SqM rfl (by rintro _ rfl; exact H.drew) (by first | exact at0 | exact at1 | exact at2 | exact at3 | exact at4 | exact at5 | exact at6 | exact at7 | exact at8 | exact at9) rfl ?_
        refine q_fieldAddr rfl fo_28_1_SqM rfl ?_
        refine q_ldb rfl ag_26_SqM rfl (by rintro _ rfl; exact H.drew) (by first | exact at0 | exact at1 | exact at2 | exact at3 | exact at4 | exact at5 | exact at6 | exact at7 | exact at8 | exact at9) rfl ?_
        refine q_move rfl (.int _ _) rfl ?_
        first | refine q_indexRd R rfl el_26_SqM sz_92_SqM rfl rfl (by omega) (by omega) (by first | rfl | omega) ?_ | refine q_indexRd Ry rfl el_26_SqM sz_92_SqM rfl rfl (by omega) (by omega) (by first | rfl | omega) ?_ | refine q_indexAddr rfl el_26_SqM sz_92_SqM rfl rfl (by omega) (by omega) ?_
        first | refine q_ldN _ rfl ag_92_SqM sz_92_SqM rfl rfl (by rintro _ rfl; exact ((R.ext0 H.drew.ext).row hx rfl)) ?_ | refine q_ldN _ rfl ag_92_SqM sz_92_SqM rfl rfl (by rintro _ rfl; exact ((Ry.ext0 H.drew.ext).row hy rfl)) ?_ | refine q_ldbN rfl ag_92_SqM sz_92_SqM rfl (by rintro _ rfl; exact H.drew) (by first | exact at0 | exact at1 | exact at2 | exact at3 | exact at4 | exact at5 | exact at6 | exact at7 | exact at8 | exact at9) rfl ?_
        refine q_neS (ks := [true, true, true, true]) (xs := encE x) (ys := encE y) (decide (x = y)) rfl (by kernel_rfl) rfl rfl ⟨rfl, rfl, rfl, rfl, trivial⟩ (encE_inj x y) ?_
        refine q_nil ?_
        rintro _ rfl
        replace H := H.drew
        refine W_cond _ rfl ?_ ?_
        · intro h3
          refine W_rseq ?_
          refine op_assign rfl (.bool _) rfl ?_
          refine op_nil (at_then ?_)
          refine W_ret (ret_block (ret_then (ret_then (ret_block (ret_then (leave1 (v := (.bool _)) rfl rfl rfl ?_))))))
          have hne : ¬ x = y := by simpa using h3
          exact ⟨congrArg Value.bool (decide_eq_false fun h => by subst h; rw [hx] at hy; injection hy with hy; exact hne hy).symm, H.ext⟩
        · intro h3
          refine W_skip (at_block (at_then ?_))
          refine W_region ?_
          refine op_move rfl (.int _ _) rfl ?_
          refine op_add_i64 rfl rfl rfl (by omega) (by omega) ?_
          refine op_assign rfl (.int _ _) rfl ?_
          refine op_nil (at_then ?_)
          have heq : x = y := by simpa using h3
          refine ⟨i + 1, rfl, ⟨rfl, trivial⟩, ⟨by omega, H, fun k x' y' hk hx' hy' => ?_⟩, by omega⟩
          rcases Nat.lt_or_ge k i with h7 | h7
          · exact hb k x' y' h7 hx' hy'
          · obtain rfl : k = i := by omega
            rw [hx] at hx'; rw [hy] at hy'
            cases hx'; cases hy'
            exact heq
      · intro h2
        replace h2 := dec_f h2
        refine W_exit (exit_then (exit_then (exit_here (at_then ?_))))
        refine W_rseq ?_
        refine op_assign rfl (.bool _) rfl ?_
        refine op_nil (at_then ?_)
        refine W_ret (leave1 (v := (.bool _)) rfl rfl rfl ?_)
        have hin : i = xs.length := by omega
        rw [hin] at hb
        exact ⟨congrArg Value.bool (decide_eq_true (list_eq hle hb)).symm, H.ext⟩
/-- Dues of the reference, to be read. -/
def RdAt (w : World) (br : Nat) (ds : List Du) : Prop := ∃ a c nx, w.heap[br]? = some (Bl 48 [.slice a ds.length c, .int .u64 nx]) ∧ Rd w a 7 encD ds
theorem RdAt.ext0 {w w' : World} {br : Nat} {ds : List Du} (h : RdAt w br ds) (he : Ext [] w w') : RdAt w' br ds := by
  obtain ⟨a, c, nx, h1, h2⟩ := h
  exact ⟨a, c, nx, he.to h1 (by simp), h2.ext0 he⟩
theorem rrooms7_ok {bx : Nat} {acs : List Ac} (ha : aofC acs = 0) (w : World) (A : AcAt w 52 bx acs) :
    Ret Tryz.prog 14 #[ptr bx] w fun v w' => Ext [] w w' ∧ ∃ a c, v = .slice a (acs.map roomV).length c ∧ Rd w' a 1 I1 (acs.map roomV) := by
  obtain ⟨h1, h2, -⟩ := aofC_iff.1 ha
  obtain ⟨a, c, g1, g2⟩ := A
  refine Ret.mono (r17rooms_ok a acs.length c acs w g1 g2 rfl (by omega) h2) fun v w' F => ⟨F.ext, ?_⟩
  obtain ⟨a', n', c', f', rfl, O, hb⟩ := F.ex
  obtain rfl := O.num
  exact ⟨a', c', rfl, O.rd1 fun x hx => (hb x hx).1⟩
set_option maxRecDepth 20000 in
set_option maxHeartbeats 8000000 in
theorem fits20_ok {ba br : Nat} {acs : List Ac} {ds : List Du} {nx : Int} (ha : aofC acs = 0) (hd : ofC ds nx = 0) {r : Rnd} {q : RSl} (w : World) (A : AcAt w 52 ba acs) (D : RdAt w br ds) (RA : RAt w r q) (he : r.es.length ≤ 1000000) (hi : r.ids.length ≤ 1000000) :
    Ret Tryz.prog 72 #[ptr ba, ptr br, .agg (rcells r q).toArray] w fun v w' => v = .bool (nowB acs ds r) ∧ Ext [] w w' := by
  obtain ⟨w0, rfl⟩ : ∃ w0, w0 = w := ⟨_, rfl⟩
  have H := Ctx.start w0 []
  have hn16 := (aofC_iff.1 ha).1
  have hm64 := (ofC_iff.1 hd).1
  obtain ⟨rs, hrs⟩ : ∃ rs, rs = acs.map roomV := ⟨_, rfl⟩
  have hrl : rs.length = acs.length := by rw [hrs, List.length_map]
  obtain ⟨aD, cD, nx', hbr, RD⟩ := D
  refine ret_of_W (fn := Tryz.f72) Tryz.func72 rfl [.pointer (some ⟨ba, 0, none⟩), .pointer (some ⟨br, 0, none⟩), .agg (rcells r q).toArray] rfl (by kernel_rfl) ?_
  refine W_rseq ?_
  refine op_box rfl (rcells r q) (.agg _) rfl rfl H ?_
  rintro b5 w - H
  refine op_assign rfl (.bool _) rfl ?_
  refine op_nil (at_then ?_)
  have hx5 := H.ext
  have h5 := H.get at0
  obtain ⟨w5, rfl⟩ : ∃ z, z = w := ⟨_, rfl⟩
  have hbr5 := hx5.to hbr (by simp)
  refine W_join 16776064 (α := NowZ) (fun z => [(7, ptr z.b), (8, .slice z.aI z.nI z.cI), (9, .int .i64 z.code)]) (NowI w0 rs ds r.cmp b5 (Bl 33 (rcells r q))) rfl ?_ ?_
  · skip
    refine W_trz (.two [0, 2, 3, 4, 5, 6, 7] 1 (.two [] 8 (.one [9, 10, 11, 12] 13 (.one [] 14 (.one [] 15 (.one [] 16 .stop)))) 13 (.one [] 8 (.one [9, 10, 11, 12] 14 (.one [] 15 (.one [] 16 .stop))))) 13 (.one [] 1 (.one [] 8 (.one [9, 10, 11, 12] 14 (.one [] 15 (.one [] 16 .stop)))))) (fun z => Ext [] w5 z) mixed_SqM (by kernel_rfl) (Ext.drew [] w5) ?_
    refine tr_two rfl rfl rfl ?_
    refine t_move rfl (.pointer _) rfl ?_
    refine t_move rfl (.pointer _) rfl ?_
    refine t_nilCheck rfl rfl ?_
    refine t_fieldAddr rfl fo_48_0_SqM rfl ?_
    first | refine t_ldb rfl ag_23_SqM rfl True.intro (by first | exact at0 | exact at1 | exact at2 | exact at3 | exact at4 | exact at5 | exact at6 | exact at7 | exact at8 | exact at9) rfl ?_ | refine t_ld rfl ag_23_SqM rfl (fun _ hx => (by rw [cell_bl (hx.to h5 (by simp))]; rfl)) ?_ | refine t_ld rfl ag_23_SqM rfl (fun _ hx => (by rw [cell_bl (hx.to hbr5 (by simp))]; rfl)) ?_
    refine t_fieldAddr rfl fo_33_2_SqM rfl ?_
    first | refine t_ldb rfl ag_4_SqM rfl True.intro (by first | exact at0 | exact at1 | exact at2 | exact at3 | exact at4 | exact at5 | exact at6 | exact at7 | exact at8 | exact at9) rfl ?_ | refine t_ld rfl ag_4_SqM rfl (fun _ hx => (by rw [cell_bl (hx.to h5 (by simp))]; rfl)) ?_ | refine t_ld rfl ag_4_SqM rfl (fun _ hx => (by rw [cell_bl (hx.to hbr5 (by simp))]; rfl)) ?_
    refine t_nil ?_
    have E := Ext.drew [] w5
    refine ⟨?_, ?_⟩
    · skip
      refine op_call rfl ca_14_SqM (rrooms7_ok ha _ (A.ext0 (hx5.trans E))) rfl ?_
      rintro v w ⟨hx13, a2, c2, rfl, R2⟩
      rw [← hrs] at R2 ⊢
      replace E := E.trans hx13
      refine op_nil (at_tr (by first | exact E | exact E.trans H.ext | exact E.then H.ext (fun x hx => .inr (by rw [List.mem_singleton.1 hx]; exact hn7))) ?_)
      refine tr_two rfl rfl rfl ?_
      refine t_nil ?_
      refine ⟨?_, ?_⟩
      · skip
        refine op_call rfl ca_13_SqM (r19round_ok a2 aD _ c2 _ cD rs ds r.cmp _ R2 rfl (by omega) (RD.ext0 (hx5.trans E)) rfl (by omega)) rfl ?_
        rintro v w hR
        obtain ⟨hx20, N, aE, nE, cE, aI, nI, cI, code, rfl, hU⟩ := hR.uni
        replace E := E.trans hx20
        refine op_nil (at_tr (by first | exact E | exact E.trans H.ext | exact E.then H.ext (fun x hx => .inr (by rw [List.mem_singleton.1 hx]; exact hn7))) ?_)
        refine tr_one rfl rfl ?_
        refine t_move rfl (.tuple _) rfl ?_
        refine t_extract rfl rfl rfl ?_
        refine t_extract rfl rfl rfl ?_
        refine t_extract rfl rfl rfl ?_
        refine t_nil ?_
        have H := Ctx.start w []
        refine op_alloc rfl zc_28_SqM H ?_
        rintro b7 w - H
        refine op_nil (at_tr (by first | exact E | exact E.trans H.ext | exact E.then H.ext (fun x hx => .inr (by rw [List.mem_singleton.1 hx]; exact hn7))) ?_)
        refine tr_one rfl rfl ?_
        refine t_nil ?_
        refine op_stb0 rfl sz_28_SqM rfl rfl rfl (by simp [oneCell]) H (by first | exact at0 | exact at1 | exact at2 | exact at3 | exact at4 | exact at5 | exact at6 | exact at7 | exact at8 | exact at9) rfl ?_
        rintro w H
        refine op_nil (at_tr (by first | exact E | exact E.trans H.ext | exact E.then H.ext (fun x hx => .inr (by rw [List.mem_singleton.1 hx]; exact hn7))) ?_)
        refine tr_one rfl rfl ?_
        refine t_nil ?_
        refine op_assign rfl (.slice _ _ _) rfl ?_
        refine op_nil (at_tr (by first | exact E | exact E.trans H.ext | exact E.then H.ext (fun x hx => .inr (by rw [List.mem_singleton.1 hx]; exact hn7))) ?_)
        refine tr_one rfl rfl ?_
        refine t_nil ?_
        refine op_assign rfl (.int _ _) rfl ?_
        refine op_nil (at_tr (by first | exact E | exact E.trans H.ext | exact E.then H.ext (fun x hx => .inr (by rw [List.mem_singleton.1 hx]; exact hn7))) ?_)
        refine tr_stop ?_
        refine at_then ?_
        exact ⟨⟨b7, N, aE, nE, cE, aI, nI, cI, code⟩, rfl, ⟨rfl, rfl, rfl, trivial⟩, hx5.trans (E.trans H.ext), (E.trans H.ext).to h5 (by simp), H.get at0, hU [] _ (by simp) H.ext⟩
      · skip
        have H := Ctx.start w []
        refine op_alloc rfl zc_28_SqM H ?_
        rintro b7 w - H
        have hn7 : w5.heap.size ≤ b7 := Nat.le_trans E.size ((H.own _ (List.mem_cons_self ..)).elim (fun h => by cases h) id)
        replace E := E.trans H.ext
        have hb7 := H.get at0
        replace R2 := R2.ext0 H.ext
        refine op_nil (at_tr (by first | exact E | exact E.trans H.ext | exact E.then H.ext (fun x hx => .inr (by rw [List.mem_singleton.1 hx]; exact hn7))) ?_)
        refine tr_one rfl rfl ?_
        refine t_nil ?_
        have hl7 := heap_lt hb7
        refine op_call rfl ca_13_SqM (r19round_ok a2 aD _ c2 _ cD rs ds r.cmp _ R2 rfl (by omega) (RD.ext0 (hx5.trans E)) rfl (by omega)) rfl ?_
        rintro v w hR
        obtain ⟨hx20, N, aE, nE, cE, aI, nI, cI, code, rfl, hU⟩ := hR.uni
        replace E := E.trans hx20
        replace hb7 := hx20.to hb7 (by simp)
        have H := Ctx.start1 hb7
        refine op_nil (at_tr (by first | exact E | exact E.trans H.ext | exact E.then H.ext (fun x hx => .inr (by rw [List.mem_singleton.1 hx]; exact hn7))) ?_)
        refine tr_one rfl rfl ?_
        refine t_move rfl (.tuple _) rfl ?_
        refine t_extract rfl rfl rfl ?_
        refine t_extract rfl rfl rfl ?_
        refine t_extract rfl rfl rfl ?_
        refine t_nil ?_
        refine op_stb0 rfl sz_28_SqM rfl rfl rfl (by simp [oneCell]) H (by first | exact at0 | exact at1 | exact at2 | exact at3 | exact at4 | exact at5 | exact at6 | exact at7 | exact at8 | exact at9) rfl ?_
        rintro w H
        refine op_nil (at_tr (by first | exact E | exact E.trans H.ext | exact E.then H.ext (fun x hx => .inr (by rw [List.mem_singleton.1 hx]; exact hn7))) ?_)
        refine tr_one rfl rfl ?_
        refine t_nil ?_
        refine op_assign rfl (.slice _ _ _) rfl ?_
        refine op_nil (at_tr (by first | exact E | exact E.trans H.ext | exact E.then H.ext (fun x hx => .inr (by rw [List.mem_singleton.1 hx]; exact hn7))) ?_)
        refine tr_one rfl rfl ?_
        refine t_nil ?_
        refine op_assign rfl (.int _ _) rfl ?_
        refine op_nil (at_tr (by first | exact E | exact E.trans H.ext | exact E.then H.ext (fun x hx => .inr (by rw [List.mem_singleton.1 hx]; exact hn7))) ?_)
        refine tr_stop ?_
        refine at_then ?_
        have E2 := E.then H.ext fun x hx => .inr (by rw [List.mem_singleton.1 hx]; exact hn7)
        exact ⟨⟨b7, N, aE, nE, cE, aI, nI, cI, code⟩, rfl, ⟨rfl, rfl, rfl, trivial⟩, hx5.trans E2, E2.to h5 (by simp), H.get at0, hU [b7] _ (by simpa using hl7) H.ext⟩
    · skip
      have H := Ctx.start (World.drew w5) []
      refine op_alloc rfl zc_28_SqM H ?_
      rintro b7 w - H
      have hn7 : w5.heap.size ≤ b7 := Nat.le_trans E.size ((H.own _ (List.mem_cons_self ..)).elim (fun h => by cases h) id)
      replace E := E.trans H.ext
      have hb7 := H.get at0
      refine op_nil (at_tr (by first | exact E | exact E.trans H.ext | exact E.then H.ext (fun x hx => .inr (by rw [List.mem_singleton.1 hx]; exact hn7))) ?_)
      refine tr_one rfl rfl ?_
      refine t_nil ?_
      refine op_call rfl ca_14_SqM (rrooms7_ok ha _ (A.ext0 (hx5.trans E))) rfl ?_
      rintro v w ⟨hx13, a2, c2, rfl, R2⟩
      rw [← hrs] at R2 ⊢
      replace E := E.trans hx13
      replace hb7 := hx13.to hb7 (by simp)
      refine op_nil (at_tr (by first | exact E | exact E.trans H.ext | exact E.then H.ext (fun x hx => .inr (by rw [List.mem_singleton.1 hx]; exact hn7))) ?_)
      refine tr_one rfl rfl ?_
      refine t_nil ?_
      have hl7 := heap_lt hb7
      refine op_call rfl ca_13_SqM (r19round_ok a2 aD _ c2 _ cD rs ds r.cmp _ R2 rfl (by omega) (RD.ext0 (hx5.trans E)) rfl (by omega)) rfl ?_
      rintro v w hR
      obtain ⟨hx20, N, aE, nE, cE, aI, nI, cI, code, rfl, hU⟩ := hR.uni
      replace E := E.trans hx20
      replace hb7 := hx20.to hb7 (by simp)
      have H := Ctx.start1 hb7
      refine op_nil (at_tr (by first | exact E | exact E.trans H.ext | exact E.then H.ext (fun x hx => .inr (by rw [List.mem_singleton.1 hx]; exact hn7))) ?_)
      refine tr_one rfl rfl ?_
      refine t_move rfl (.tuple _) rfl ?_
      refine t_extract rfl rfl rfl ?_
      refine t_extract rfl rfl rfl ?_
      refine t_extract rfl rfl rfl ?_
      refine t_nil ?_
      refine op_stb0 rfl sz_28_SqM rfl rfl rfl (by simp [oneCell]) H (by first | exact at0 | exact at1 | exact at2 | exact at3 | exact at4 | exact at5 | exact at6 | exact at7 | exact at8 | exact at9) rfl ?_
      rintro w H
      refine op_nil (at_tr (by first | exact E | exact E.trans H.ext | exact E.then H.ext (fun x hx => .inr (by rw [List.mem_singleton.1 hx]; exact hn7))) ?_)
      refine tr_one rfl rfl ?_
      refine t_nil ?_
      refine op_assign rfl (.slice _ _ _) rfl ?_
      refine op_nil (at_tr (by first | exact E | exact E.trans H.ext | exact E.then H.ext (fun x hx => .inr (by rw [List.mem_singleton.1 hx]; exact hn7))) ?_)
      refine tr_one rfl rfl ?_
      refine t_nil ?_
      refine op_assign rfl (.int _ _) rfl ?_
      refine op_nil (at_tr (by first | exact E | exact E.trans H.ext | exact E.then H.ext (fun x hx => .inr (by rw [List.mem_singleton.1 hx]; exact hn7))) ?_)
      refine tr_stop ?_
      refine at_then ?_
      have E2 := E.then H.ext fun x hx => .inr (by rw [List.mem_singleton.1 hx]; exact hn7)
      exact ⟨⟨b7, N, aE, nE, cE, aI, nI, cI, code⟩, rfl, ⟨rfl, rfl, rfl, trivial⟩, hx5.trans E2, E2.to h5 (by simp), H.get at0, hU [b7] _ (by simpa using hl7) H.ext⟩
  · rintro ⟨b7, N, aE, nE, cE, aI, nI, cI, code⟩ j1 w ⟨hx0, h5', hb7, hU⟩; dsimp only at hb7 hU; dsimp only
    obtain ⟨w1, rfl⟩ : ∃ z, z = w := ⟨_, rfl⟩
    have H := Ctx.start w1 []
    have RA1 := RA.ext0 hx0
    rcases hU with ⟨hb, rfl, -⟩ | ⟨hb, rfl, rfl, rfl, RE, aI', cI', hI, RI⟩
    · skip
      refine W_seq ?_
      refine W_rseq ?_
      refine op_move rfl (.int _ _) rfl ?_
      refine op_neq rfl rfl rfl ?_
      refine op_move rfl (.bool _) rfl ?_
      refine Wops_split 26 rfl ?_ ?_
      · intro g1
        replace g1 := ndec_t g1
        refine op_skip rfl ?_
        refine op_skip rfl ?_
        refine op_skip rfl ?_
        refine op_skip rfl ?_
        refine op_skip rfl ?_
        refine op_pick1 rfl rfl (.bool _) rfl ?_
        refine op_move rfl (.bool _) rfl ?_
        refine op_skip rfl ?_
        refine op_skip rfl ?_
        refine op_skip rfl ?_
        refine op_skip rfl ?_
        refine op_skip rfl ?_
        refine op_skip rfl ?_
        refine op_pick1 rfl rfl (.bool _) rfl ?_
        refine op_nil (at_then ?_)
        refine W_cond1 rfl ?_
        refine W_rseq ?_
        refine op_assign rfl (.bool _) rfl ?_
        refine op_nil (at_then ?_)
        refine W_ret (ret_then (leave1 (v := (.bool _)) rfl rfl rfl ?_))
        exact ⟨congrArg Value.bool (by unfold nowB; rw [← hrs, hb]; rfl), hx0⟩
      · intro g1
        replace g1 := ndec_f g1
        exact absurd g1 (by decide)
    · skip
      cases hI
      obtain ⟨es, hes⟩ : ∃ es, es = roundE rs (opn ds) r.cmp := ⟨_, rfl⟩
      obtain ⟨is, his⟩ : ∃ is, is = (opn ds).map Du.id := ⟨_, rfl⟩
      have hel : es.length ≤ 1000000 := by have := opn_len ds; rw [hes, rnd_len]; split <;> omega
      have hil : is.length ≤ 1000000 := by have := opn_len ds; rw [his, List.length_map]; omega
      have hB : nowB acs ds r = (decide (((rs.length + 1 : Nat) : Int) = r.N) && (decide (es = r.es) && decide (is = r.ids))) := by unfold nowB; rw [← hrs, hb, ← hrl, hes, his]; rfl
      rw [← hes] at RE hb7
      rw [← his] at RI ⊢
      rw [hB]
      refine W_seq ?_
      refine W_rseq (Wops_join (α := Unit) 2199006478336 (fun _ => [(40, .bool (!((decide (((rs.length + 1 : Nat) : Int) = r.N) && decide (es = r.es)) && decide (is.length = r.ids.length))))]) (fun _ w' => Ctx w1 [] w' []) rfl ?_ ?_)
      · refine op_move rfl (.int _ _) rfl ?_
        refine op_neq rfl rfl rfl ?_
        refine op_move rfl (.bool _) rfl ?_
        refine Wops_split 26 rfl ?_ ?_
        · intro h1
          replace h1 := ndec_t h1
          refine op_skip rfl ?_
          refine op_skip rfl ?_
          refine op_skip rfl ?_
          refine op_skip rfl ?_
          refine op_skip rfl ?_
          refine op_pick1 rfl rfl (.bool _) rfl ?_
          refine op_move rfl (.bool _) rfl ?_
          refine op_skip rfl ?_
          refine op_skip rfl ?_
          refine op_skip rfl ?_
          refine op_skip rfl ?_
          refine op_skip rfl ?_
          refine op_skip rfl ?_
          refine op_pick1 rfl rfl (.bool _) rfl ?_
          refine op_nil ?_
          exact ⟨rfl, (), rfl, ⟨congrArg Value.bool (by rw [Bool.eq_iff_iff]; simp_all; first | done | omega | grind), trivial⟩, H⟩
        · intro h2
          replace h2 := ndec_f h2
          first | refine op_ldN _ rfl ag_28_SqM sz_28_SqM rfl rfl ((sub_cells (b := b7) (t := 28) (l := [.int .i64 ((rs.length + 1 : Nat) : Int), .slice aE es.length cE]) (H.ext.to hb7 (by simp)) 0 [.int .i64 ((rs.length + 1 : Nat) : Int), .slice aE es.length cE] rfl)) ?_ | refine op_ldN _ rfl ag_28_SqM sz_28_SqM rfl rfl ((sub_cells (b := b5) (t := 33) (l := rcells r q) (H.ext.to h5' (by simp)) 4 [.int .i64 r.N, .slice q.aE r.es.length q.cE] rfl)) ?_ | refine op_ldbN rfl ag_28_SqM sz_28_SqM rfl H (by first | exact at0 | exact at1 | exact at2 | exact at3 | exact at4 | exact at5 | exact at6 | exact at7 | exact at8 | exact at9) rfl ?_
          refine op_fieldAddr rfl fo_33_4_SqM rfl ?_
          first | refine op_ldN _ rfl ag_28_SqM sz_28_SqM rfl rfl ((sub_cells (b := b7) (t := 28) (l := [.int .i64 ((rs.length + 1 : Nat) : Int), .slice aE es.length cE]) (H.ext.to hb7 (by simp)) 0 [.int .i64 ((rs.length + 1 : Nat) : Int), .slice aE es.length cE] rfl)) ?_ | refine op_ldN _ rfl ag_28_SqM sz_28_SqM rfl rfl ((sub_cells (b := b5) (t := 33) (l := rcells r q) (H.ext.to h5' (by simp)) 4 [.int .i64 r.N, .slice q.aE r.es.length q.cE] rfl)) ?_ | refine op_ldbN rfl ag_28_SqM sz_28_SqM rfl H (by first | exact at0 | exact at1 | exact at2 | exact at3 | exact at4 | exact at5 | exact at6 | exact at7 | exact at8 | exact at9) rfl ?_
          refine op_call rfl ca_19_SqM (sameNet_ok _ r.N aE q.aE _ cE _ q.cE es r.es _ (RE.ext0 H.ext) rfl hel (RA1.E.ext0 H.ext) rfl he) rfl ?_
          rintro v w ⟨rfl, hx30⟩
          replace H := H.call hx30
          rw [show sameB ((rs.length + 1 : Nat) : Int) r.N es r.es = (decide (((rs.length + 1 : Nat) : Int) = r.N) && decide (es = r.es)) from rfl]
          refine op_not rfl rfl ?_
          refine op_pick0 rfl rfl (.bool _) rfl ?_
          refine op_move rfl (.bool _) rfl ?_
          refine Wops_split 33 rfl ?_ ?_
          · intro h3
            replace h3 := nvar_t h3
            refine op_skip rfl ?_
            refine op_skip rfl ?_
            refine op_skip rfl ?_
            refine op_skip rfl ?_
            refine op_skip rfl ?_
            refine op_skip rfl ?_
            refine op_pick1 rfl rfl (.bool _) rfl ?_
            refine op_nil ?_
            exact ⟨rfl, (), rfl, ⟨congrArg Value.bool (by rw [Bool.eq_iff_iff]; simp_all; first | done | omega | grind), trivial⟩, H⟩
          · intro h4
            replace h4 := nvar_f h4
            refine op_move rfl (.slice _ _ _) rfl ?_
            refine op_len rfl el_25_SqM rfl ?_
            refine op_fieldAddr rfl fo_33_3_SqM rfl ?_
            first | refine op_ldb rfl ag_25_SqM rfl H (by first | exact at0 | exact at1 | exact at2 | exact at3 | exact at4 | exact at5 | exact at6 | exact at7 | exact at8 | exact at9) rfl ?_ | refine op_ld rfl ag_25_SqM rfl ((by rw [cell_bl (H.ext.to h5' (by simp))]; rfl)) ?_
            refine op_len rfl el_25_SqM rfl ?_
            refine op_neq rfl rfl rfl ?_
            refine op_pick0 rfl rfl (.bool _) rfl ?_
            refine op_nil ?_
            exact ⟨rfl, (), rfl, ⟨congrArg Value.bool (by rw [Bool.eq_iff_iff]; simp_all; first | done | omega | grind), trivial⟩, H⟩
      rintro - j40 w H
      refine W_cond _ rfl ?_ ?_
      · intro h1
        replace h1 := nvar_t h1
        refine W_rseq ?_
        refine op_assign rfl (.bool _) rfl ?_
        refine op_nil (at_then ?_)
        refine W_ret (ret_then (leave1 (v := (.bool _)) rfl rfl rfl ?_))
        refine ⟨congrArg Value.bool ?_, hx0.trans H.ext⟩
        rw [← Bool.not_eq_true] at h1
        simp only [Bool.and_eq_true, decide_eq_true_eq] at h1
        symm
        rw [← Bool.not_eq_true]
        simp only [Bool.and_eq_true, decide_eq_true_eq]
        exact fun h => h1 ⟨⟨h.1, h.2.1⟩, by rw [h.2.2]⟩
      · intro h1
        replace h1 := nvar_f h1
        simp only [Bool.and_eq_true, decide_eq_true_eq] at h1
        obtain ⟨⟨g1, g2⟩, hle⟩ := h1
        rw [decide_eq_true g1, decide_eq_true g2, Bool.true_and, Bool.true_and]
        refine W_skip (at_then ?_)
        refine W_seq ?_
        refine W_rseq ?_
        refine op_assign rfl (.int _ _) rfl ?_
        refine op_nil (at_then ?_)
        refine W_block ?_
        refine W_loop 144112989052601408 (α := Nat) (fun i => [(10, .int .i64 (i : Int))]) (fun i w' => i ≤ is.length ∧ Ctx w1 [] w' [] ∧ ∀ (k : Nat) (x y : Int), k < i → is[k]? = some x → r.ids[k]? = some y → x = y) (fun i => is.length - i) 0 rfl ?_ ?_ ?_
        · exact ⟨rfl, trivial⟩
        · exact ⟨Nat.zero_le _, H, fun k x y h => absurd h (Nat.not_lt_zero _)⟩
        · clear H
          rintro i j w ⟨hi7, H, hb7'⟩
          refine W_seq ?_
          refine W_rseq ?_
          refine op_move rfl (.int _ _) rfl ?_
          refine op_move rfl (.slice _ _ _) rfl ?_
          refine op_len rfl el_25_SqM rfl ?_
          refine op_lss rfl rfl rfl ?_
          refine op_nil (at_then ?_)
          refine W_cond _ rfl ?_ ?_
          · intro h2
            replace h2 := dec_t h2
            obtain ⟨x, hx⟩ := get_some (l := is) (i := i) (by omega)
            obtain ⟨y, hy⟩ := get_some (l := r.ids) (i := i) (by omega)
            have RII := RA1.I
            refine W_skip (at_then ?_)
            refine W_seq ?_
            refine W_block ?_
            refine W_qseq (fun x => x = _) mixed_SqM (by kernel_rfl) rfl ?_
            refine q_move rfl (.slice _ _ _) rfl ?_
            refine q_move rfl (.int _ _) rfl ?_
            first | refine q_indexRd RI rfl el_25_SqM sz_24_SqM rfl rfl (by omega) (by omega) (by first | rfl | omega) ?_ | refine q_indexRd RII rfl el_25_SqM sz_24_SqM rfl rfl (by omega) (by omega) (by first | rfl | omega) ?_ | refine q_indexAddr rfl el_25_SqM sz_24_SqM rfl rfl (by omega) (by omega) ?_
            first | refine q_ldb rfl ag_24_SqM rfl (by rintro _ rfl; exact H.drew) (by first | exact at0 | exact at1 | exact at2 | exact at3 | exact at4 | exact at5 | exact at6 | exact at7 | exact at8 | exact at9) rfl ?_ | refine q_ld rfl ag_24_SqM rfl (by rintro _ rfl; exact ((by rw [cell_bl (H.drew.ext.to h5' (by simp))]; rfl))) ?_ | refine q_ld rfl ag_24_SqM rfl (by rintro _ rfl; exact (((RI.ext0 H.drew.ext).fld hx rfl (j := 0) rfl))) ?_ | refine q_ld rfl ag_24_SqM rfl (by rintro _ rfl; exact (((RII.ext0 H.drew.ext).fld hy rfl (j := 0) rfl))) ?_
            refine q_fieldAddr rfl fo_33_3_SqM rfl ?_
            first | refine q_ldb rfl ag_25_SqM rfl (by rintro _ rfl; exact H.drew) (by first | exact at0 | exact at1 | exact at2 | exact at3 | exact at4 | exact at5 | exact at6 | exact at7 | exact at8 | exact at9) rfl ?_ | refine q_ld rfl ag_25_SqM rfl (by rintro _ rfl; exact ((by rw [cell_bl (H.drew.ext.to h5' (by simp))]; rfl))) ?_ | refine q_ld rfl ag_25_SqM rfl (by rintro _ rfl; exact (((RI.ext0 H.drew.ext).fld hx rfl (j := 0) rfl))) ?_ | refine q_ld rfl ag_25_SqM rfl (by rintro _ rfl; exact (((RII.ext0 H.drew.ext).fld hy rfl (j := 0) rfl))) ?_
            refine q_move rfl (.int _ _) rfl ?_
            first | refine q_indexRd RI rfl el_25_SqM sz_24_SqM rfl rfl (by omega) (by omega) (by first | rfl | omega) ?_ | refine q_indexRd RII rfl el_25_SqM sz_24_SqM rfl rfl (by omega) (by omega) (by first | rfl | omega) ?_ | refine q_indexAddr rfl el_25_SqM sz_24_SqM rfl rfl (by omega) (by omega) ?_
            first | refine q_ldb rfl ag_24_SqM rfl (by rintro _ rfl; exact H.drew) (by first | exact at0 | exact at1 | exact at2 | exact at3 | exact at4 | exact at5 | exact at6 | exact at7 | exact at8 | exact at9) rfl ?_ | refine q_ld rfl ag_24_SqM rfl (by rintro _ rfl; exact ((by rw [cell_bl (H.drew.ext.to h5' (by simp))]; rfl))) ?_ | refine q_ld rfl ag_24_SqM rfl (by rintro _ rfl; exact (((RI.ext0 H.drew.ext).fld hx rfl (j := 0) rfl))) ?_ | refine q_ld rfl ag_24_SqM rfl (by rintro _ rfl; exact (((RII.ext0 H.drew.ext).fld hy rfl (j := 0) rfl))) ?_
            refine q_neq rfl rfl rfl ?_
            refine q_nil ?_
            rintro _ rfl
            replace H := H.drew
            refine W_cond _ rfl ?_ ?_
            · intro h3
              replace h3 := ndec_t h3
              refine W_rseq ?_
              refine op_assign rfl (.bool _) rfl ?_
              refine op_nil (at_then ?_)
              refine W_ret (ret_block (ret_then (ret_then (ret_block (ret_then (leave1 (v := (.bool _)) rfl rfl rfl ?_))))))
              have hne : ¬ x = y := h3
              exact ⟨congrArg Value.bool (decide_eq_false fun h => by subst h; rw [hx] at hy; injection hy with hy; exact hne hy).symm, hx0.trans H.ext⟩
            · intro h3
              replace h3 := ndec_f h3
              refine W_skip (at_block (at_then ?_))
              refine W_region ?_
              refine op_move rfl (.int _ _) rfl ?_
              refine op_add_i64 rfl rfl rfl (by omega) (by omega) ?_
              refine op_assign rfl (.int _ _) rfl ?_
              refine op_nil (at_then ?_)
              have heq : x = y := by omega
              refine ⟨i + 1, rfl, ⟨rfl, trivial⟩, ⟨by omega, H, fun k x' y' hk hx' hy' => ?_⟩, by omega⟩
              rcases Nat.lt_or_ge k i with h7 | h7
              · exact hb7' k x' y' h7 hx' hy'
              · obtain rfl : k = i := by omega
                rw [hx] at hx'; rw [hy] at hy'
                cases hx'; cases hy'
                exact heq
          · intro h2
            replace h2 := dec_f h2
            refine W_exit (exit_then (exit_then (exit_here (at_then ?_))))
            refine W_rseq ?_
            refine op_assign rfl (.bool _) rfl ?_
            refine op_nil (at_then ?_)
            refine W_ret (leave1 (v := (.bool _)) rfl rfl rfl ?_)
            have hin : i = is.length := by omega
            rw [hin] at hb7'
            exact ⟨congrArg Value.bool (decide_eq_true (list_eq hle hb7')).symm, hx0.trans H.ext⟩
end Go.Proofs.YtapphbmlkdhnmaaGreat

/- A round, applied as the reference has it. -/
namespace Go.Proofs.YtapphbmlkdhnmaaGreat
open Go.GV
theorem ag_22_SrD : aggB Tryz.prog 22 = some false := by kernel_rfl
theorem ag_23_SrD : aggB Tryz.prog 23 = some false := by kernel_rfl
theorem ag_24_SrD : aggB Tryz.prog 24 = some false := by kernel_rfl
theorem ag_28_SrD : aggB Tryz.prog 28 = some true := by kernel_rfl
theorem ag_29_SrD : aggB Tryz.prog 29 = some false := by kernel_rfl
theorem ag_2_SrD : aggB Tryz.prog 2 = some false := by kernel_rfl
theorem ag_31_SrD : aggB Tryz.prog 31 = some true := by kernel_rfl
theorem ag_33_SrD : aggB Tryz.prog 33 = some true := by kernel_rfl
theorem ag_3_SrD : aggB Tryz.prog 3 = some false := by kernel_rfl
theorem by_2_SrD : tbytes Tryz.prog 2 = some 8 := by kernel_rfl
theorem ca_20_SrD : callable Tryz.prog 20 = true := by kernel_rfl
theorem ca_49_SrD : callable Tryz.prog 49 = true := by kernel_rfl
theorem ca_72_SrD : callable Tryz.prog 72 = true := by kernel_rfl
theorem ca_73_SrD : callable Tryz.prog 73 = true := by kernel_rfl
theorem ca_74_SrD : callable Tryz.prog 74 = true := by kernel_rfl
theorem el_22_SrD : elemT Tryz.prog 22 = some 64 := by kernel_rfl
theorem el_23_SrD : elemT Tryz.prog 23 = some 62 := by kernel_rfl
theorem el_29_SrD : elemT Tryz.prog 29 = some 2 := by kernel_rfl
theorem fo_31_0_SrD : fieldO Tryz.prog 31 0 = some 0 := by kernel_rfl
theorem fo_33_4_SrD : fieldO Tryz.prog 33 4 = some 4 := by kernel_rfl
theorem fo_33_5_SrD : fieldO Tryz.prog 33 5 = some 6 := by kernel_rfl
theorem fo_48_0_SrD : fieldO Tryz.prog 48 0 = some 0 := by kernel_rfl
theorem fo_52_0_SrD : fieldO Tryz.prog 52 0 = some 0 := by kernel_rfl
theorem fo_62_0_SrD : fieldO Tryz.prog 62 0 = some 0 := by kernel_rfl
theorem fo_62_1_SrD : fieldO Tryz.prog 62 1 = some 1 := by kernel_rfl
theorem fo_62_2_SrD : fieldO Tryz.prog 62 2 = some 2 := by kernel_rfl
theorem mixed_SrD : Tryz.prog.follows .mixedOrders = true := by kernel_rfl
theorem sz_28_SrD : tsize Tryz.prog 28 = some 2 := by kernel_rfl
theorem sz_2_SrD : tsize Tryz.prog 2 = some 1 := by kernel_rfl
theorem sz_31_SrD : tsize Tryz.prog 31 = some 2 := by kernel_rfl
theorem sz_33_SrD : tsize Tryz.prog 33 = some 8 := by kernel_rfl
theorem sz_62_SrD : tsize Tryz.prog 62 = some 7 := by kernel_rfl
theorem zc_2_SrD : zcells Tryz.prog 2 = some ([.int .i64 0]) := by kernel_rfl
attribute [local irreducible] Wops W Wq Wt

theorem permP {α : Type} (A B C : α) (E R : List α) : (A :: B :: C :: (E ++ R)).Perm ((C :: E) ++ (A :: B :: R)) := by
  classical exact List.perm_iff_count.2 fun x => by simp only [List.count_append, List.count_cons]; omega
theorem permS {α : Type} (A B C D : α) (E F G : List α) : (A :: B :: C :: (E ++ D :: (F ++ G))).Perm ((A :: B :: C :: D :: (E ++ G)) ++ F) := by
  classical exact List.perm_iff_count.2 fun x => by simp only [List.count_append, List.count_cons]; omega
theorem permF {α : Type} (A B C D : α) (E F G : List α) : ((A :: B :: C :: D :: (E ++ G)) ++ F).Perm ((D :: C :: (E ++ F)) ++ (A :: B :: G)) := by
  classical exact List.perm_iff_count.2 fun x => by simp only [List.count_append, List.count_cons]; omega
theorem permI {α : Type} (A B C D : α) (E F G : List α) : ((A :: B :: G) ++ (D :: C :: (E ++ F))).Perm (A :: B :: C :: (E ++ D :: (F ++ G))) := by
  classical exact List.perm_iff_count.2 fun x => by simp only [List.count_append, List.count_cons]; omega
abbrev RDU (ad : Option Addr) (m cd : Nat) (nx : Int) : Obj := Bl 48 [.slice ad m cd, .int .u64 nx]
/-- The reference's Pay, by what one knows of the heap. -/
theorem r18pay_ctx {bd : Nat} {nx k x : Int} {ds : List Du} {a : Option Addr} {c : Nat} {full : List Value} {w w0 : World} {S : List Nat} {R : List (Nat × Obj)} (H : Ctx w0 S w (((bd, RDU a ds.length c nx) :: ent a 62 full) ++ R)) (O : OS a ds.length c 7 full (ds.flatMap encD)) (hn2 : ds.length ≤ 1000000) (ham : ∀ d ∈ ds, 0 ≤ d.am ∧ d.am ≤ 4503599627370496) :
    Ret Tryz.prog 73 #[ptr bd, .int .u64 k, .int .i64 x] w fun v w' => v = .int .i64 (payC ds k x) ∧ ∃ a' c' full', OS a' (payS ds k x).length c' 7 full' ((payS ds k x).flatMap encD) ∧ Ctx w0 S w' (((bd, RDU a' (payS ds k x).length c' nx) :: ent a' 62 full') ++ R) := by
  have hnd := (List.pairwise_append.1 H.nd).1
  rw [List.pairwise_cons] at hnd
  refine Ret.mono (r18pay_ok a c full w (H.get at0) O (fun y hy => ⟨H.blk y (List.mem_append_left _ (List.mem_cons_of_mem _ hy)), fun h => hnd.1 y hy h.symm⟩) hn2 ham) fun v w' h => ?_
  obtain ⟨h1, a', c', full', hb, O', hE, hx⟩ := h
  refine ⟨h1, a', c', full', O', Ctx.back H ⟨hx, fun y hy => ?_, ?_, fun y hy => ?_⟩⟩
  · rcases List.mem_cons.1 hy with rfl | hy
    · exact hb
    · exact (hE y hy).1
  · exact List.pairwise_cons.2 ⟨fun y hy h => (hE y hy).2.1 h.symm, ent_nd⟩
  · rcases List.mem_cons.1 hy with rfl | hy
    · exact .inl (List.mem_cons_self ..)
    · rcases (hE y hy).2.2 with h | h
      · exact .inl (List.mem_cons_of_mem _ h)
      · exact .inr h
abbrev RX (ba : Nat) (a : Option Addr) (n c : Nat) (full : List Value) (br : Nat) (ad : Option Addr) (m cd : Nat) (nx : Int) (fd : List Value) : List (Nat × Obj) := (ba, Bl 52 [.slice a n c]) :: (br, RDU ad m cd nx) :: (ent ad 62 fd ++ ent a 64 full)
structure RP7 where
  i : Nat
  ad : Option Addr
  cd : Nat
  fd : List Value
set_option maxRecDepth 20000 in
set_option maxHeartbeats 8000000 in
theorem r20apply_ok {ba br : Nat} {a ad : Option Addr} {c cd : Nat} {full fd : List Value} {acs : List Ac} {ds : List Du} {nx : Int} {r : Rnd} {q : RSl} (ha : aofC acs = 0) (hd : ofC ds nx = 0) (w : World)
    (H0 : Ctx w ((RX ba a acs.length c full br ad ds.length cd nx fd).map (·.1)) w (RX ba a acs.length c full br ad ds.length cd nx fd)) (O : OS a acs.length c 2 full (acs.flatMap encA)) (OD : OS ad ds.length cd 7 fd (ds.flatMap encD)) (RA : RAt w r q) (hoff : ROff q r (· ∈ (RX ba a acs.length c full br ad ds.length cd nx fd).map (·.1)))
    (he : r.es.length ≤ 1000000) (hi : r.ids.length ≤ 1000000) (hf : r.fl.length ≤ 1000000) (hp : r.pot.length ≤ 1000000) :
    Ret Tryz.prog 22 #[ptr ba, ptr br, .agg (rcells r q).toArray] w fun v w' => v = .int .i64 (applyC acs ds r) ∧ ∃ full' ad' cd' fd', OS a acs.length c 2 full' ((applyA acs ds r).flatMap encA) ∧ OS ad' (applyD acs ds r).length cd' 7 fd' ((applyD acs ds r).flatMap encD) ∧
      Ctx w ((RX ba a acs.length c full br ad ds.length cd nx fd).map (·.1)) w' (RX ba a acs.length c full' br ad' (applyD acs ds r).length cd' nx fd') := by
  obtain ⟨w0, rfl⟩ : ∃ w0, w0 = w := ⟨_, rfl⟩
  have H := Ctx.start w0 []
  have hn16 := (aofC_iff.1 ha).1
  have hm64 := (ofC_iff.1 hd).1
  have hba := H0.get at0
  have hbr := H0.get at1
  have RAc : Rd w0 a 2 encA acs := OS.rd O (fun x hx => H0.blk x (List.mem_cons_of_mem _ (List.mem_cons_of_mem _ (List.mem_append_right _ hx)))) (fun _ _ => rfl) (by decide)
  have RDu : Rd w0 ad 7 encD ds := OS.rd OD (fun x hx => H0.blk x (List.mem_cons_of_mem _ (List.mem_cons_of_mem _ (List.mem_append_left _ hx)))) (fun _ _ => rfl) (by decide)
  have A : AcAt w0 52 ba acs := ⟨a, c, hba, RAc⟩
  have D : RdAt w0 br ds := ⟨ad, cd, nx, hbr, RDu⟩
  obtain ⟨ck, hck⟩ : ∃ ck, ck = checkN r.N r.es r.fl r.pot := ⟨_, rfl⟩
  obtain ⟨nw, hnw⟩ : ∃ nw, nw = nowB acs ds r := ⟨_, rfl⟩
  refine ret_of_W (fn := Tryz.f22) Tryz.func22 rfl [.pointer (some ⟨ba, 0, none⟩), .pointer (some ⟨br, 0, none⟩), .agg (rcells r q).toArray] rfl (by kernel_rfl) ?_
  refine W_rseq ?_
  refine op_box rfl (rcells r q) (.agg _) rfl rfl H ?_
  rintro b5 w - H
  refine op_assign rfl (.int _ _) rfl ?_
  refine op_nil (at_then ?_)
  refine W_seq ?_
  refine W_rseq ?_
  refine op_fieldAddr rfl fo_33_4_SrD rfl ?_
  first | refine op_ldN _ rfl ag_28_SrD sz_28_SrD rfl rfl ((sub_cells (b := b5) (t := 33) (l := rcells r q) (H.get (by first | exact at0 | exact at1 | exact at2 | exact at3)) 4 [.int .i64 r.N, .slice q.aE r.es.length q.cE] rfl)) ?_ | refine op_ldN _ rfl ag_28_SrD sz_28_SrD rfl rfl ((sub_cells (b := b5) (t := 33) (l := rcells r q) (H.get (by first | exact at0 | exact at1 | exact at2 | exact at3)) 6 [.slice q.aF r.fl.length q.cF, .slice q.aP r.pot.length q.cP] rfl)) ?_ | refine op_ldbN rfl ag_28_SrD sz_28_SrD rfl H (by first | exact at0 | exact at1 | exact at2 | exact at3 | exact at4 | exact at5 | exact at6 | exact at7 | exact at8 | exact at9) rfl ?_
  refine op_fieldAddr rfl fo_33_5_SrD rfl ?_
  first | refine op_ldN _ rfl ag_31_SrD sz_31_SrD rfl rfl ((sub_cells (b := b5) (t := 33) (l := rcells r q) (H.get (by first | exact at0 | exact at1 | exact at2 | exact at3)) 4 [.int .i64 r.N, .slice q.aE r.es.length q.cE] rfl)) ?_ | refine op_ldN _ rfl ag_31_SrD sz_31_SrD rfl rfl ((sub_cells (b := b5) (t := 33) (l := rcells r q) (H.get (by first | exact at0 | exact at1 | exact at2 | exact at3)) 6 [.slice q.aF r.fl.length q.cF, .slice q.aP r.pot.length q.cP] rfl)) ?_ | refine op_ldbN rfl ag_31_SrD sz_31_SrD rfl H (by first | exact at0 | exact at1 | exact at2 | exact at3 | exact at4 | exact at5 | exact at6 | exact at7 | exact at8 | exact at9) rfl ?_
  refine op_call rfl ca_20_SrD (r14check_ok r.N q.aE q.aF q.aP _ q.cE _ q.cF _ q.cP r.es r.fl r.pot _ (RA.E.ext0 H.ext) rfl (by omega) (RA.F.ext0 H.ext) rfl (by omega) (RA.P.ext0 H.ext) rfl (by omega)) rfl ?_
  rintro v w ⟨rfl, hx14⟩
  rw [← hck]
  replace H := H.call hx14
  refine op_not rfl rfl ?_
  refine op_nil (at_then ?_)
  refine W_cond _ rfl ?_ ?_
  · intro h1
    replace h1 := nvar_t h1
    refine W_rseq ?_
    refine op_assign rfl (.int _ _) rfl ?_
    refine op_nil (at_then ?_)
    refine W_ret (ret_then (leave1 (v := (.int _ _)) rfl rfl rfl ?_))
    have h1' : ck = false := by simpa using h1
    have hC : applyC acs ds r = 1 := by unfold applyC; rw [← hck, if_pos h1']
    unfold applyA applyD
    rw [hC, if_neg (by decide), if_neg (by decide)]
    exact ⟨rfl, full, ad, cd, fd, O, OD, H0.call H.ext⟩
  · intro h1
    replace h1 := nvar_f h1
    have h1' : ck = true := by simpa using h1
    refine W_skip (at_then ?_)
    refine W_seq ?_
    refine W_rseq ?_
    refine op_move rfl (.pointer _) rfl ?_
    refine op_move rfl (.pointer _) rfl ?_
    first | refine op_ldN _ rfl ag_33_SrD sz_33_SrD rfl rfl ((sub_cells (b := b5) (t := 33) (l := rcells r q) (H.get (by first | exact at0 | exact at1 | exact at2 | exact at3)) 4 [.int .i64 r.N, .slice q.aE r.es.length q.cE] rfl)) ?_ | refine op_ldN _ rfl ag_33_SrD sz_33_SrD rfl rfl ((sub_cells (b := b5) (t := 33) (l := rcells r q) (H.get (by first | exact at0 | exact at1 | exact at2 | exact at3)) 6 [.slice q.aF r.fl.length q.cF, .slice q.aP r.pot.length q.cP] rfl)) ?_ | refine op_ldbN rfl ag_33_SrD sz_33_SrD rfl H (by first | exact at0 | exact at1 | exact at2 | exact at3 | exact at4 | exact at5 | exact at6 | exact at7 | exact at8 | exact at9) rfl ?_
    refine op_call rfl ca_72_SrD (fits20_ok ha hd _ (A.ext0 H.ext) (D.ext0 H.ext) (RA.ext0 H.ext) he hi) rfl ?_
    rintro v w ⟨rfl, hx19⟩
    rw [← hnw]
    replace H := H.call hx19
    refine op_not rfl rfl ?_
    refine op_nil (at_then ?_)
    refine W_cond _ rfl ?_ ?_
    · intro h2
      replace h2 := nvar_t h2
      refine W_rseq ?_
      refine op_assign rfl (.int _ _) rfl ?_
      refine op_nil (at_then ?_)
      refine W_ret (ret_then (leave1 (v := (.int _ _)) rfl rfl rfl ?_))
      have h2' : nw = false := by simpa using h2
      have hC : applyC acs ds r = 3 := by unfold applyC; rw [← hck, h1', if_neg (by decide), ← hnw, if_pos h2']
      unfold applyA applyD
      rw [hC, if_neg (by decide), if_neg (by decide)]
      exact ⟨rfl, full, ad, cd, fd, O, OD, H0.call H.ext⟩
    · intro h2
      replace h2 := nvar_f h2
      have h2' : nw = true := by simpa using h2
      have hC : applyC acs ds r = 0 := by unfold applyC; rw [← hck, h1', if_neg (by decide), ← hnw, h2', if_neg (by decide)]
      have F := apply_zero ha hd hC
      unfold applyA applyD
      rw [hC, if_pos rfl, if_pos rfl]
      have hSh := (round_shift ha (fun k a hk => (F.by' k a hk).2) F.sum).1
      obtain ⟨f, hf0⟩ : ∃ f : Nat → Nat → Int, f = fun i => overK (grE (((acs.map roomV).length + 1 : Nat) : Int) (roundE (acs.map roomV) (opn ds) r.cmp)) (flE r.fl) i := ⟨_, rfl⟩
      have hfe : byK (acs.map roomV) (opn ds) r.cmp r.fl = f (opn ds).length := by rw [hf0]; rfl
      rw [hfe] at hSh ⊢
      have hf00 : f 0 = fun _ => 0 := by rw [hf0]; rfl
      obtain ⟨m, hm⟩ : ∃ m, m = (opn ds).length := ⟨_, rfl⟩
      have hml : m ≤ 64 := by have := opn_len ds; omega
      have hmf : m ≤ r.fl.length := by rw [F.len, F.es, rnd_len]; omega
      have hltm : (r.fl.take m).length = m := by rw [List.length_take]; omega
      rw [← hm] at hSh ⊢
      refine W_skip (at_then ?_)
      refine W_rseq ?_
      refine op_move rfl (.pointer _) rfl ?_
      refine op_nilCheck rfl rfl ?_
      refine op_fieldAddr rfl fo_48_0_SrD rfl ?_
      first | refine op_ldb rfl ag_23_SrD rfl H (by first | exact at0 | exact at1 | exact at2 | exact at3 | exact at4 | exact at5 | exact at6 | exact at7 | exact at8 | exact at9) rfl ?_ | refine op_ld rfl ag_23_SrD rfl ((by rw [cell_bl (H.ext.to hbr (by simp))]; rfl)) ?_ | refine op_ld rfl ag_23_SrD rfl ((by rw [cell_bl (H.ext.to hba (by simp))]; rfl)) ?_
      refine op_call rfl ca_49_SrD (r19open_ok ad _ cd ds _ (RDu.ext0 H.ext) rfl (by omega)) rfl ?_
      rintro v w F25
      obtain ⟨a7, n7, c7, f7, rfl, O7, hb7⟩ := F25.ex
      have hn7 := O7.numN (fun _ _ => rfl) (by decide)
      rw [← hm] at hn7
      have hn7' : m = n7 := by omega
      subst hn7'
      replace H := H.callEnt F25.ext hb7 ent_nd
      refine op_assign rfl (.slice _ _ _) rfl ?_
      refine op_nil (at_then ?_)
      refine W_rseq ?_
      refine op_move rfl (.pointer _) rfl ?_
      refine op_nilCheck rfl rfl ?_
      refine op_fieldAddr rfl fo_52_0_SrD rfl ?_
      first | refine op_ldb rfl ag_22_SrD rfl H (by first | exact at0 | exact at1 | exact at2 | exact at3 | exact at4 | exact at5 | exact at6 | exact at7 | exact at8 | exact at9) rfl ?_ | refine op_ld rfl ag_22_SrD rfl ((by rw [cell_bl (H.ext.to hbr (by simp))]; rfl)) ?_ | refine op_ld rfl ag_22_SrD rfl ((by rw [cell_bl (H.ext.to hba (by simp))]; rfl)) ?_
      refine op_len rfl el_22_SrD rfl ?_
      refine op_make rfl el_29_SrD sz_2_SrD by_2_SrD zc_2_SrD rfl rfl (by omega) (by omega) (by omega) (by omega) H ?_
      rintro b31 w - H
      rw [Int.toNat_natCast, rep_range] at H
      rw [Int.toNat_natCast]
      refine op_assign rfl (.slice _ _ _) rfl ?_
      refine op_nil (at_then ?_)
      refine W_seq ?_
      refine W_rseq ?_
      refine op_assign rfl (.int _ _) rfl ?_
      refine op_nil (at_then ?_)
      refine W_block ?_
      have E9 := H.ext
      obtain ⟨L9, hL9⟩ : ∃ L9, L9 = ((b31, Bl 2 (List.map (fun _ => Value.int .i64 0) (List.range acs.length))) :: (b5, Bl 33 (rcells r q)) :: (br, RDU ad ds.length cd nx) :: (ent ad 62 fd ++ (ba, Bl 52 [.slice a acs.length c]) :: (ent a 64 full ++ ent a7 62 f7))) := ⟨_, rfl⟩
      have HFp : Ctx w0 ((RX ba a acs.length c full br ad ds.length cd nx fd).map (·.1)) w L9 := by rw [hL9]; exact (Ctx.callEnt H0 H.ext (fun x hx => ⟨H.blk x hx, (H.own x hx).elim (fun h => by cases h) id⟩) H.nd).comm.perm (permI _ _ _ _ _ _ _)
      obtain ⟨S9, hS9⟩ : ∃ S9, S9 = L9.map (·.1) := ⟨_, rfl⟩
      have RA9 := RA.ext0 E9
      have hoff9 : ROff q r (· ∈ S9) := (hoff.or RA.lt).mono fun x hx => by
        rw [hS9] at hx
        obtain ⟨y, hy, rfl⟩ := List.mem_map.1 hx
        exact HFp.own y hy
      obtain ⟨w9, rfl⟩ : ∃ z, z = w := ⟨_, rfl⟩
      have HF : Ctx w0 ((RX ba a acs.length c full br ad ds.length cd nx fd).map (·.1)) w9 (L9 ++ []) := by rw [List.append_nil]; exact HFp
      clear HFp
      have H : Ctx w9 S9 w9 L9 := by rw [hS9]; exact Ctx.lend HF
      refine W_loop 9671406556917029102682624 (α := RP7) (fun t => [(9, .int .i64 (t.i : Int))]) (fun t w' => t.i ≤ m ∧ OS t.ad (payA ds (((opn ds).zip (r.fl.take m)).take t.i)).length t.cd 7 t.fd ((payA ds (((opn ds).zip (r.fl.take m)).take t.i)).flatMap encD) ∧ Ctx w9 S9 w' ((b31, Bl 2 (tabV (f t.i) acs.length)) :: (b5, Bl 33 (rcells r q)) :: (br, RDU t.ad (payA ds (((opn ds).zip (r.fl.take m)).take t.i)).length t.cd nx) :: (ent t.ad 62 t.fd ++ (ba, Bl 52 [.slice a acs.length c]) :: (ent a 64 full ++ ent a7 62 f7)))) (fun t => m - t.i) ⟨0, ad, cd, fd⟩ rfl ?_ ?_ ?_
      · exact ⟨rfl, trivial⟩
      · refine ⟨Nat.zero_le _, OD, ?_⟩
        dsimp only
        rw [hf00]
        rw [hL9] at H
        exact H
      · clear H
        rintro ⟨i, ad1, cd1, fd1⟩ jj w ⟨hi7, OD1, H⟩; dsimp only at hi7 OD1 H; dsimp only
        have hmem : ∀ x ∈ ent a7 62 f7, x ∈ ((b31, Bl 2 (tabV (f i) acs.length)) :: (b5, Bl 33 (rcells r q)) :: (br, RDU ad1 (payA ds (((opn ds).zip (r.fl.take m)).take i)).length cd1 nx) :: (ent ad1 62 fd1 ++ (ba, Bl 52 [.slice a acs.length c]) :: (ent a 64 full ++ ent a7 62 f7))) := fun x hx => List.mem_cons_of_mem _ (List.mem_cons_of_mem _ (List.mem_cons_of_mem _ (List.mem_append_right _ (List.mem_cons_of_mem _ (List.mem_append_right _ hx)))))
        have RO1 : Rd w a7 7 encD (opn ds) := OS.rd O7 (fun x hx => H.blk x (hmem x hx)) (fun _ _ => rfl) (by decide)
        refine W_seq ?_
        refine W_rseq ?_
        refine op_move rfl (.int _ _) rfl ?_
        refine op_move rfl (.slice _ _ _) rfl ?_
        refine op_len rfl el_23_SrD rfl ?_
        refine op_lss rfl rfl rfl ?_
        refine op_nil (at_then ?_)
        refine W_cond _ rfl ?_ ?_
        · intro h3
          replace h3 := dec_t h3
          obtain ⟨d, hdi⟩ := get_some (l := opn ds) (i := i) (by omega)
          obtain ⟨x, hxi⟩ := get_some (l := r.fl) (i := i) (by omega)
          have hxt : (r.fl.take m)[i]? = some x := by rw [List.getElem?_take, if_pos (by omega)]; exact hxi
          have hps : ((opn ds).zip (r.fl.take m))[i]? = some (d, x) := by rw [List.getElem?_zip_eq_some]; exact ⟨hdi, hxt⟩
          have hok := F.ok
          rw [← hm] at hok
          obtain ⟨⟨hfd, hheld, hx0, hx1⟩, hnext⟩ := payOK_at hok hps
          dsimp only at hfd hheld hx0 hx1 hnext
          obtain ⟨ham7, hlen7⟩ := payA_am (of_am hd) hok i
          have hDI := F.B.open'.due d (List.mem_of_getElem? hdi)
          rw [List.length_map] at hDI
          have hdm := mayD_am hDI.1
          have hfr7 : d.fr < (acs.length : Int) := hDI.2.1
          have hto7 : d.to < (acs.length : Int) := hDI.2.2
          have hfr8 := hdm.1.1
          have hto8 := hdm.2.1.1
          have hfb : ∀ k, -1152921504606846976 ≤ f i k ∧ f i k ≤ 1152921504606846976 := fun k => by
            have := over_bnd (g := grE (((acs.map roomV).length + 1 : Nat) : Int) (roundE (acs.map roomV) (opn ds) r.cmp)) (x := flE r.fl) (c := 4503599627370496) k (k := i) fun j hj => by
              obtain ⟨d', hd'⟩ := get_some (l := opn ds) (i := j) (by omega)
              obtain ⟨x', hx'⟩ := get_some (l := r.fl) (i := j) (by omega)
              have h1 := F.pay.2 j d' x' hd' (by rw [List.getElem?_take, if_pos (by omega)]; exact hx')
              have h2 := (mayD_am (F.B.open'.due d' (List.mem_of_getElem? hd')).1).2.2.2.1
              show 0 ≤ r.fl.getD j 0 ∧ r.fl.getD j 0 ≤ _
              rw [getD_of hx']
              omega
            rw [hf0]
            dsimp only
            omega
          have hfs : ∀ k, f (i + 1) k = f i k + (one (d.to.toNat = k) - one (d.fr.toNat = k)) * x := fun k => by
            rw [hf0]
            dsimp only
            rw [over_step, gr_f (rnd_due hdi), gr_t (rnd_due hdi), show flE r.fl i = x from getD_of hxi]; rfl
          obtain ⟨fn, hfn⟩ : ∃ fn : Nat, d.fr = fn := ⟨d.fr.toNat, by omega⟩
          obtain ⟨tn, htn⟩ : ∃ tn : Nat, d.to = tn := ⟨d.to.toNat, by omega⟩
          obtain ⟨f1, hf1⟩ : ∃ f1, f1 = upd (f i) fn (f i fn - x) := ⟨_, rfl⟩
          have hof : f1 fn = f i fn - x := by rw [hf1, upd_same]
          have hon : ∀ q, q ≠ fn → f1 q = f i q := fun q hq => by rw [hf1, upd_ne hq]
          have hst : ∀ q, f (i + 1) q = upd f1 tn (f1 tn + x) q := fun q => by
            rw [hfs, hfn, htn, Int.toNat_natCast, Int.toNat_natCast]
            by_cases h1 : q = tn
            · subst h1
              rw [upd_same, one_t rfl]
              by_cases h2 : fn = q
              · subst h2; rw [one_t rfl, hof]; omega
              · rw [one_f h2, hon q (Ne.symm h2)]; omega
            · rw [upd_ne h1, one_f (Ne.symm h1)]
              by_cases h2 : fn = q
              · subst h2; rw [one_t rfl, hof]; omega
              · rw [one_f h2, hon q (Ne.symm h2)]; omega
          have hb1 := hfb fn
          have hb2 := hfb tn
          have hot : -1157425104234217472 ≤ f1 tn ∧ f1 tn ≤ 1157425104234217472 := by
            by_cases h : tn = fn
            · rw [h, hof]; omega
            · rw [hon tn h]; omega
          have hp1 := permP (b31, Bl 2 (tabV (f (i + 1)) acs.length)) (b5, Bl 33 (rcells r q)) (br, RDU ad1 (payA ds (((opn ds).zip (r.fl.take m)).take i)).length cd1 nx) (ent ad1 62 fd1) ((ba, Bl 52 [.slice a acs.length c]) :: (ent a 64 full ++ ent a7 62 f7))
          obtain ⟨R7, hR7⟩ : ∃ R7, R7 = ent ad1 62 fd1 ++ (ba, Bl 52 [.slice a acs.length c]) :: (ent a 64 full ++ ent a7 62 f7) := ⟨_, rfl⟩
          rw [← hR7] at hp1 H hmem
          have RF9 := RA9.F
          refine W_skip (at_then ?_)
          refine W_seq ?_
          refine W_block ?_
          refine W_tseq 16 mixed_SrD (by kernel_rfl) rfl rfl ?_
          refine q_move rfl (.slice _ _ _) rfl ?_
          refine q_move rfl (.slice _ _ _) rfl ?_
          refine q_move rfl (.int _ _) rfl ?_
          first | refine q_indexRd RO1 rfl el_23_SrD sz_62_SrD rfl rfl (by omega) (by omega) (by first | rfl | omega) ?_ | refine q_indexRd RF9 rfl el_23_SrD sz_62_SrD rfl rfl (by omega) (by omega) (by first | rfl | omega) ?_ | refine q_indexAddr rfl el_23_SrD sz_62_SrD rfl rfl (by omega) (by omega) ?_
          refine q_fieldAddr rfl fo_62_1_SrD rfl ?_
          first | refine q_ldb rfl ag_3_SrD rfl (by rintro _ rfl; exact H.drew) (by first | exact at0 | exact at1 | exact at2 | exact at3 | exact at4 | exact at5 | exact at6 | exact at7 | exact at8 | exact at9) rfl ?_ | refine q_ld rfl ag_3_SrD rfl (by rintro _ rfl; exact ((by rw [cell_bl (H.ext.to hbr (by simp))]; rfl))) ?_ | refine q_ld rfl ag_3_SrD rfl (by rintro _ rfl; exact ((by rw [cell_bl (H.ext.to hba (by simp))]; rfl))) ?_ | refine q_ld rfl ag_3_SrD rfl (by rintro _ rfl; exact (((OS.rd O7 (fun x hx => H.drew.blk x (by first | exact hmem x hx | exact hmem2 x hx | exact hmem3 x hx)) (fun _ _ => rfl) (by decide)).fld hdi rfl (j := 1) rfl))) ?_ | refine q_ld rfl ag_3_SrD rfl (by rintro _ rfl; exact (((OS.rd O7 (fun x hx => H.drew.blk x (by first | exact hmem x hx | exact hmem2 x hx | exact hmem3 x hx)) (fun _ _ => rfl) (by decide)).fld hdi rfl (j := 2) rfl))) ?_ | refine q_ld rfl ag_3_SrD rfl (by rintro _ rfl; exact (((OS.rd O7 (fun x hx => H.drew.blk x (by first | exact hmem x hx | exact hmem2 x hx | exact hmem3 x hx)) (fun _ _ => rfl) (by decide)).fld hdi rfl (j := 0) rfl))) ?_ | refine q_ld rfl ag_3_SrD rfl (by rintro _ rfl; exact (((RF9.ext' H.drew.ext hoff9.F).fld hxi rfl (j := 0) rfl))) ?_
          first | refine q_indexRd RO1 rfl el_29_SrD sz_2_SrD rfl rfl (by omega) (by omega) (by first | rfl | omega) ?_ | refine q_indexRd RF9 rfl el_29_SrD sz_2_SrD rfl rfl (by omega) (by omega) (by first | rfl | omega) ?_ | refine q_indexAddr rfl el_29_SrD sz_2_SrD rfl rfl (by omega) (by omega) ?_
          refine q_ldr fn _ rfl ag_2_SrD rfl (by rintro _ rfl; exact H.drew) at0 (by rw [hfn]; simp) (by omega) rfl ?_
          refine q_fieldAddr rfl fo_33_5_SrD rfl ?_
          refine q_fieldAddr rfl fo_31_0_SrD rfl ?_
          first | refine q_ldb rfl ag_29_SrD rfl (by rintro _ rfl; exact H.drew) (by first | exact at0 | exact at1 | exact at2 | exact at3 | exact at4 | exact at5 | exact at6 | exact at7 | exact at8 | exact at9) rfl ?_ | refine q_ld rfl ag_29_SrD rfl (by rintro _ rfl; exact ((by rw [cell_bl (H.ext.to hbr (by simp))]; rfl))) ?_ | refine q_ld rfl ag_29_SrD rfl (by rintro _ rfl; exact ((by rw [cell_bl (H.ext.to hba (by simp))]; rfl))) ?_ | refine q_ld rfl ag_29_SrD rfl (by rintro _ rfl; exact (((OS.rd O7 (fun x hx => H.drew.blk x (by first | exact hmem x hx | exact hmem2 x hx | exact hmem3 x hx)) (fun _ _ => rfl) (by decide)).fld hdi rfl (j := 1) rfl))) ?_ | refine q_ld rfl ag_29_SrD rfl (by rintro _ rfl; exact (((OS.rd O7 (fun x hx => H.drew.blk x (by first | exact hmem x hx | exact hmem2 x hx | exact hmem3 x hx)) (fun _ _ => rfl) (by decide)).fld hdi rfl (j := 2) rfl))) ?_ | refine q_ld rfl ag_29_SrD rfl (by rintro _ rfl; exact (((OS.rd O7 (fun x hx => H.drew.blk x (by first | exact hmem x hx | exact hmem2 x hx | exact hmem3 x hx)) (fun _ _ => rfl) (by decide)).fld hdi rfl (j := 0) rfl))) ?_ | refine q_ld rfl ag_29_SrD rfl (by rintro _ rfl; exact (((RF9.ext' H.drew.ext hoff9.F).fld hxi rfl (j := 0) rfl))) ?_
          refine q_move rfl (.int _ _) rfl ?_
          first | refine q_indexRd RO1 rfl el_29_SrD sz_2_SrD rfl rfl (by omega) (by omega) (by first | rfl | omega) ?_ | refine q_indexRd RF9 rfl el_29_SrD sz_2_SrD rfl rfl (by omega) (by omega) (by first | rfl | omega) ?_ | refine q_indexAddr rfl el_29_SrD sz_2_SrD rfl rfl (by omega) (by omega) ?_
          first | refine q_ldb rfl ag_2_SrD rfl (by rintro _ rfl; exact H.drew) (by first | exact at0 | exact at1 | exact at2 | exact at3 | exact at4 | exact at5 | exact at6 | exact at7 | exact at8 | exact at9) rfl ?_ | refine q_ld rfl ag_2_SrD rfl (by rintro _ rfl; exact ((by rw [cell_bl (H.ext.to hbr (by simp))]; rfl))) ?_ | refine q_ld rfl ag_2_SrD rfl (by rintro _ rfl; exact ((by rw [cell_bl (H.ext.to hba (by simp))]; rfl))) ?_ | refine q_ld rfl ag_2_SrD rfl (by rintro _ rfl; exact (((OS.rd O7 (fun x hx => H.drew.blk x (by first | exact hmem x hx | exact hmem2 x hx | exact hmem3 x hx)) (fun _ _ => rfl) (by decide)).fld hdi rfl (j := 1) rfl))) ?_ | refine q_ld rfl ag_2_SrD rfl (by rintro _ rfl; exact (((OS.rd O7 (fun x hx => H.drew.blk x (by first | exact hmem x hx | exact hmem2 x hx | exact hmem3 x hx)) (fun _ _ => rfl) (by decide)).fld hdi rfl (j := 2) rfl))) ?_ | refine q_ld rfl ag_2_SrD rfl (by rintro _ rfl; exact (((OS.rd O7 (fun x hx => H.drew.blk x (by first | exact hmem x hx | exact hmem2 x hx | exact hmem3 x hx)) (fun _ _ => rfl) (by decide)).fld hdi rfl (j := 0) rfl))) ?_ | refine q_ld rfl ag_2_SrD rfl (by rintro _ rfl; exact (((RF9.ext' H.drew.ext hoff9.F).fld hxi rfl (j := 0) rfl))) ?_
          refine q_sub_i64 rfl rfl rfl (by omega) (by omega) ?_
          first | refine q_indexRd RO1 rfl el_29_SrD sz_2_SrD rfl rfl (by omega) (by omega) (by first | rfl | omega) ?_ | refine q_indexRd RF9 rfl el_29_SrD sz_2_SrD rfl rfl (by omega) (by omega) (by first | rfl | omega) ?_ | refine q_indexAddr rfl el_29_SrD sz_2_SrD rfl rfl (by omega) (by omega) ?_
          refine q_nil ?_
          replace H := H.drew
          refine op_str fn (fun q => .int .i64 (f1 q)) (.int _ _) rfl sz_2_SrD rfl rfl rfl H at0 (by rw [hfn]; simp) (by omega) (by rw [hof]) (fun q _ hq => by rw [hon q hq]) ?_
          rintro w H
          have hmem2 : ∀ x ∈ ent a7 62 f7, x ∈ ((b31, Bl 2 (tabV f1 acs.length)) :: (b5, Bl 33 (rcells r q)) :: (br, RDU ad1 (payA ds (((opn ds).zip (r.fl.take m)).take i)).length cd1 nx) :: R7) := fun x hx => List.mem_cons_of_mem _ (List.mem_cons_of_mem _ (List.mem_cons_of_mem _ (by rw [hR7]; exact List.mem_append_right _ (List.mem_cons_of_mem _ (List.mem_append_right _ hx)))))
          refine op_nil (at_then ?_)
          refine W_tseq 16 mixed_SrD (by kernel_rfl) rfl rfl ?_
          refine q_move rfl (.slice _ _ _) rfl ?_
          refine q_move rfl (.slice _ _ _) rfl ?_
          refine q_move rfl (.int _ _) rfl ?_
          first | refine q_indexRd RO1 rfl el_23_SrD sz_62_SrD rfl rfl (by omega) (by omega) (by first | rfl | omega) ?_ | refine q_indexRd RF9 rfl el_23_SrD sz_62_SrD rfl rfl (by omega) (by omega) (by first | rfl | omega) ?_ | refine q_indexAddr rfl el_23_SrD sz_62_SrD rfl rfl (by omega) (by omega) ?_
          refine q_fieldAddr rfl fo_62_2_SrD rfl ?_
          first | refine q_ldb rfl ag_3_SrD rfl (by rintro _ rfl; exact H.drew) (by first | exact at0 | exact at1 | exact at2 | exact at3 | exact at4 | exact at5 | exact at6 | exact at7 | exact at8 | exact at9) rfl ?_ | refine q_ld rfl ag_3_SrD rfl (by rintro _ rfl; exact ((by rw [cell_bl (H.ext.to hbr (by simp))]; rfl))) ?_ | refine q_ld rfl ag_3_SrD rfl (by rintro _ rfl; exact ((by rw [cell_bl (H.ext.to hba (by simp))]; rfl))) ?_ | refine q_ld rfl ag_3_SrD rfl (by rintro _ rfl; exact (((OS.rd O7 (fun x hx => H.drew.blk x (by first | exact hmem x hx | exact hmem2 x hx | exact hmem3 x hx)) (fun _ _ => rfl) (by decide)).fld hdi rfl (j := 1) rfl))) ?_ | refine q_ld rfl ag_3_SrD rfl (by rintro _ rfl; exact (((OS.rd O7 (fun x hx => H.drew.blk x (by first | exact hmem x hx | exact hmem2 x hx | exact hmem3 x hx)) (fun _ _ => rfl) (by decide)).fld hdi rfl (j := 2) rfl))) ?_ | refine q_ld rfl ag_3_SrD rfl (by rintro _ rfl; exact (((OS.rd O7 (fun x hx => H.drew.blk x (by first | exact hmem x hx | exact hmem2 x hx | exact hmem3 x hx)) (fun _ _ => rfl) (by decide)).fld hdi rfl (j := 0) rfl))) ?_ | refine q_ld rfl ag_3_SrD rfl (by rintro _ rfl; exact (((RF9.ext' H.drew.ext hoff9.F).fld hxi rfl (j := 0) rfl))) ?_
          first | refine q_indexRd RO1 rfl el_29_SrD sz_2_SrD rfl rfl (by omega) (by omega) (by first | rfl | omega) ?_ | refine q_indexRd RF9 rfl el_29_SrD sz_2_SrD rfl rfl (by omega) (by omega) (by first | rfl | omega) ?_ | refine q_indexAddr rfl el_29_SrD sz_2_SrD rfl rfl (by omega) (by omega) ?_
          refine q_ldr tn _ rfl ag_2_SrD rfl (by rintro _ rfl; exact H.drew) at0 (by rw [htn]; simp) (by omega) rfl ?_
          refine q_fieldAddr rfl fo_33_5_SrD rfl ?_
          refine q_fieldAddr rfl fo_31_0_SrD rfl ?_
          first | refine q_ldb rfl ag_29_SrD rfl (by rintro _ rfl; exact H.drew) (by first | exact at0 | exact at1 | exact at2 | exact at3 | exact at4 | exact at5 | exact at6 | exact at7 | exact at8 | exact at9) rfl ?_ | refine q_ld rfl ag_29_SrD rfl (by rintro _ rfl; exact ((by rw [cell_bl (H.ext.to hbr (by simp))]; rfl))) ?_ | refine q_ld rfl ag_29_SrD rfl (by rintro _ rfl; exact ((by rw [cell_bl (H.ext.to hba (by simp))]; rfl))) ?_ | refine q_ld rfl ag_29_SrD rfl (by rintro _ rfl; exact (((OS.rd O7 (fun x hx => H.drew.blk x (by first | exact hmem x hx | exact hmem2 x hx | exact hmem3 x hx)) (fun _ _ => rfl) (by decide)).fld hdi rfl (j := 1) rfl))) ?_ | refine q_ld rfl ag_29_SrD rfl (by rintro _ rfl; exact (((OS.rd O7 (fun x hx => H.drew.blk x (by first | exact hmem x hx | exact hmem2 x hx | exact hmem3 x hx)) (fun _ _ => rfl) (by decide)).fld hdi rfl (j := 2) rfl))) ?_ | refine q_ld rfl ag_29_SrD rfl (by rintro _ rfl; exact (((OS.rd O7 (fun x hx => H.drew.blk x (by first | exact hmem x hx | exact hmem2 x hx | exact hmem3 x hx)) (fun _ _ => rfl) (by decide)).fld hdi rfl (j := 0) rfl))) ?_ | refine q_ld rfl ag_29_SrD rfl (by rintro _ rfl; exact (((RF9.ext' H.drew.ext hoff9.F).fld hxi rfl (j := 0) rfl))) ?_
          refine q_move rfl (.int _ _) rfl ?_
          first | refine q_indexRd RO1 rfl el_29_SrD sz_2_SrD rfl rfl (by omega) (by omega) (by first | rfl | omega) ?_ | refine q_indexRd RF9 rfl el_29_SrD sz_2_SrD rfl rfl (by omega) (by omega) (by first | rfl | omega) ?_ | refine q_indexAddr rfl el_29_SrD sz_2_SrD rfl rfl (by omega) (by omega) ?_
          first | refine q_ldb rfl ag_2_SrD rfl (by rintro _ rfl; exact H.drew) (by first | exact at0 | exact at1 | exact at2 | exact at3 | exact at4 | exact at5 | exact at6 | exact at7 | exact at8 | exact at9) rfl ?_ | refine q_ld rfl ag_2_SrD rfl (by rintro _ rfl; exact ((by rw [cell_bl (H.ext.to hbr (by simp))]; rfl))) ?_ | refine q_ld rfl ag_2_SrD rfl (by rintro _ rfl; exact ((by rw [cell_bl (H.ext.to hba (by simp))]; rfl))) ?_ | refine q_ld rfl ag_2_SrD rfl (by rintro _ rfl; exact (((OS.rd O7 (fun x hx => H.drew.blk x (by first | exact hmem x hx | exact hmem2 x hx | exact hmem3 x hx)) (fun _ _ => rfl) (by decide)).fld hdi rfl (j := 1) rfl))) ?_ | refine q_ld rfl ag_2_SrD rfl (by rintro _ rfl; exact (((OS.rd O7 (fun x hx => H.drew.blk x (by first | exact hmem x hx | exact hmem2 x hx | exact hmem3 x hx)) (fun _ _ => rfl) (by decide)).fld hdi rfl (j := 2) rfl))) ?_ | refine q_ld rfl ag_2_SrD rfl (by rintro _ rfl; exact (((OS.rd O7 (fun x hx => H.drew.blk x (by first | exact hmem x hx | exact hmem2 x hx | exact hmem3 x hx)) (fun _ _ => rfl) (by decide)).fld hdi rfl (j := 0) rfl))) ?_ | refine q_ld rfl ag_2_SrD rfl (by rintro _ rfl; exact (((RF9.ext' H.drew.ext hoff9.F).fld hxi rfl (j := 0) rfl))) ?_
          refine q_add_i64 rfl rfl rfl (by omega) (by omega) ?_
          first | refine q_indexRd RO1 rfl el_29_SrD sz_2_SrD rfl rfl (by omega) (by omega) (by first | rfl | omega) ?_ | refine q_indexRd RF9 rfl el_29_SrD sz_2_SrD rfl rfl (by omega) (by omega) (by first | rfl | omega) ?_ | refine q_indexAddr rfl el_29_SrD sz_2_SrD rfl rfl (by omega) (by omega) ?_
          refine q_nil ?_
          replace H := H.drew
          refine op_str tn (fun q => .int .i64 (f (i + 1) q)) (.int _ _) rfl sz_2_SrD rfl rfl rfl H at0 (by rw [htn]; simp) (by omega) (by rw [hst, upd_same]) (fun q _ hq => by rw [hst, upd_ne hq]) ?_
          rintro w H
          have hmem3 : ∀ x ∈ ent a7 62 f7, x ∈ ((b31, Bl 2 (tabV (f (i + 1)) acs.length)) :: (b5, Bl 33 (rcells r q)) :: (br, RDU ad1 (payA ds (((opn ds).zip (r.fl.take m)).take i)).length cd1 nx) :: R7) := fun x hx => List.mem_cons_of_mem _ (List.mem_cons_of_mem _ (List.mem_cons_of_mem _ (by rw [hR7]; exact List.mem_append_right _ (List.mem_cons_of_mem _ (List.mem_append_right _ hx)))))
          refine op_nil (at_then ?_)
          refine W_tail 12 mixed_SrD (by kernel_rfl) rfl rfl ?_
          refine q_move rfl (.pointer _) rfl ?_
          refine q_move rfl (.slice _ _ _) rfl ?_
          refine q_move rfl (.int _ _) rfl ?_
          first | refine q_indexRd RO1 rfl el_23_SrD sz_62_SrD rfl rfl (by omega) (by omega) (by first | rfl | omega) ?_ | refine q_indexRd RF9 rfl el_23_SrD sz_62_SrD rfl rfl (by omega) (by omega) (by first | rfl | omega) ?_ | refine q_indexAddr rfl el_23_SrD sz_62_SrD rfl rfl (by omega) (by omega) ?_
          refine q_fieldAddr rfl fo_62_0_SrD rfl ?_
          first | refine q_ldb rfl ag_24_SrD rfl (by rintro _ rfl; exact H.drew) (by first | exact at0 | exact at1 | exact at2 | exact at3 | exact at4 | exact at5 | exact at6 | exact at7 | exact at8 | exact at9) rfl ?_ | refine q_ld rfl ag_24_SrD rfl (by rintro _ rfl; exact ((by rw [cell_bl (H.ext.to hbr (by simp))]; rfl))) ?_ | refine q_ld rfl ag_24_SrD rfl (by rintro _ rfl; exact ((by rw [cell_bl (H.ext.to hba (by simp))]; rfl))) ?_ | refine q_ld rfl ag_24_SrD rfl (by rintro _ rfl; exact (((OS.rd O7 (fun x hx => H.drew.blk x (by first | exact hmem x hx | exact hmem2 x hx | exact hmem3 x hx)) (fun _ _ => rfl) (by decide)).fld hdi rfl (j := 1) rfl))) ?_ | refine q_ld rfl ag_24_SrD rfl (by rintro _ rfl; exact (((OS.rd O7 (fun x hx => H.drew.blk x (by first | exact hmem x hx | exact hmem2 x hx | exact hmem3 x hx)) (fun _ _ => rfl) (by decide)).fld hdi rfl (j := 2) rfl))) ?_ | refine q_ld rfl ag_24_SrD rfl (by rintro _ rfl; exact (((OS.rd O7 (fun x hx => H.drew.blk x (by first | exact hmem x hx | exact hmem2 x hx | exact hmem3 x hx)) (fun _ _ => rfl) (by decide)).fld hdi rfl (j := 0) rfl))) ?_ | refine q_ld rfl ag_24_SrD rfl (by rintro _ rfl; exact (((RF9.ext' H.drew.ext hoff9.F).fld hxi rfl (j := 0) rfl))) ?_
          refine q_fieldAddr rfl fo_33_5_SrD rfl ?_
          refine q_fieldAddr rfl fo_31_0_SrD rfl ?_
          first | refine q_ldb rfl ag_29_SrD rfl (by rintro _ rfl; exact H.drew) (by first | exact at0 | exact at1 | exact at2 | exact at3 | exact at4 | exact at5 | exact at6 | exact at7 | exact at8 | exact at9) rfl ?_ | refine q_ld rfl ag_29_SrD rfl (by rintro _ rfl; exact ((by rw [cell_bl (H.ext.to hbr (by simp))]; rfl))) ?_ | refine q_ld rfl ag_29_SrD rfl (by rintro _ rfl; exact ((by rw [cell_bl (H.ext.to hba (by simp))]; rfl))) ?_ | refine q_ld rfl ag_29_SrD rfl (by rintro _ rfl; exact (((OS.rd O7 (fun x hx => H.drew.blk x (by first | exact hmem x hx | exact hmem2 x hx | exact hmem3 x hx)) (fun _ _ => rfl) (by decide)).fld hdi rfl (j := 1) rfl))) ?_ | refine q_ld rfl ag_29_SrD rfl (by rintro _ rfl; exact (((OS.rd O7 (fun x hx => H.drew.blk x (by first | exact hmem x hx | exact hmem2 x hx | exact hmem3 x hx)) (fun _ _ => rfl) (by decide)).fld hdi rfl (j := 2) rfl))) ?_ | refine q_ld rfl ag_29_SrD rfl (by rintro _ rfl; exact (((OS.rd O7 (fun x hx => H.drew.blk x (by first | exact hmem x hx | exact hmem2 x hx | exact hmem3 x hx)) (fun _ _ => rfl) (by decide)).fld hdi rfl (j := 0) rfl))) ?_ | refine q_ld rfl ag_29_SrD rfl (by rintro _ rfl; exact (((RF9.ext' H.drew.ext hoff9.F).fld hxi rfl (j := 0) rfl))) ?_
          refine q_move rfl (.int _ _) rfl ?_
          first | refine q_indexRd RO1 rfl el_29_SrD sz_2_SrD rfl rfl (by omega) (by omega) (by first | rfl | omega) ?_ | refine q_indexRd RF9 rfl el_29_SrD sz_2_SrD rfl rfl (by omega) (by omega) (by first | rfl | omega) ?_ | refine q_indexAddr rfl el_29_SrD sz_2_SrD rfl rfl (by omega) (by omega) ?_
          first | refine q_ldb rfl ag_2_SrD rfl (by rintro _ rfl; exact H.drew) (by first | exact at0 | exact at1 | exact at2 | exact at3 | exact at4 | exact at5 | exact at6 | exact at7 | exact at8 | exact at9) rfl ?_ | refine q_ld rfl ag_2_SrD rfl (by rintro _ rfl; exact ((by rw [cell_bl (H.ext.to hbr (by simp))]; rfl))) ?_ | refine q_ld rfl ag_2_SrD rfl (by rintro _ rfl; exact ((by rw [cell_bl (H.ext.to hba (by simp))]; rfl))) ?_ | refine q_ld rfl ag_2_SrD rfl (by rintro _ rfl; exact (((OS.rd O7 (fun x hx => H.drew.blk x (by first | exact hmem x hx | exact hmem2 x hx | exact hmem3 x hx)) (fun _ _ => rfl) (by decide)).fld hdi rfl (j := 1) rfl))) ?_ | refine q_ld rfl ag_2_SrD rfl (by rintro _ rfl; exact (((OS.rd O7 (fun x hx => H.drew.blk x (by first | exact hmem x hx | exact hmem2 x hx | exact hmem3 x hx)) (fun _ _ => rfl) (by decide)).fld hdi rfl (j := 2) rfl))) ?_ | refine q_ld rfl ag_2_SrD rfl (by rintro _ rfl; exact (((OS.rd O7 (fun x hx => H.drew.blk x (by first | exact hmem x hx | exact hmem2 x hx | exact hmem3 x hx)) (fun _ _ => rfl) (by decide)).fld hdi rfl (j := 0) rfl))) ?_ | refine q_ld rfl ag_2_SrD rfl (by rintro _ rfl; exact (((RF9.ext' H.drew.ext hoff9.F).fld hxi rfl (j := 0) rfl))) ?_
          refine q_nil ?_
          replace H := H.drew
          obtain ⟨hc0, hS⟩ := payC_zero (p := (d, x)) ⟨hfd, hheld, hx0, hx1⟩
          dsimp only at hc0 hS
          refine op_call rfl ca_73_SrD (r18pay_ctx (k := d.id) (x := x) (H.perm hp1) OD1 (by omega) ham7) rfl ?_
          rintro v w ⟨rfl, ad2, cd2, fd2, OD2, H2⟩
          rw [hS, ← hnext] at OD2 H2
          replace H := H2.perm (permP _ _ _ _ _).symm
          refine op_nil (at_block (at_then ?_))
          refine W_region ?_
          refine op_move rfl (.int _ _) rfl ?_
          refine op_add_i64 rfl rfl rfl (by omega) (by omega) ?_
          refine op_assign rfl (.int _ _) rfl ?_
          refine op_nil (at_then ?_)
          exact ⟨⟨i + 1, ad2, cd2, fd2⟩, rfl, ⟨rfl, trivial⟩, ⟨by dsimp only; omega, OD2, H⟩, by dsimp only; omega⟩
        · intro h3
          replace h3 := dec_f h3
          obtain rfl : i = m := by omega
          have hall := F.all
          rw [← hm] at hall
          rw [List.take_of_length_le (by rw [List.length_zip, ← hm, List.length_take]; omega), hall] at OD1 H
          replace H := H.perm (permS _ _ _ _ _ _ _)
          have hnd := List.pairwise_append.1 H.nd
          refine W_exit (exit_then (exit_then (exit_here (at_then ?_))))
          refine W_rseq ?_
          refine op_move rfl (.pointer _) rfl ?_
          refine op_move rfl (.slice _ _ _) rfl ?_
          refine op_call rfl ca_74_SrD (r17shift_ok (bd := ba) a (some ⟨b31, 0, none⟩) c acs.length acs.length full acs (tab (f i) acs.length) _ (H.get at3) O (fun x hx => ⟨H.blk x (List.mem_append_right _ hx), fun h => hnd.2.2 _ (List.mem_cons_of_mem _ (List.mem_cons_of_mem _ (List.mem_cons_of_mem _ (List.mem_cons_self ..)))) x hx h.symm⟩) (by omega) (tab_rd (H.get at0)) (tab_len _ _) (by omega)) rfl ?_
          rintro v w ⟨rfl, full', O', hb', hx85⟩
          refine op_nil (at_then ?_)
          refine W_rseq ?_
          refine op_assign rfl (.int _ _) rfl ?_
          refine op_nil (at_then ?_)
          refine W_ret (leave1 (v := (.int _ _)) rfl rfl rfl ?_)
          have HT := Ctx.turnEnt H hx85 hb'
          rw [hS9] at HT
          have HB := Ctx.back HF HT
          rw [List.append_nil] at HB
          exact ⟨rfl, full', ad1, cd1, fd1, O', OD1, (HB.perm (permF _ _ _ _ _ _ _)).left⟩
end Go.Proofs.YtapphbmlkdhnmaaGreat

/- Accounts and dues, of the program's and of the reference: what the laws begin with. -/
namespace Go.Proofs.YtapphbmlkdhnmaaGreat
open Go.GV
theorem ca_50_SrE : callable Tryz.prog 50 = true := by kernel_rfl
theorem ca_55_SrE : callable Tryz.prog 55 = true := by kernel_rfl
theorem ca_56_SrE : callable Tryz.prog 56 = true := by kernel_rfl
theorem ca_57_SrE : callable Tryz.prog 57 = true := by kernel_rfl
theorem el_22_SrE : elemT Tryz.prog 22 = some 64 := by kernel_rfl
theorem el_23_SrE : elemT Tryz.prog 23 = some 62 := by kernel_rfl
attribute [local irreducible] Wops W Wq Wt

theorem leave5 {P : Program} {e : Env} {w : World} {fn : Func} {R : Value → World → Prop} {s1 s2 s3 s4 s5 : Tmp} {v1 v2 v3 v4 v5 : Value} (hr : fn.results = #[.tmp s1, .tmp s2, .tmp s3, .tmp s4, .tmp s5]) (hd : e.ds = []) (h1 : e.g s1 = v1) (h2 : e.g s2 = v2) (h3 : e.g s3 = v3) (h4 : e.g s4 = v4) (h5 : e.g s5 = v5)
    (h : R (.tuple #[v1, v2, v3, v4, v5]) w) : Qret P fn R .ret e w :=
  ⟨hd, fun tmps ht => by
    have g1 := (ht s1).trans h1
    have g2 := (ht s2).trans h2
    have g3 := (ht s3).trans h3
    have g4 := (ht s4).trans h4
    have g5 := (ht s5).trans h5
    rw [Array.getD_eq_getD_getElem?] at g1 g2 g3 g4 g5
    exact ⟨_, by simp [results, hr, g1, g2, g3, g4, g5], h⟩⟩
theorem permB {α : Type} (A B C D E : α) (F G H : List α) : (((([] ++ (A :: F)) ++ (B :: G)) ++ (C :: H)) ++ [D, E]).Perm ((C :: D :: E :: H) ++ (A :: B :: (G ++ F))) := by
  classical exact List.perm_iff_count.2 fun x => by simp only [List.count_append, List.count_cons, List.count_nil]; omega
theorem ent_cons {b : Nat} {o : Obj} {a : Option Addr} {t : TypeId} {full : List Value} (h : ∀ x ∈ ent a t full, x.1 ≠ b) : ((b, o) :: ent a t full).Pairwise fun x y => x.1 ≠ y.1 :=
  List.pairwise_cons.2 ⟨fun x hx => (h x hx).symm, ent_nd⟩
/-- Accounts and dues, twice. -/
structure Four where
  bx : Nat
  a : Option Addr
  c : Nat
  full : List Value
  bd : Nat
  b : Nat
  o : Obj
  ba : Nat
  ra : Option Addr
  rc : Nat
  rfull : List Value
  br : Nat
  ad : Option Addr
  cd : Nat
  fd : List Value
def Four.L (z : Four) (acs : List Ac) (ds : List Du) (nx : Int) : List (Nat × Obj) := LX z.bx z.a acs.length z.c z.full z.bd z.b nx z.o ++ RX z.ba z.ra acs.length z.rc z.rfull z.br z.ad ds.length z.cd nx z.fd
structure Four.Ok (z : Four) (acs : List Ac) (ds : List Du) : Prop where
  O : OS z.a acs.length z.c 2 z.full (acs.flatMap encA)
  M : MapO .u64 (dm ds) z.o
  RO : OS z.ra acs.length z.rc 2 z.rfull (acs.flatMap encA)
  RD : OS z.ad ds.length z.cd 7 z.fd (ds.flatMap encD)
def bothB (acs : List Ac) (ds : List Du) (nx : Int) : Bool := decide (aofC acs = 0) && decide (ofC ds nx = 0)
def BothRes (w : World) (acs : List Ac) (ds : List Du) (nx : Int) (v : Value) (w' : World) : Prop :=
  (bothB acs ds nx = false ∧ v = .tuple #[.pointer none, .pointer none, .pointer none, .pointer none, .bool false] ∧ Ext [] w w') ∨
    (bothB acs ds nx = true ∧ ∃ z : Four, v = .tuple #[ptr z.bx, ptr z.bd, ptr z.ba, ptr z.br, .bool true] ∧ z.Ok acs ds ∧ Ctx w [] w' (z.L acs ds nx))
theorem BothRes.uni' {w w' : World} {acs : List Ac} {ds : List Du} {nx : Int} {v : Value} (h : BothRes w acs ds nx v w') (hb : bothB acs ds nx = true ↔ aofC acs = 0 ∧ ofC ds nx = 0) : ∃ (p1 p2 p3 p4 : Option Addr) (is : Bool), v = .tuple #[.pointer p1, .pointer p2, .pointer p3, .pointer p4, .bool is] ∧ Ext [] w w' ∧
    (is = true → aofC acs = 0 ∧ ofC ds nx = 0 ∧ ∃ z : Four, p1 = some ⟨z.bx, 0, none⟩ ∧ p2 = some ⟨z.bd, 0, none⟩ ∧ p3 = some ⟨z.ba, 0, none⟩ ∧ p4 = some ⟨z.br, 0, none⟩ ∧ z.Ok acs ds ∧ Ctx w [] w' (z.L acs ds nx)) := by
  rcases h with ⟨-, rfl, hx⟩ | ⟨h1, z, rfl, h2, h3⟩
  · exact ⟨_, _, _, _, _, rfl, hx, fun h => by cases h⟩
  · exact ⟨_, _, _, _, _, rfl, h3.ext, fun _ => ⟨(hb.1 h1).1, (hb.1 h1).2, z, rfl, rfl, rfl, rfl, h2, h3⟩⟩
theorem bothB_iff {acs : List Ac} {ds : List Du} {nx : Int} : bothB acs ds nx = true ↔ aofC acs = 0 ∧ ofC ds nx = 0 := by
  unfold bothB
  rw [Bool.and_eq_true, decide_eq_true_eq, decide_eq_true_eq]
set_option maxRecDepth 20000 in
set_option maxHeartbeats 2000000 in
theorem both20_ok (a b : Option Addr) (n c m e : Nat) (acs : List Ac) (ds : List Du) (nx : Int) (w : World) (R : Rd w a 2 encA acs) (hn : acs.length = n) (R' : Rd w b 7 encD ds) (hm : ds.length = m) (hnx : 0 ≤ nx ∧ nx < 18446744073709551616) (hid : ∀ d ∈ ds, 0 ≤ d.id ∧ d.id < 18446744073709551616) :
    Ret Tryz.prog 11 #[.slice a n c, .slice b m e, .int .u64 nx] w (BothRes w acs ds nx) := by
  subst hn hm
  obtain ⟨w0, rfl⟩ : ∃ w0, w0 = w := ⟨_, rfl⟩
  have H := Ctx.start w0 []
  refine ret_of_W (fn := Tryz.f11) Tryz.func11 rfl [.slice a acs.length c, .slice b ds.length e, .int .u64 nx] rfl (by kernel_rfl) ?_
  refine W_rseq ?_
  refine op_assign rfl (.pointer _) rfl ?_
  refine op_assign rfl (.pointer _) rfl ?_
  refine op_assign rfl (.pointer _) rfl ?_
  refine op_assign rfl (.pointer _) rfl ?_
  refine op_assign rfl (.bool _) rfl ?_
  refine op_nil (at_then ?_)
  refine W_seq ?_
  refine W_rseq (Wops_join (α := Unit) 133693440 (fun _ => [(26, .bool ((decide (40 < acs.length) || decide (100 < ds.length))))]) (fun _ w' => Ctx w0 [] w' []) rfl ?_ ?_)
  · refine op_move rfl (.slice _ _ _) rfl ?_
    refine op_len rfl el_22_SrE rfl ?_
    refine op_gtr rfl rfl rfl ?_
    refine op_move rfl (.bool _) rfl ?_
    refine Wops_split 22 rfl ?_ ?_
    · intro h1
      replace h1 := dec_t h1
      refine op_skip rfl ?_
      refine op_skip rfl ?_
      refine op_skip rfl ?_
      refine op_pick1 rfl rfl (.bool _) rfl ?_
      refine op_nil ?_
      exact ⟨rfl, (), rfl, ⟨congrArg Value.bool (by rw [Bool.eq_iff_iff]; simp_all; try omega), trivial⟩, H⟩
    · intro h2
      replace h2 := dec_f h2
      refine op_move rfl (.slice _ _ _) rfl ?_
      refine op_len rfl el_23_SrE rfl ?_
      refine op_gtr rfl rfl rfl ?_
      refine op_pick0 rfl rfl (.bool _) rfl ?_
      refine op_nil ?_
      exact ⟨rfl, (), rfl, ⟨congrArg Value.bool (by rw [Bool.eq_iff_iff]; simp_all; try omega), trivial⟩, H⟩
  rintro - j26 w H
  refine W_cond _ rfl ?_ ?_
  · intro h1
    refine W_rseq ?_
    refine op_assign rfl (.pointer _) rfl ?_
    refine op_assign rfl (.pointer _) rfl ?_
    refine op_assign rfl (.pointer _) rfl ?_
    refine op_assign rfl (.pointer _) rfl ?_
    refine op_assign rfl (.bool _) rfl ?_
    refine op_nil (at_then ?_)
    refine W_ret (ret_then (leave5 (v1 := (.pointer _)) (v2 := (.pointer _)) (v3 := (.pointer _)) (v4 := (.pointer _)) (v5 := (.bool _)) rfl rfl rfl rfl rfl rfl rfl ?_))
    refine .inl ⟨?_, rfl, H.ext⟩
    rw [Bool.or_eq_true, decide_eq_true_eq, decide_eq_true_eq] at h1
    rw [← Bool.not_eq_true, bothB_iff]
    rintro ⟨h2, h3⟩
    have h4 := (aofC_iff.1 h2).1
    have h5 := (ofC_iff.1 h3).1
    omega
  · intro h1
    have hx0 := H.ext
    have h1' : acs.length ≤ 40 ∧ ds.length ≤ 100 := by simpa using h1
    have hn2 : acs.length ≤ 1000000000 := by omega
    have hm2 : ds.length ≤ 1000000000 := by omega
    obtain ⟨ca, hca⟩ : ∃ ca, ca = aofC acs := ⟨_, rfl⟩
    obtain ⟨cb, hcb⟩ : ∃ cb, cb = ofC ds nx := ⟨_, rfl⟩
    refine W_skip (at_then ?_)
    refine W_rseq ?_
    refine op_move rfl (.slice _ _ _) rfl ?_
    refine op_call rfl ca_55_SrE (r17of_ok a _ c acs _ (R.ext0 H.ext) rfl hn2) rfl ?_
    rintro v w29 ⟨p29, rfl, hn29, hs29, hx29⟩
    rw [← hca] at hn29 hs29 ⊢
    obtain ⟨q29, hq29⟩ : ∃ q, p29 = .pointer q := (Classical.em (ca = 0)).elim (fun h => (hs29 h).elim fun _ h => h.elim fun _ h => h.elim fun _ h => h.elim fun _ h => ⟨_, h.1⟩) (fun h => ⟨_, hn29 h⟩)
    subst hq29
    replace H := H.call hx29
    refine op_move rfl (.tuple _) rfl ?_
    refine op_extract rfl rfl rfl ?_
    refine op_extract rfl rfl rfl ?_
    refine op_assign rfl (.pointer _) rfl ?_
    refine op_assign rfl (.int _ _) rfl ?_
    refine op_nil (at_then ?_)
    refine W_rseq ?_
    refine op_move rfl (.slice _ _ _) rfl ?_
    refine op_move rfl (.int _ _) rfl ?_
    refine op_call rfl ca_56_SrE (r18of_ok b _ e ds nx _ (R'.ext0 H.ext) rfl hm2 hnx hid) rfl ?_
    rintro v w35 ⟨p35, rfl, hn35, hs35, hx35⟩
    rw [← hcb] at hn35 hs35 ⊢
    obtain ⟨q35, hq35⟩ : ∃ q, p35 = .pointer q := (Classical.em (cb = 0)).elim (fun h => (hs35 h).elim fun _ h => h.elim fun _ h => h.elim fun _ h => h.elim fun _ h => ⟨_, h.1⟩) (fun h => ⟨_, hn35 h⟩)
    subst hq35
    replace H := H.call hx35
    refine op_move rfl (.tuple _) rfl ?_
    refine op_extract rfl rfl rfl ?_
    refine op_extract rfl rfl rfl ?_
    refine op_assign rfl (.pointer _) rfl ?_
    refine op_assign rfl (.int _ _) rfl ?_
    refine op_nil (at_then ?_)
    refine W_seq ?_
    refine W_rseq (Wops_join (α := Unit) 17317308137472 (fun _ => [(43, .bool ((!decide (ca = 0) || !decide (cb = 0))))]) (fun _ w' => Ctx w0 [] w' [] ∧ w' = w35) rfl ?_ ?_)
    · refine op_move rfl (.int _ _) rfl ?_
      refine op_neq rfl rfl rfl ?_
      refine op_move rfl (.bool _) rfl ?_
      refine Wops_split 40 rfl ?_ ?_
      · intro h3
        replace h3 := ndec_t h3
        refine op_skip rfl ?_
        refine op_skip rfl ?_
        refine op_pick1 rfl rfl (.bool _) rfl ?_
        refine op_nil ?_
        exact ⟨rfl, (), rfl, ⟨congrArg Value.bool (by rw [Bool.eq_iff_iff]; simp_all), trivial⟩, ⟨H, rfl⟩⟩
      · intro h4
        replace h4 := ndec_f h4
        refine op_move rfl (.int _ _) rfl ?_
        refine op_neq rfl rfl rfl ?_
        refine op_pick0 rfl rfl (.bool _) rfl ?_
        refine op_nil ?_
        exact ⟨rfl, (), rfl, ⟨congrArg Value.bool (by rw [Bool.eq_iff_iff]; simp_all), trivial⟩, ⟨H, rfl⟩⟩
    rintro - j43 w ⟨H, rfl⟩
    refine W_cond _ rfl ?_ ?_
    · intro h2
      refine W_rseq ?_
      refine op_assign rfl (.pointer _) rfl ?_
      refine op_assign rfl (.pointer _) rfl ?_
      refine op_assign rfl (.pointer _) rfl ?_
      refine op_assign rfl (.pointer _) rfl ?_
      refine op_assign rfl (.bool _) rfl ?_
      refine op_nil (at_then ?_)
      refine W_ret (ret_then (leave5 (v1 := (.pointer _)) (v2 := (.pointer _)) (v3 := (.pointer _)) (v4 := (.pointer _)) (v5 := (.bool _)) rfl rfl rfl rfl rfl rfl rfl ?_))
      refine .inl ⟨?_, rfl, H.ext⟩
      rw [← Bool.not_eq_true, bothB_iff, ← hca, ← hcb]
      rintro ⟨h3, h4⟩
      rw [h3, h4] at h2
      simp at h2
    · intro h2
      have h2' : ca = 0 ∧ cb = 0 := by simpa using h2
      rw [hca, hcb] at h2'
      obtain ⟨ba, ra, rc, rfull, g0, g1, g2, g3, g4⟩ := hs29 (hca.trans h2'.1)
      obtain ⟨br, ad, cd, fd, k0, k1, k2, k3, k4⟩ := hs35 (hcb.trans h2'.2)
      cases g0; cases k0
      refine W_skip (at_then ?_)
      refine W_rseq ?_
      refine op_move rfl (.slice _ _ _) rfl ?_
      refine op_call rfl ca_50_SrE (aof_ok a _ c acs _ (R.ext0 H.ext) rfl hn2) rfl ?_
      rintro v w46 ⟨p46, rfl, hn46, hs46, hx46⟩
      obtain ⟨q46, hq46⟩ : ∃ q, p46 = .pointer q := (Classical.em (aofC acs = 0)).elim (fun h => (hs46 h).elim fun _ h => h.elim fun _ h => h.elim fun _ h => h.elim fun _ h => ⟨_, h.1⟩) (fun h => ⟨_, hn46 h⟩)
      subst hq46
      replace H := H.call hx46
      refine op_move rfl (.tuple _) rfl ?_
      refine op_extract rfl rfl rfl ?_
      refine op_extract rfl rfl rfl ?_
      refine op_assign rfl (.pointer _) rfl ?_
      refine op_assign rfl (.int _ _) rfl ?_
      refine op_nil (at_then ?_)
      refine W_rseq ?_
      refine op_move rfl (.slice _ _ _) rfl ?_
      refine op_move rfl (.int _ _) rfl ?_
      refine op_call rfl ca_57_SrE (dof_ok b _ e ds nx _ (R'.ext0 H.ext) rfl hm2 hnx hid) rfl ?_
      rintro v w52 ⟨p52, rfl, hn52, hs52, hx52⟩
      obtain ⟨q52, hq52⟩ : ∃ q, p52 = .pointer q := (Classical.em (ofC ds nx = 0)).elim (fun h => (hs52 h).elim fun _ h => h.elim fun _ h => h.elim fun _ h => ⟨_, h.1⟩) (fun h => ⟨_, hn52 h⟩)
      subst hq52
      replace H := H.call hx52
      refine op_move rfl (.tuple _) rfl ?_
      refine op_extract rfl rfl rfl ?_
      refine op_extract rfl rfl rfl ?_
      refine op_assign rfl (.pointer _) rfl ?_
      refine op_assign rfl (.int _ _) rfl ?_
      refine op_nil (at_then ?_)
      refine W_rseq ?_
      refine op_move rfl (.pointer _) rfl ?_
      refine op_move rfl (.pointer _) rfl ?_
      refine op_move rfl (.pointer _) rfl ?_
      refine op_move rfl (.pointer _) rfl ?_
      refine op_assign rfl (.pointer _) rfl ?_
      refine op_assign rfl (.pointer _) rfl ?_
      refine op_assign rfl (.pointer _) rfl ?_
      refine op_assign rfl (.pointer _) rfl ?_
      refine op_assign rfl (.bool _) rfl ?_
      refine op_nil (at_then ?_)
      refine W_ret (leave5 (v1 := (.pointer _)) (v2 := (.pointer _)) (v3 := (.pointer _)) (v4 := (.pointer _)) (v5 := (.bool _)) rfl rfl rfl rfl rfl rfl rfl ?_)
      obtain ⟨bx, a', c', full', i0, i1, i2, i3, i4⟩ := hs46 h2'.1
      obtain ⟨bd, bb, o, j0, j1, j2, j3, j4, j5, j6⟩ := hs52 h2'.2
      cases i0; cases j0
      refine .inr ⟨bothB_iff.2 h2', ⟨bx, a', c', full', bd, bb, o, ba, ra, rc, rfull, br, ad, cd, fd⟩, rfl, ⟨i2, j3, g2, k2⟩, ?_⟩
      have H1 := ((Ctx.start w0 []).call hx0).callEnt (E := (ba, Bl 52 [.slice ra acs.length rc]) :: ent ra 64 rfull) hx29 (fun x hx => by
        rcases List.mem_cons.1 hx with rfl | hx
        · exact ⟨g1, g4⟩
        · exact ⟨(g3 x hx).1, (g3 x hx).2.1⟩) (ent_cons fun x hx => (g3 x hx).2.2)
      have H2 := H1.callEnt (E := (br, RDU ad ds.length cd nx) :: ent ad 62 fd) hx35 (fun x hx => by
        rcases List.mem_cons.1 hx with rfl | hx
        · exact ⟨k1, k4⟩
        · exact ⟨(k3 x hx).1, (k3 x hx).2.1⟩) (ent_cons fun x hx => (k3 x hx).2.2)
      have H3 := H2.callEnt (E := (bx, Bl 116 [.slice a' acs.length c']) :: ent a' 64 full') hx46 (fun x hx => by
        rcases List.mem_cons.1 hx with rfl | hx
        · exact ⟨i1, i4⟩
        · exact ⟨(i3 x hx).1, (i3 x hx).2.1⟩) (ent_cons fun x hx => (i3 x hx).2.2)
      have H4 := H3.callEnt (E := [(bd, Bl 123 (DU bb nx)), (bb, o)]) hx52 (fun x hx => by
        simp only [List.mem_cons, List.not_mem_nil, or_false] at hx
        rcases hx with rfl | rfl
        · exact ⟨j1, j4⟩
        · exact ⟨j2, j5⟩) (by simpa using j6)
      exact H4.perm (permB _ _ _ _ _ _ _ _)
end Go.Proofs.YtapphbmlkdhnmaaGreat

/- Plans and rounds among what else one holds; the chapter's example. -/
namespace Go.Proofs.YtapphbmlkdhnmaaGreat
open Go.GV
theorem ag_2_SrF : aggB Tryz.prog 2 = some false := by kernel_rfl
theorem ag_33_SrF : aggB Tryz.prog 33 = some true := by kernel_rfl
theorem ag_4_SrF : aggB Tryz.prog 4 = some false := by kernel_rfl
theorem ca_12_SrF : callable Tryz.prog 12 = true := by kernel_rfl
theorem ca_21_SrF : callable Tryz.prog 21 = true := by kernel_rfl
theorem ca_50_SrF : callable Tryz.prog 50 = true := by kernel_rfl
theorem ca_51_SrF : callable Tryz.prog 51 = true := by kernel_rfl
theorem ca_52_SrF : callable Tryz.prog 52 = true := by kernel_rfl
theorem ca_53_SrF : callable Tryz.prog 53 = true := by kernel_rfl
theorem ca_54_SrF : callable Tryz.prog 54 = true := by kernel_rfl
theorem el_22_SrF : elemT Tryz.prog 22 = some 64 := by kernel_rfl
theorem fo_33_2_SrF : fieldO Tryz.prog 33 2 = some 2 := by kernel_rfl
theorem fo_62_3_SrF : fieldO Tryz.prog 62 3 = some 3 := by kernel_rfl
theorem fo_64_0_SrF : fieldO Tryz.prog 64 0 = some 0 := by kernel_rfl
theorem pl_64_SrF : placesB Tryz.prog 64 = some [(0, 1), (1, 1)] := by kernel_rfl
theorem sz_33_SrF : tsize Tryz.prog 33 = some 8 := by kernel_rfl
theorem sz_62_SrF : tsize Tryz.prog 62 = some 7 := by kernel_rfl
theorem sz_64_SrF : tsize Tryz.prog 64 = some 2 := by kernel_rfl
theorem zc_33_SrF : zcells Tryz.prog 33 = some ([.int .u64 0, .int .i64 0, .bool false, .slice none 0 0, .int .i64 0, .slice none 0 0, .slice none 0 0, .slice none 0 0]) := by kernel_rfl
theorem zc_62_SrF : zcells Tryz.prog 62 = some ([.int .u64 0, .int .i64 0, .int .i64 0, .int .i64 0, .int .i64 0, .int .i64 0, .bool false]) := by kernel_rfl
theorem zc_64_SrF : zcells Tryz.prog 64 = some ([.int .i64 0, .int .i64 0]) := by kernel_rfl
attribute [local irreducible] Wops W Wq Wt

theorem permX7 {α : Type} (A B C : α) (E : List α) : ([A, B] ++ (C :: E)).Perm (C :: A :: B :: E) := by
  classical exact List.perm_iff_count.2 fun x => by simp only [List.count_append, List.count_cons, List.count_nil]; omega
theorem permBR {α : Type} (B L R : List α) : (B ++ (L ++ R)).Perm (L ++ (B ++ R)) := by
  classical exact List.perm_iff_count.2 fun x => by simp only [List.count_append]; omega
theorem Ctx.mid {w0 w w' : World} {S : List Nat} {B L L' R : List (Nat × Obj)} (H : Ctx w0 S w (B ++ (L ++ R))) (H' : Ctx w (L.map (·.1)) w' L') : Ctx w0 S w' (B ++ (L' ++ R)) :=
  (Ctx.back (H.perm (permBR B L R)) H').perm (permBR B L' R).symm
theorem Ctx.in' {w0 w : World} {S : List Nat} {B L R : List (Nat × Obj)} (H : Ctx w0 S w (B ++ (L ++ R))) : Ctx w (L.map (·.1)) w L := Ctx.lend (H.perm (permBR B L R))
theorem LX.ac {bx : Nat} {a : Option Addr} {c : Nat} {full : List Value} {bd b : Nat} {nx : Int} {o : Obj} {acs : List Ac} {w0 w : World} {S : List Nat} (H : Ctx w0 S w (LX bx a acs.length c full bd b nx o)) (O : OS a acs.length c 2 full (acs.flatMap encA)) : AcAt w 116 bx acs :=
  ⟨a, c, H.get at0, OS.rd O (fun x hx => H.blk x (List.mem_cons_of_mem _ (List.mem_cons_of_mem _ (List.mem_cons_of_mem _ hx)))) (fun _ _ => rfl) (by decide)⟩
theorem LX.du {bx : Nat} {a : Option Addr} {n c : Nat} {full : List Value} {bd b : Nat} {nx : Int} {o : Obj} {ds : List Du} {w0 w : World} {S : List Nat} (H : Ctx w0 S w (LX bx a n c full bd b nx o)) (hM : MapO .u64 (dm ds) o) : DuAt w bd ds :=
  ⟨b, nx, o, H.get at1, H.get at2, hM⟩
theorem RX.ac {ba : Nat} {a : Option Addr} {c : Nat} {full : List Value} {br : Nat} {ad : Option Addr} {m cd : Nat} {nx : Int} {fd : List Value} {acs : List Ac} {w0 w : World} {S : List Nat} (H : Ctx w0 S w (RX ba a acs.length c full br ad m cd nx fd)) (O : OS a acs.length c 2 full (acs.flatMap encA)) : AcAt w 52 ba acs :=
  ⟨a, c, H.get at0, OS.rd O (fun x hx => H.blk x (List.mem_cons_of_mem _ (List.mem_cons_of_mem _ (List.mem_append_right _ hx)))) (fun _ _ => rfl) (by decide)⟩
theorem RX.du {ba : Nat} {a : Option Addr} {n c : Nat} {full : List Value} {br : Nat} {ad : Option Addr} {cd : Nat} {nx : Int} {fd : List Value} {ds : List Du} {w0 w : World} {S : List Nat} (H : Ctx w0 S w (RX ba a n c full br ad ds.length cd nx fd)) (O : OS ad ds.length cd 7 fd (ds.flatMap encD)) : RdAt w br ds :=
  ⟨ad, cd, nx, H.get at1, OS.rd O (fun x hx => H.blk x (List.mem_cons_of_mem _ (List.mem_cons_of_mem _ (List.mem_append_left _ hx)))) (fun _ _ => rfl) (by decide)⟩
theorem ROff.old {w0 w : World} {S : List Nat} {L : List (Nat × Obj)} {q : RSl} {r : Rnd} (H : Ctx w0 S w L) (h : ROff q r (fun x => x < w.heap.size)) : ROff q r (· ∈ L.map (·.1)) :=
  h.mono fun x hx => by
    obtain ⟨y, hy, rfl⟩ := List.mem_map.1 hx
    exact heap_lt (H.blk y hy)
/-- Limits of a round that is held. -/
structure RBnd (r : Rnd) : Prop where
  N : I64 r.N
  es : r.es.length ≤ 1000000
  ids : r.ids.length ≤ 1000000
  fl : r.fl.length ≤ 1000000
  pot : r.pot.length ≤ 1000000
theorem plan_bnd {acs : List Ac} {ds : List Du} {net : Bool} {r : Rnd} (P : PlanR acs ds net r) : RBnd r := by
  obtain ⟨h1, h2, -⟩ := check_iff.1 P.chk
  obtain ⟨g1, g2, g3, -⟩ := right_of (within_of (flows_of h1).1).2.1
  have g4 := (within_of (flows_of h1).1).1
  have g5 := (pot_in h2).1
  refine ⟨⟨by omega, by omega⟩, by omega, ?_, by omega, by omega⟩
  rw [P.ids, List.length_map]
  have : (opn ds).length ≤ r.es.length := by rw [P.es, rnd_len]; omega
  omega
/-- A plan of accounts and dues that make a round. -/
theorem plan_ctx {bx bd b c : Nat} {a : Option Addr} {full : List Value} {o : Obj} {acs : List Ac} {ds : List Du} {nx : Int} {w w0 : World} {S : List Nat} {B R : List (Nat × Obj)} (ha : aofC acs = 0) (hd : ofC ds nx = 0) (hb : brightB (acs.map roomV) ds = true) (net : Bool) (H : Ctx w0 S w (B ++ (LX bx a acs.length c full bd b nx o ++ R))) (O : OS a acs.length c 2 full (acs.flatMap encA)) (hM : MapO .u64 (dm ds) o) :
    Ret Tryz.prog 12 #[ptr bx, ptr bd, .bool net] w fun v w' => ∃ r q, v = .tuple #[.agg (rcells r q).toArray, .int .i64 0] ∧ PlanR acs ds net r ∧ RAt w' r q ∧ ROff q r (· ∈ (B ++ (LX bx a acs.length c full bd b nx o ++ R)).map (·.1)) ∧ Ext [] w w' ∧ Ctx w0 S w' (B ++ (LX bx a acs.length c full bd b nx o ++ R)) := by
  refine Ret.mono (plan_ok ha hd net w (LX.ac (Ctx.in' H) O) (LX.du (Ctx.in' H) hM)) fun v w' h => ?_
  obtain ⟨hx, ⟨h1, -⟩ | ⟨-, r, q, h2, P, RA, hoff⟩⟩ := h
  · rw [hb] at h1; cases h1
  · exact ⟨r, q, h2, P, RA, ROff.old H hoff, hx, H.call hx⟩
theorem apply_ctx {bx bd b c : Nat} {a : Option Addr} {full : List Value} {o : Obj} {acs : List Ac} {ds : List Du} {nx : Int} {r : Rnd} {q : RSl} {w w0 : World} {S : List Nat} {B R : List (Nat × Obj)} (ha : aofC acs = 0) (hd : ofC ds nx = 0) (H : Ctx w0 S w (B ++ (LX bx a acs.length c full bd b nx o ++ R))) (O : OS a acs.length c 2 full (acs.flatMap encA)) (hM : MapO .u64 (dm ds) o) (RA : RAt w r q) (hoff : ROff q r (· ∈ (LX bx a acs.length c full bd b nx o).map (·.1))) (hr : RBnd r) :
    Ret Tryz.prog 21 #[ptr bx, ptr bd, .agg (rcells r q).toArray] w fun v w' => v = .int .i64 (applyC acs ds r) ∧ ∃ full' o', OS a acs.length c 2 full' ((applyA acs ds r).flatMap encA) ∧ MapO .u64 (dm (applyD acs ds r)) o' ∧
      Ext ((LX bx a acs.length c full bd b nx o).map (·.1)) w w' ∧ Ctx w0 S w' (B ++ (LX bx a acs.length c full' bd b nx o' ++ R)) := by
  refine Ret.mono (apply_ok ha hd w (Ctx.in' H) O hM RA hoff hr.N hr.es hr.ids hr.fl hr.pot) fun v w' h => ?_
  obtain ⟨h1, full', o', O', hM', H'⟩ := h
  exact ⟨h1, full', o', O', hM', H'.ext, Ctx.mid H H'⟩
theorem r20apply_ctx {ba br : Nat} {a ad : Option Addr} {c cd : Nat} {full fd : List Value} {acs : List Ac} {ds : List Du} {nx : Int} {r : Rnd} {q : RSl} {w w0 : World} {S : List Nat} {B R : List (Nat × Obj)} (ha : aofC acs = 0) (hd : ofC ds nx = 0) (H : Ctx w0 S w (B ++ (RX ba a acs.length c full br ad ds.length cd nx fd ++ R))) (O : OS a acs.length c 2 full (acs.flatMap encA)) (OD : OS ad ds.length cd 7 fd (ds.flatMap encD)) (RA : RAt w r q) (hoff : ROff q r (· ∈ (RX ba a acs.length c full br ad ds.length cd nx fd).map (·.1))) (hr : RBnd r) :
    Ret Tryz.prog 22 #[ptr ba, ptr br, .agg (rcells r q).toArray] w fun v w' => v = .int .i64 (applyC acs ds r) ∧ ∃ full' ad' cd' fd', OS a acs.length c 2 full' ((applyA acs ds r).flatMap encA) ∧ OS ad' (applyD acs ds r).length cd' 7 fd' ((applyD acs ds r).flatMap encD) ∧
      Ext ((RX ba a acs.length c full br ad ds.length cd nx fd).map (·.1)) w w' ∧ Ctx w0 S w' (B ++ (RX ba a acs.length c full' br ad' (applyD acs ds r).length cd' nx fd' ++ R)) := by
  refine Ret.mono (r20apply_ok ha hd w (Ctx.in' H) O OD RA hoff hr.es hr.ids hr.fl hr.pot) fun v w' h => ?_
  obtain ⟨h1, full', ad', cd', fd', O', OD', H'⟩ := h
  exact ⟨h1, full', ad', cd', fd', O', OD', H'.ext, Ctx.mid H H'⟩
theorem ent_fst {a : Option Addr} {t : TypeId} {f g : List Value} : (ent a t f).map (·.1) = (ent a t g).map (·.1) := by cases a <;> rfl
theorem LX_fst {bx bd b n c : Nat} {a : Option Addr} {f g : List Value} {nx : Int} {o p : Obj} : (LX bx a n c f bd b nx o).map (·.1) = (LX bx a n c g bd b nx p).map (·.1) := by
  simp only [List.map_cons, ent_fst (f := f) (g := g)]
/-! ### The example -/
abbrev xA0 : List Ac := [⟨5, 0⟩, ⟨0, 0⟩]
abbrev xA1 : List Ac := [⟨0, 0⟩, ⟨5, 0⟩]
abbrev xD0 : List Du := [⟨1, 0, 1, 9, 1, 1, false⟩]
abbrev xD1 : List Du := [⟨1, 0, 1, 4, 1, 1, false⟩]
abbrev xE0 : List Ed := [⟨0, 1, 9, -1⟩, ⟨2, 0, 5, 0⟩, ⟨0, 2, 4503599627370496, 0⟩, ⟨2, 1, 0, 0⟩, ⟨1, 2, 4503599627370496, 0⟩]
theorem xe0 : roundE (xA0.map roomV) (opn xD0) false = xE0 := by decide
theorem xa0 : aofC xA0 = 0 := by decide
theorem xa1 : aofC xA1 = 0 := by decide
theorem xd0 : ofC xD0 2 = 0 := by decide
theorem xd1 : ofC xD1 2 = 0 := by decide
theorem xb0 : brightB (xA0.map roomV) xD0 = true := by decide
theorem xb1 : brightB (xA1.map roomV) xD1 = true := by decide
theorem take_one7 {l : List Int} (h : 0 < l.length) : l.take 1 = [flE l 0] := by
  cases l with
  | nil => exact absurd h (by decide)
  | cons x l => rfl
theorem xplan0 {r : Rnd} (P : PlanR xA0 xD0 false r) : applyC xA0 xD0 r = 0 ∧ applyA xA0 xD0 r = xA1 ∧ applyD xA0 xD0 r = xD1 := by
  have hC := plan_zero xb0 P
  have F := apply_zero xa0 xd0 hC
  obtain ⟨p1, p2, p3, p4⟩ := plan_fine P
  have hes := P.es.trans xe0
  have hN : r.N = 3 := P.N
  have hcmp := P.cmp
  have hlen : r.fl.length = 5 := by rw [F.len, hes]; rfl
  have hg := grE_ok p1
  rw [hN, hes] at p3 p4 hg
  obtain ⟨x, hx⟩ : ∃ x, x = flE r.fl := ⟨_, rfl⟩
  rw [← hx] at p3 p4
  have o0 := p3 0 (by decide)
  have o1 := p3 1 (by decide)
  have i0 := p4.in' 0 (by decide)
  have i1 := p4.in' 1 (by decide)
  have i2 := p4.in' 2 (by decide)
  have i3 := p4.in' 3 (by decide)
  have hbest := Fine.best hg p4 p3 (y := fun i => [5, 5, 0, 0, 5].getD i 0) (fun i hi => by
    have hi' : i < 5 := hi
    match i, hi' with
    | 0, _ => decide
    | 1, _ => decide
    | 2, _ => decide
    | 3, _ => decide
    | 4, _ => decide) (fun v hv => by
    have hv' : v < 3 := hv
    match v, hv' with
    | 0, _ => decide
    | 1, _ => decide
    | 2, _ => decide)
  have hc1 : costs (grE 3 xE0) (fun i => [5, 5, 0, 0, 5].getD i 0) = -5 := by decide
  have hc2 : costs (grE 3 xE0) x = -(x 0) := by
    show 0 + x 0 * -1 + x 1 * 0 + x 2 * 0 + x 3 * 0 + x 4 * 0 = _
    omega
  have e0 : over7 (grE 3 xE0) x 0 = -(x 0) + x 1 - x 2 := by
    show 0 + (0 - 1) * x 0 + (1 - 0) * x 1 + (0 - 1) * x 2 + (0 - 0) * x 3 + (0 - 0) * x 4 = _
    omega
  have c1 : capE xE0 1 = 5 := rfl
  have h5 : x 0 = 5 := by
    rw [hc1, hc2] at hbest
    rw [e0] at o0
    rw [c1] at i1
    omega
  have hby : ∀ k, byK (xA0.map roomV) (opn xD0) r.cmp r.fl k = (one (1 = k) - one (0 = k)) * 5 := fun k => by
    have : byK (xA0.map roomV) (opn xD0) r.cmp r.fl k = 0 + (one (1 = k) - one (0 = k)) * x 0 := by rw [hcmp, hx]; rfl
    rw [this, h5, Int.zero_add]
  refine ⟨hC, ?_, ?_⟩
  · have hl := (apply_inv (r := r) xa0 xd0).2.2
    refine List.ext_getElem? fun i => ?_
    match i with
    | 0 => rw [apply_get xa0 xd0 hC (k := 0) rfl, hby]; rfl
    | 1 => rw [apply_get xa0 xd0 hC (k := 1) rfl, hby]; rfl
    | i + 2 => rw [List.getElem?_eq_none (by rw [hl]; simp), List.getElem?_eq_none (by simp)]
  · unfold applyD
    rw [if_pos hC]
    show leftL xD0 (r.fl.take 1) = _
    rw [take_one7 (by omega), ← hx, h5]
    rfl
theorem xplan1 {r : Rnd} (P : PlanR xA1 xD1 true r) : applyC xA1 xD1 r = 0 ∧ applyA xA1 xD1 r = xA1 ∧ applyD xA1 xD1 r = xD1 := by
  have hC := plan_zero xb1 P
  have F := apply_zero xa1 xd1 hC
  obtain ⟨p1, p2, p3, p4⟩ := plan_fine P
  have hes : r.es = [⟨0, 1, 4, -1⟩] := P.es.trans (by decide)
  have hN : r.N = 3 := P.N
  have hcmp := P.cmp
  have hlen : r.fl.length = 1 := by rw [F.len, hes]; rfl
  rw [hN, hes] at p3
  obtain ⟨x, hx⟩ : ∃ x, x = flE r.fl := ⟨_, rfl⟩
  rw [← hx] at p3
  have o0 := p3 0 (by decide)
  have e0 : over7 (grE 3 [⟨0, 1, 4, -1⟩]) x 0 = -(x 0) := by
    show 0 + (0 - 1) * x 0 = _
    omega
  have h5 : x 0 = 0 := by rw [e0] at o0; omega
  have hby : ∀ k, byK (xA1.map roomV) (opn xD1) r.cmp r.fl k = 0 := fun k => by
    have : byK (xA1.map roomV) (opn xD1) r.cmp r.fl k = 0 + (one (1 = k) - one (0 = k)) * x 0 := by rw [hcmp, hx]; rfl
    rw [this, h5, Int.mul_zero]; rfl
  refine ⟨hC, ?_, ?_⟩
  · have hl := (apply_inv (r := r) xa1 xd1).2.2
    refine List.ext_getElem? fun i => ?_
    match i with
    | 0 => rw [apply_get xa1 xd1 hC (k := 0) rfl, hby]; rfl
    | 1 => rw [apply_get xa1 xd1 hC (k := 1) rfl, hby]; rfl
    | i + 2 => rw [List.getElem?_eq_none (by rw [hl]; simp), List.getElem?_eq_none (by simp)]
  · unfold applyD
    rw [if_pos hC]
    show leftL xD1 (r.fl.take 1) = _
    rw [take_one7 (by omega), ← hx, h5]
    rfl
/-- The round is none of now any more. -/
theorem xplan2 {r : Rnd} (P : PlanR xA0 xD0 false r) : applyC xA1 xD1 r = 3 := by
  have h : nowB xA1 xD1 r = false := by
    unfold nowB
    rw [P.cmp, P.es]
    have : decide (roundE (xA1.map roomV) (opn xD1) false = roundE (xA0.map roomV) (opn xD0) false) = false := by decide
    rw [this]
    simp
  unfold applyC
  rw [P.chk, if_neg (by decide), if_pos h]
set_option maxRecDepth 20000 in
set_option maxHeartbeats 4000000 in
theorem works20_ok (w : World) : Ret Tryz.prog 10 #[] w fun v w' => v = .bool true ∧ Ext [] w w' := by
  obtain ⟨w0, rfl⟩ : ∃ w0, w0 = w := ⟨_, rfl⟩
  have H := Ctx.start w0 []
  refine ret_of_W (fn := Tryz.f10) Tryz.func10 rfl [] rfl (by kernel_rfl) ?_
  refine W_rseq ?_
  refine op_assign rfl (.bool _) rfl ?_
  refine op_nil (at_then ?_)
  refine W_rseq ?_
  refine op_buildS [.int .i64 5, .int .i64 0] rfl pl_64_SrF zc_64_SrF (by kernel_rfl) ?_
  refine op_buildS [.int .i64 0, .int .i64 0] rfl pl_64_SrF zc_64_SrF (by kernel_rfl) ?_
  refine op_buildL [.int .i64 5, .int .i64 0, .int .i64 0, .int .i64 0] rfl el_22_SrF sz_64_SrF zc_64_SrF (by decide) (by decide) (by kernel_rfl) H ?_
  rintro b18 w - H
  refine op_call rfl ca_50_SrF (aof_ok _ 2 2 xA0 _ (Rd.of_bl (H.get at0) (r := []) rfl (fun _ _ => rfl)) rfl (by omega)) rfl ?_
  rintro v w ⟨p, rfl, -, hs, hx19⟩
  obtain ⟨bx, a, c, full, hp, i1, i2, i3, i4⟩ := hs xa0
  subst hp
  rw [xa0]
  replace H := (H.callEnt (E := (bx, Bl 116 [.slice a 2 c]) :: ent a 64 full) hx19 (fun x hx => (List.mem_cons.1 hx).elim (fun h => by subst h; exact ⟨i1, i4⟩) (fun h => ⟨(i3 x h).1, (i3 x h).2.1⟩)) (ent_cons fun x hx => (i3 x hx).2.2)).right
  refine op_move rfl (.tuple _) rfl ?_
  refine op_extract rfl rfl rfl ?_
  refine op_extract rfl rfl rfl ?_
  refine op_assign rfl (.pointer _) rfl ?_
  refine op_assign rfl (.int _ _) rfl ?_
  refine op_nil (at_then ?_)
  refine W_rseq ?_
  refine op_call rfl ca_51_SrF (dnew_ok _) rfl ?_
  rintro v w ⟨bd, b, o, rfl, hM, F⟩
  replace H := H.callEnt F.ext (fun x hx => ⟨F.blk x hx, (F.own x hx).elim (fun h => by cases h) id⟩) F.nd
  replace H : Ctx w0 [] w ([(bd, Bl 123 (DU b 1)), (b, o)] ++ ((bx, Bl 116 [.slice a 2 c]) :: ent a 64 full)) := H.comm
  refine op_assign rfl (.pointer _) rfl ?_
  refine op_nil (at_then ?_)
  refine W_rseq ?_
  refine op_move rfl (.pointer _) rfl ?_
  refine op_call rfl ca_52_SrF (dadd_ok (d := ⟨1, 0, 1, 9, 1, 1, false⟩) _ (H.get at0) (H.get at1) hM (H.ne at0 at1 (by decide)) rfl rfl (by decide) (by decide) (by decide) (fun _ h => by cases h) (by decide)) rfl ?_
  rintro v w ⟨rfl, o1, hM1, H2⟩
  replace H := Ctx.back (L1 := [_, _]) H H2
  replace H : Ctx w0 [] w ([] ++ (LX bx a xA0.length c full bd b 2 o1 ++ [])) := H.perm (by rw [List.append_nil]; exact permX7 _ _ _ _)
  refine op_move rfl (.tuple _) rfl ?_
  refine op_extract rfl rfl rfl ?_
  refine op_extract rfl rfl rfl ?_
  refine op_assign rfl (.int _ _) rfl ?_
  refine op_assign rfl (.int _ _) rfl ?_
  refine op_nil (at_then ?_)
  refine W_seq ?_
  refine W_rseq ?_
  refine op_move rfl (.int _ _) rfl ?_
  refine op_neq rfl rfl rfl ?_
  refine op_move rfl (.bool _) rfl ?_
  refine op_move rfl (.int _ _) rfl ?_
  refine op_neq rfl rfl rfl ?_
  refine op_pick0 rfl rfl (.bool _) rfl ?_
  refine op_nil (at_then ?_)
  refine W_cond0 rfl ?_
  refine W_skip (at_then ?_)
  refine W_rseq ?_
  refine op_move rfl (.pointer _) rfl ?_
  refine op_move rfl (.pointer _) rfl ?_
  refine op_call rfl ca_12_SrF (plan_ctx xa0 xd0 xb0 false H i2 hM1) rfl ?_
  rintro v w ⟨r, q, rfl, P, RA, hoff, -, H37⟩
  obtain ⟨w37, rfl⟩ : ∃ z, z = w := ⟨_, rfl⟩
  obtain ⟨S37, hS37⟩ : ∃ S : List Nat, S = ([] ++ (LX bx a xA0.length c full bd b 2 o1 ++ [])).map (fun x : Nat × Obj => x.1) := ⟨_, rfl⟩
  rw [← hS37] at hoff
  have hoL : ∀ (f : List Value) (p : Obj), ROff q r (· ∈ (LX bx a xA0.length c f bd b 2 p).map (·.1)) := fun f p => hoff.mono fun x hx => (by rw [hS37, List.nil_append, List.append_nil, LX_fst (g := f) (p := p)]; exact hx)
  have H : Ctx w37 S37 w37 ((bx, Bl 116 [.slice a 2 c]) :: (bd, Bl 123 (DU b 2)) :: (b, o1) :: (ent a 64 full ++ [])) := by rw [hS37]; exact Ctx.lend (L2 := []) (by rw [List.append_nil]; exact H37)
  refine op_move rfl (.tuple _) rfl ?_
  refine op_extract rfl rfl rfl ?_
  refine op_extract rfl rfl rfl ?_
  refine op_alloc rfl zc_33_SrF H ?_
  rintro b6 w - H
  refine op_stb0 rfl sz_33_SrF rfl rfl rfl (by simp [oneCell]) H (by first | exact at0 | exact at1 | exact at2 | exact at3 | exact at4 | exact at5 | exact at6 | exact at7 | exact at8 | exact at9) rfl ?_
  rintro w H
  refine op_assign rfl (.int _ _) rfl ?_
  refine op_nil (at_then ?_)
  refine W_rseq ?_
  refine op_move rfl (.pointer _) rfl ?_
  refine op_move rfl (.pointer _) rfl ?_
  refine op_ldbN rfl ag_33_SrF sz_33_SrF rfl H (by first | exact at0 | exact at1 | exact at2 | exact at3 | exact at4 | exact at5 | exact at6 | exact at7 | exact at8 | exact at9) rfl ?_
  refine op_call rfl ca_21_SrF (apply_ctx (B := [(b6, _)]) (R := []) xa0 xd0 H i2 hM1 (RA.ext H.ext hoff) (hoL _ _) (plan_bnd P)) rfl ?_
  rintro v w ⟨rfl, full1, o2, O1, hM2, -, H⟩
  rw [(xplan0 P).1]
  rw [(xplan0 P).2.1] at O1
  rw [(xplan0 P).2.2] at hM2
  replace H : Ctx w37 S37 w ((b6, Bl 33 (rcells r q)) :: (bx, Bl 116 [.slice a 2 c]) :: (bd, Bl 123 (DU b 2)) :: (b, o2) :: (ent a 64 full1 ++ [])) := H
  have RA1 : Rd w a 2 encA xA1 := OS.rd O1 (fun x hx => H.blk x (List.mem_append_right [_, _, _, _] (List.mem_append_left _ hx))) (fun _ _ => rfl) (by decide)
  refine op_assign rfl (.int _ _) rfl ?_
  refine op_nil (at_then ?_)
  refine W_rseq ?_
  refine op_move rfl (.pointer _) rfl ?_
  refine op_call rfl ca_53_SrF (aget_ok a 2 c xA1 1 _ (H.get at1) RA1 rfl (by omega)) rfl ?_
  rintro v w ⟨rfl, hx46⟩
  replace H := H.call hx46
  rw [show getA xA1 1 = ⟨5, 0⟩ from rfl]
  refine op_move rfl (.tuple _) rfl ?_
  refine op_extract rfl rfl rfl ?_
  refine op_extract rfl rfl rfl ?_
  refine op_alloc rfl zc_64_SrF H ?_
  rintro b9 w - H
  refine op_stb0 rfl sz_64_SrF rfl rfl rfl (by simp [oneCell]) H (by first | exact at0 | exact at1 | exact at2 | exact at3 | exact at4 | exact at5 | exact at6 | exact at7 | exact at8 | exact at9) rfl ?_
  rintro w H
  refine op_assign rfl (.bool _) rfl ?_
  refine op_nil (at_then ?_)
  refine W_rseq ?_
  refine op_move rfl (.pointer _) rfl ?_
  refine op_call rfl ca_54_SrF (dget_ok (k := 1) _ (H.get at3) (H.get at4) hM2) rfl ?_
  rintro v w ⟨rfl, hx51⟩
  replace H := H.call hx51
  rw [show getD7 xD1 1 = ⟨1, 0, 1, 4, 1, 1, false⟩ from rfl]
  refine op_move rfl (.tuple _) rfl ?_
  refine op_extract rfl rfl rfl ?_
  refine op_extract rfl rfl rfl ?_
  refine op_alloc rfl zc_62_SrF H ?_
  rintro b11 w - H
  refine op_stb0 rfl sz_62_SrF rfl rfl rfl (by simp [oneCell]) H (by first | exact at0 | exact at1 | exact at2 | exact at3 | exact at4 | exact at5 | exact at6 | exact at7 | exact at8 | exact at9) rfl ?_
  rintro w H
  refine op_assign rfl (.bool _) rfl ?_
  refine op_nil (at_then ?_)
  refine W_rseq ?_
  refine op_move rfl (.pointer _) rfl ?_
  refine op_move rfl (.pointer _) rfl ?_
  refine op_call rfl ca_12_SrF (plan_ctx (B := [_, _, _]) (R := []) xa1 xd1 xb1 true H O1 hM2) rfl ?_
  rintro v w ⟨r', q', rfl, P', RA', hoff', -, H57⟩
  obtain ⟨no, day, cmp, ids, N, es, fl, pot⟩ := r'
  have hcmp := P'.cmp
  dsimp only at hcmp
  subst hcmp
  obtain ⟨w57, rfl⟩ : ∃ z, z = w := ⟨_, rfl⟩
  obtain ⟨L57, hL57⟩ : ∃ L, L = [(b11, Bl 62 (encD ⟨1, 0, 1, 4, 1, 1, false⟩)), (b9, Bl 64 (encA ⟨5, 0⟩)), (b6, Bl 33 (rcells r q))] ++ (LX bx a xA1.length c full1 bd b 2 o2 ++ []) := ⟨_, rfl⟩
  obtain ⟨S57, hS57⟩ : ∃ S : List Nat, S = L57.map (fun x : Nat × Obj => x.1) := ⟨_, rfl⟩
  replace H57 : Ctx w37 S37 w57 (L57 ++ []) := by rw [hL57, List.append_nil]; exact H57
  replace hoff' : ROff q' ⟨no, day, true, ids, N, es, fl, pot⟩ (· ∈ S57) := by rw [hS57, hL57]; exact hoff'
  have hoL' : ∀ (f : List Value) (p : Obj), ROff q' ⟨no, day, true, ids, N, es, fl, pot⟩ (· ∈ (LX bx a xA0.length c f bd b 2 p).map (·.1)) := fun f p => hoff'.mono fun x hx => (by rw [hS57, hL57, List.map_append, List.append_nil, LX_fst (g := f) (p := p)]; exact List.mem_append_right _ hx)
  have H := Ctx.lend H57
  rw [← hS57, hL57] at H
  replace H : Ctx w57 S57 w57 ((b11, Bl 62 (encD ⟨1, 0, 1, 4, 1, 1, false⟩)) :: (b9, Bl 64 (encA ⟨5, 0⟩)) :: (b6, Bl 33 (rcells r q)) :: (bx, Bl 116 [.slice a 2 c]) :: (bd, Bl 123 (DU b 2)) :: (b, o2) :: (ent a 64 full1 ++ [])) := H
  refine op_move rfl (.tuple _) rfl ?_
  refine op_extract rfl rfl rfl ?_
  refine op_extract rfl rfl rfl ?_
  refine op_alloc rfl zc_33_SrF H ?_
  rintro b13 w - H
  refine op_stb0 rfl sz_33_SrF rfl rfl rfl (by simp [oneCell]) H (by first | exact at0 | exact at1 | exact at2 | exact at3 | exact at4 | exact at5 | exact at6 | exact at7 | exact at8 | exact at9) rfl ?_
  rintro w H
  refine op_assign rfl (.int _ _) rfl ?_
  refine op_nil (at_then ?_)
  refine W_rseq ?_
  refine op_move rfl (.int _ _) rfl ?_
  refine op_eql rfl rfl rfl ?_
  refine op_move rfl (.bool _) rfl ?_
  refine op_move rfl (.int _ _) rfl ?_
  refine op_eql rfl rfl rfl ?_
  refine op_pick1 rfl rfl (.bool _) rfl ?_
  refine op_move rfl (.bool _) rfl ?_
  refine op_fieldAddr rfl fo_64_0_SrF rfl ?_
  refine op_ldb rfl ag_2_SrF rfl H (by first | exact at0 | exact at1 | exact at2 | exact at3 | exact at4 | exact at5 | exact at6 | exact at7 | exact at8 | exact at9) rfl ?_
  refine op_eql rfl rfl rfl ?_
  refine op_pick1 rfl rfl (.bool _) rfl ?_
  refine op_move rfl (.bool _) rfl ?_
  refine op_fieldAddr rfl fo_62_3_SrF rfl ?_
  refine op_ldb rfl ag_2_SrF rfl H (by first | exact at0 | exact at1 | exact at2 | exact at3 | exact at4 | exact at5 | exact at6 | exact at7 | exact at8 | exact at9) rfl ?_
  refine op_eql rfl rfl rfl ?_
  refine op_pick1 rfl rfl (.bool _) rfl ?_
  refine op_move rfl (.bool _) rfl ?_
  refine op_move rfl (.int _ _) rfl ?_
  refine op_eql rfl rfl rfl ?_
  refine op_pick1 rfl rfl (.bool _) rfl ?_
  refine op_move rfl (.bool _) rfl ?_
  refine op_fieldAddr rfl fo_33_2_SrF rfl ?_
  refine op_ldb rfl ag_4_SrF rfl H (by first | exact at0 | exact at1 | exact at2 | exact at3 | exact at4 | exact at5 | exact at6 | exact at7 | exact at8 | exact at9) rfl ?_
  refine op_pick1 rfl rfl (.bool _) rfl ?_
  refine op_move rfl (.bool _) rfl ?_
  refine op_move rfl (.pointer _) rfl ?_
  refine op_move rfl (.pointer _) rfl ?_
  refine op_ldbN rfl ag_33_SrF sz_33_SrF rfl H (by first | exact at0 | exact at1 | exact at2 | exact at3 | exact at4 | exact at5 | exact at6 | exact at7 | exact at8 | exact at9) rfl ?_
  refine op_call rfl ca_21_SrF (apply_ctx (B := [_, _, _, _]) (R := []) xa1 xd1 H O1 hM2 (RA'.ext H.ext hoff') (hoL' _ _) (plan_bnd P')) rfl ?_
  rintro v w ⟨rfl, full2, o3, O2, hM3, -, H⟩
  rw [(xplan1 P').1]
  rw [(xplan1 P').2.1] at O2
  rw [(xplan1 P').2.2] at hM3
  refine op_eql rfl rfl rfl ?_
  refine op_pick1 rfl rfl (.bool _) rfl ?_
  refine op_move rfl (.bool _) rfl ?_
  refine op_move rfl (.pointer _) rfl ?_
  refine op_move rfl (.pointer _) rfl ?_
  refine op_ldbN rfl ag_33_SrF sz_33_SrF rfl H (by first | exact at0 | exact at1 | exact at2 | exact at3 | exact at4 | exact at5 | exact at6 | exact at7 | exact at8 | exact at9) rfl ?_
  refine op_call rfl ca_21_SrF (apply_ctx (B := [_, _, _, _]) (R := []) xa1 xd1 H O2 hM3 (RA.ext (Ctx.back H57 (by rw [← hS57]; exact H)).ext hoff) (hoL _ _) (plan_bnd P)) rfl ?_
  rintro v w ⟨rfl, full3, o4, -, -, -, H⟩
  rw [xplan2 P]
  refine op_eql rfl rfl rfl ?_
  refine op_pick1 rfl rfl (.bool _) rfl ?_
  refine op_assign rfl (.bool _) rfl ?_
  refine op_nil (at_then ?_)
  refine W_ret (leave1 (v := (.bool _)) rfl rfl rfl ?_)
  rw [hS57] at H
  have HB := Ctx.back H57 H
  rw [hS37] at HB
  exact ⟨rfl, (Ctx.back (L2 := []) (by rw [List.append_nil]; exact H37) HB).ext⟩
end Go.Proofs.YtapphbmlkdhnmaaGreat
