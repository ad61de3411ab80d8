/- Part 8 of the proof. -/
import Derived.Test.YtbkadlngijkmmaaGreatDoorPart7
import Derived.Test.YtbkadlngijkmmaaGreatDoorPart4
import Derived.Sort.OwnSortedInts
import Derived.Test.YtbkadlngijkmmaaGreatDoorPart3
/- The root of what the uppermost node has: the walk. -/
namespace Go.Proofs.YtbkadlngijkmmaaGreatDoor
open Go.GV
theorem ag_114_TrV : aggB Tryz.prog 114 = some false := by kernel_rfl
theorem ag_116_TrV : aggB Tryz.prog 116 = some true := by kernel_rfl
theorem ca_169_TrV : callable Tryz.prog 169 = true := by kernel_rfl
theorem ca_80_TrV : callable Tryz.prog 80 = true := by kernel_rfl
theorem el_114_TrV : elemT Tryz.prog 114 = some 120 := by kernel_rfl
theorem fo_116_0_TrV : fieldO Tryz.prog 116 0 = some 0 := by kernel_rfl
theorem fo_116_1_TrV : fieldO Tryz.prog 116 1 = some 1 := by kernel_rfl
theorem fo_120_2_TrV : fieldO Tryz.prog 120 2 = some 2 := by kernel_rfl
theorem pl_116_TrV : placesB Tryz.prog 116 = some [(0, 1), (1, 1)] := by kernel_rfl
theorem sz_116_TrV : tsize Tryz.prog 116 = some 2 := by kernel_rfl
theorem sz_120_TrV : tsize Tryz.prog 120 = some 3 := by kernel_rfl
theorem zc_116_TrV : zcells Tryz.prog 116 = some ([.bool false, .slice none 0 0]) := by kernel_rfl
theorem zc_120_TrV : zcells Tryz.prog 120 = some ([.slice none 0 0, .slice none 0 0, .int .i64 0]) := by kernel_rfl
attribute [local irreducible] Wops W Wq Wt

theorem takeP_len (P : List Nat) : (takeP' P).length = P.length := by
  unfold takeP'; split
  · rfl
  · simp
theorem wrC_len {fr : Nat} {c : Ch} {i : Bool} {M : List It} : (wrC fr c i M).2.P.length = c.P.length := by
  unfold wrC
  split
  · rfl
  · split
    · exact takeP_len _
    · exact takeP_len _
theorem putF_sz {fr : Nat} {i : Bool} : ∀ {Hs : List (List It)} {c : Ch} {acc : List It}, c.P.length ≤ 4096 → (∀ h ∈ Hs, (keyOf0 h).length ≤ 65535) → (∀ x ∈ acc, x.key.length ≤ 65535 ∧ x.val.length ≤ 65535 ∧ x.page ≤ 4096) → ∀ x ∈ (putF fr i Hs c acc).2.2, x.key.length ≤ 65535 ∧ x.val.length ≤ 65535 ∧ x.page ≤ 4096
  | [], c, acc, _, _, ha => ha
  | h :: Hs, c, acc, hP, hk, ha => by
    unfold putF
    split
    · refine putF_sz (by rw [wrC_len]; exact hP) (fun h hh => hk h (List.mem_cons_of_mem _ hh)) fun x hx => ?_
      rcases List.mem_append.1 hx with hx | hx
      · exact ha x hx
      · rw [List.mem_singleton.1 hx]
        have := takeK_le c.P
        exact ⟨hk h (List.mem_cons_self ..), by simp, by dsimp only; omega⟩
    · intro x hx; cases hx
theorem putC_sz {fr : Nat} {c : Ch} {i : Bool} {M : List It} (hP : c.P.length ≤ 4096) (hM : ∀ x ∈ M, x.key.length ≤ 65535) : ∀ x ∈ (putC fr c i M).2.2, x.key.length ≤ 65535 ∧ x.val.length ≤ 65535 ∧ x.page ≤ 4096 := by
  unfold putC
  split
  · intro x hx; cases hx
  · refine putF_sz hP (fun h hh => ?_) (fun x hx => by cases hx)
    unfold keyOf0
    cases h0 : h[0]? with
    | none => simp
    | some y => exact hM y ((halves_mem hh).2 y (List.mem_of_getElem? h0))

set_option maxRecDepth 20000 in
set_option maxHeartbeats 8000000 in
theorem top7_ok {w : World} {bt bd bp ba fr bc : Nat} {c : Ch} {F : Mut} {L : List (Nat × Obj)} (X : Cx w bt bd bp ba fr bc c F L) (hfr : fr ≤ 5000) (htk : c.tk.length ≤ 99980) (inner : Bool) {a : Option Addr} {n cc : Nat} {M : List It} (Z : Mut) (hZ : ∀ x, Z x → x < w.heap.size) (I : Its w (MZ (TM F ba bt bp L) Z) a n cc M)
    {mx : Nat} (hfew : Few c.A mx) (hmx : mx ≤ 999999980) (hok : (topC fr c inner M).1 ≠ 99) :
    Ret Tryz.prog 132 #[ptr bc, .agg #[.bool inner, .slice a n cc]] w fun v w' => ∃ (p : Int) (F' : Mut) (L' : List (Nat × Obj)), v = .tuple #[.int .i64 p, .int .i64 (topC fr c inner M).1] ∧ Cx w' bt bd bp ba fr bc (topC fr c inner M).2.1 F' L' ∧ Grown (TM F ba bt bp L) (TM F' ba bt bp L') w w' ∧ ((topC fr c inner M).1 = 0 → p = (topC fr c inner M).2.2) := by
  obtain ⟨w0, rfl⟩ : ∃ w0, w0 = w := ⟨_, rfl⟩
  have hnum := I.num
  obtain ⟨tc, htc⟩ : ∃ tc, tc = topC fr c inner M := ⟨_, rfl⟩
  rw [← htc] at hok ⊢
  unfold topC at htc
  have E0 := Fr.start X hZ
  have H := Ctx.start w0 []
  refine ret_of_W (fn := Tryz.f132) Tryz.func132 rfl [.pointer (some ⟨bc, 0, none⟩), .agg #[.bool inner, .slice a n cc]] rfl (by kernel_rfl) ?_
  refine W_rseq ?_
  refine op_box rfl [.bool inner, .slice a n cc] (.agg _) rfl rfl H ?_
  rintro b3 w - H
  refine op_assign rfl (.int _ _) rfl ?_
  refine op_assign rfl (.int _ _) rfl ?_
  refine op_nil (at_then ?_)
  refine W_seq ?_
  refine W_rseq (Wops_join (α := Unit) 261120 (fun _ => [(17, .bool (inner && decide (n = 1)))]) (fun _ w' => Ctx w0 [] w' [(b3, Bl 116 [.bool inner, .slice a n cc])]) rfl ?_ ?_)
  · refine op_fieldAddr rfl fo_116_0_TrV rfl ?_
    refine op_ldb rfl ag_4 rfl H (by first | exact at0 | exact at1 | exact at2 | exact at3 | exact at4 | exact at5 | exact at6 | exact at7 | exact at8 | exact at9) rfl ?_
    refine op_move rfl (.bool _) rfl ?_
    refine Wops_split 12 rfl ?_ ?_
    · intro h1
      refine op_fieldAddr rfl fo_116_1_TrV rfl ?_
      refine op_ldb rfl ag_114_TrV rfl H (by first | exact at0 | exact at1 | exact at2 | exact at3 | exact at4 | exact at5 | exact at6 | exact at7 | exact at8 | exact at9) rfl ?_
      refine op_len rfl el_114_TrV rfl ?_
      refine op_eql rfl rfl rfl ?_
      refine op_pick1 rfl rfl (.bool _) rfl ?_
      refine op_nil ?_
      exact ⟨rfl, (), rfl, ⟨congrArg Value.bool (by (first | rw [h2] | rw [h1]); (try rw [Bool.eq_iff_iff]); simp; try omega), trivial⟩, H⟩
    · intro h2
      refine op_skip rfl ?_
      refine op_skip rfl ?_
      refine op_skip rfl ?_
      refine op_skip rfl ?_
      refine op_pick0 rfl rfl (.bool _) rfl ?_
      refine op_nil ?_
      exact ⟨rfl, (), rfl, ⟨congrArg Value.bool (by (first | rw [h2] | rw [h1]); (try rw [Bool.eq_iff_iff]); simp; try omega), trivial⟩, H⟩
  rintro - j17 w H
  refine W_cond _ rfl ?_ ?_
  · intro hA
    have hfw : few1 inner M = true := by unfold few1; rw [← hnum]; exact hA
    rw [if_pos hfw] at htc
    have hn1 : n = 1 := by simp at hA; exact hA.2
    obtain ⟨E1, g1⟩ := E0.own H
    have I1 := (I.weak MY.nil).turn g1
    replace H := E1.O.ctx
    obtain ⟨ms, R, -, hl, hok1⟩ := I1.ex
    have hml : ms.length = n := by rw [hnum, ← hl, List.length_map]
    obtain ⟨x, hx1⟩ := get_some (l := ms) (i := 0) (by omega)
    have hxL := Im.at hl hx1
    have hpa : pageAt M 0 = x.it.page := by unfold pageAt; rw [hxL]; rfl
    refine W_rseq ?_
    refine op_fieldAddr rfl fo_116_1_TrV rfl ?_
    first | refine op_ldb rfl ag_114_TrV rfl H (by first | exact at0 | exact at1 | exact at2 | exact at3 | exact at4 | exact at5 | exact at6 | exact at7 | exact at8 | exact at9) rfl ?_ | refine op_ld rfl ag_114_TrV rfl (R.fld hx1 rfl (j := 2) rfl) ?_
    first | refine op_indexRd R rfl el_114_TrV sz_120_TrV rfl rfl (by omega) (by omega) (by first | rfl | omega) ?_ | refine op_indexAddr rfl el_114_TrV sz_120_TrV rfl rfl (by omega) (by omega) ?_
    refine op_fieldAddr rfl fo_120_2_TrV rfl ?_
    first | refine op_ldb rfl ag_3 rfl H (by first | exact at0 | exact at1 | exact at2 | exact at3 | exact at4 | exact at5 | exact at6 | exact at7 | exact at8 | exact at9) rfl ?_ | refine op_ld rfl ag_3 rfl (R.fld hx1 rfl (j := 2) rfl) ?_
    refine op_assign rfl (.int _ _) rfl ?_
    refine op_assign rfl (.int _ _) rfl ?_
    refine op_nil (at_then ?_)
    refine W_ret (ret_then (leave2 (v1 := (.int _ _)) (v2 := (.int _ _)) rfl rfl rfl rfl ?_))
    exact ⟨_, F, L, by rw [htc], by rw [htc]; exact E1.X, E1.GT, fun _ => by rw [htc, hpa]⟩
  · intro hA
    have hfw : ¬ few1 inner M = true := by unfold few1; rw [← hnum, hA]; simp
    rw [if_neg hfw] at htc
    obtain ⟨q, hq⟩ : ∃ q, q = putS fr c inner M := ⟨_, rfl⟩
    rw [← hq] at htc
    have hok8 : q.1 ≠ 99 := fun h => hok (by rw [htc, if_pos (by rw [h]; decide)]; exact h)
    obtain ⟨hokM, hqc⟩ := putS_99 (fr := fr) (c := c) (i := inner) (M := M) (by rw [← hq]; exact hok8)
    rw [← hq] at hqc
    obtain ⟨m1, m2, m3, m4⟩ := okM_of hokM
    obtain ⟨qb1, qb2, qb3, qb4⟩ := putS_bnd (fr := fr) (c := c) (i := inner) (M := M) (m := mx)
    rw [← hq] at qb1 qb2 qb3 qb4
    have hsz := putC_sz (fr := fr) (c := c) (i := inner) (M := M) X.T.pg.len (fun x hx => (m2 x hx).1)
    rw [← hqc] at hsz
    obtain ⟨E1, g1⟩ := E0.own H
    have I1 := (I.weak MY.nil).turn g1
    replace H := E1.O.ctx
    refine W_skip (at_then ?_)
    refine W_rseq ?_
    refine op_move rfl (.pointer _) rfl ?_
    refine op_ldbN rfl ag_116_TrV sz_116_TrV rfl H (by first | exact at0 | exact at1 | exact at2 | exact at3 | exact at4 | exact at5 | exact at6 | exact at7 | exact at8 | exact at9) rfl ?_
    refine op_call rfl ca_169_TrV (put7_ok E1.X hfr (by omega) inner (MY Z _) E1.zlt (I1.weak MYZ) (by omega) m2 m3 m4 hfew (by omega)) rfl ?_
    rintro v w9 ⟨qa, qn, qc, F9, L9, rfl, X9, g9, Q9⟩
    rw [← hqc] at X9 Q9
    rw [← hqc]
    obtain ⟨E9, gg9⟩ := E1.call X9 g9
    have hqn := Q9.num
    replace H := E9.O.ctx
    refine op_move rfl (.tuple _) rfl ?_
    refine op_extract rfl rfl rfl ?_
    refine op_extract rfl rfl rfl ?_
    refine op_assign rfl (.slice _ _ _) rfl ?_
    refine op_assign rfl (.int _ _) rfl ?_
    refine op_nil (at_then ?_)
    refine W_seq ?_
    refine W_rseq (Wops_join (α := Unit) 68182605824 (fun _ => [(35, .bool (decide (q.1 ≠ 0) || decide (q.2.2.length = 0)))]) (fun _ w' => Ctx w9 [b3] w' [(b3, Bl 116 [.bool inner, .slice a n cc])]) rfl ?_ ?_)
    · refine op_move rfl (.int _ _) rfl ?_
      refine op_neq rfl rfl rfl ?_
      refine op_move rfl (.bool _) rfl ?_
      refine Wops_split 31 rfl ?_ ?_
      · intro h3
        replace h3 := ndec_t h3
        refine op_skip rfl ?_
        refine op_skip rfl ?_
        refine op_skip rfl ?_
        refine op_pick1 rfl rfl (.bool _) rfl ?_
        refine op_nil ?_
        exact ⟨rfl, (), rfl, ⟨congrArg Value.bool (by (first | rw [decide_eq_true (show q.1 ≠ 0 from h3)] | rw [decide_eq_false (show ¬ q.1 ≠ 0 from fun h => h h4)]); (try rw [← hqn]); (try rw [Bool.eq_iff_iff]); simp; try omega), trivial⟩, H⟩
      · intro h4
        replace h4 := ndec_f h4
        refine op_move rfl (.slice _ _ _) rfl ?_
        refine op_len rfl el_114_TrV rfl ?_
        refine op_eql rfl rfl rfl ?_
        refine op_pick0 rfl rfl (.bool _) rfl ?_
        refine op_nil ?_
        exact ⟨rfl, (), rfl, ⟨congrArg Value.bool (by (first | rw [decide_eq_true (show q.1 ≠ 0 from h3)] | rw [decide_eq_false (show ¬ q.1 ≠ 0 from fun h => h h4)]); (try rw [← hqn]); (try rw [Bool.eq_iff_iff]); simp; try omega), trivial⟩, H⟩
    rintro - j35 w H
    refine W_cond _ rfl ?_ ?_
    · intro hB
      refine W_rseq ?_
      refine op_move rfl (.int _ _) rfl ?_
      refine op_assign rfl (.int _ _) rfl ?_
      refine op_assign rfl (.int _ _) rfl ?_
      refine op_nil (at_then ?_)
      refine W_ret (ret_then (leave2 (v1 := (.int _ _)) (v2 := (.int _ _)) rfl rfl rfl rfl ?_))
      obtain ⟨E10, -⟩ := E9.own H
      by_cases h0 : q.1 = 0
      · have h1 : q.2.2 = [] := by
          rw [h0] at hB
          simpa using hB
        rw [if_neg (by rw [h0]; simp), if_pos h1] at htc
        exact ⟨-1, F9, L9, by rw [htc, h0], by rw [htc]; exact E10.X, E10.GT, fun _ => by rw [htc]⟩
      · rw [if_pos h0] at htc
        exact ⟨-1, F9, L9, by rw [htc], by rw [htc]; exact E10.X, E10.GT, fun _ => by rw [htc]⟩
    · intro hB
      have hB2 : q.1 = 0 ∧ q.2.2 ≠ [] := by
        simp at hB
        exact ⟨hB.1, hB.2⟩
      obtain ⟨h0, h1⟩ := hB2
      rw [if_neg (by rw [h0]; simp), if_neg h1] at htc
      obtain ⟨E10, g10⟩ := E9.own H
      have Q10 := (Q9.weak MYZ').turn g10
      replace H := E10.O.ctx
      obtain ⟨w10, rfl⟩ : ∃ x, x = w := ⟨_, rfl⟩
      refine W_skip (at_then ?_)
      refine W_seq ?_
      refine W_rseq ?_
      refine op_move rfl (.slice _ _ _) rfl ?_
      refine op_len rfl el_114_TrV rfl ?_
      refine op_gtr rfl rfl rfl ?_
      refine op_nil (at_then ?_)
      refine W_cond _ rfl ?_ ?_
      · intro hC
        replace hC := dec_t hC
        rw [if_pos (by omega)] at htc
        refine W_rseq ?_
        refine op_move rfl (.pointer _) rfl ?_
        refine op_move rfl (.slice _ _ _) rfl ?_
        refine op_buildS [.bool true, .slice qa qn qc] rfl pl_116_TrV zc_116_TrV (by kernel_rfl) ?_
        refine op_call rfl ca_80_TrV (write7_ok E10.X hfr (by omega) true (MY Z _) (Q10.weak MYZ) h1 (by omega) (fun x hx => ⟨(hsz x hx).1, (hsz x hx).2.1⟩) (fun x hx => by have := (hsz x hx).2.2; omega) (qb3 hfew) (by omega)) rfl ?_
        rintro v w11 ⟨m, F11, L11, rfl, X11, g11, -, -, hm11⟩
        obtain ⟨E11, -⟩ := E10.call X11 g11
        replace H := E11.O.ctx
        refine op_move rfl (.tuple _) rfl ?_
        refine op_extract rfl rfl rfl ?_
        refine op_extract rfl rfl rfl ?_
        refine op_alloc rfl zc_120_TrV H ?_
        rintro b8 w - H
        refine op_stb0 rfl sz_120_TrV rfl rfl rfl (by first | exact (by first | exact Im.oneE _ | exact Im.oneE m) | simp [oneCell]) H (by first | exact at0 | exact at1 | exact at2 | exact at3 | exact at4 | exact at5 | exact at6 | exact at7 | exact at8 | exact at9) rfl ?_
        rintro w H
        refine op_assign rfl (.int _ _) rfl ?_
        refine op_nil (at_then ?_)
        refine W_rseq ?_
        refine op_fieldAddr rfl fo_120_2_TrV rfl ?_
        first | refine op_ldb rfl ag_3 rfl H (by first | exact at0 | exact at1 | exact at2 | exact at3 | exact at4 | exact at5 | exact at6 | exact at7 | exact at8 | exact at9) rfl ?_ | refine op_ld rfl ag_3 rfl (R.fld hx1 rfl (j := 2) rfl) ?_
        refine op_move rfl (.int _ _) rfl ?_
        refine op_assign rfl (.int _ _) rfl ?_
        refine op_assign rfl (.int _ _) rfl ?_
        refine op_nil (at_then ?_)
        refine W_ret (ret_then (leave2 (v1 := (.int _ _)) (v2 := (.int _ _)) rfl rfl rfl rfl ?_))
        obtain ⟨E12, -⟩ := E11.own H
        exact ⟨_, F11, L11, by rw [htc], by rw [htc]; exact E12.X, E12.GT, fun h => by rw [htc] at h ⊢; rw [hm11 h]⟩
      · intro hC
        replace hC := dec_f hC
        rw [if_neg (by omega)] at htc
        obtain ⟨ms, R, -, hl, hok1⟩ := Q10.ex
        have hml : ms.length = qn := by rw [hqn, ← hl, List.length_map]
        have hpos := List.length_pos_iff.2 h1
        obtain ⟨x, hx1⟩ := get_some (l := ms) (i := 0) (by omega)
        have hxL := Im.at hl hx1
        have hpa : pageAt q.2.2 0 = x.it.page := by unfold pageAt; rw [hxL]; rfl
        refine W_skip (at_then ?_)
        refine W_rseq ?_
        refine op_move rfl (.slice _ _ _) rfl ?_
        first | refine op_indexRd R rfl el_114_TrV sz_120_TrV rfl rfl (by omega) (by omega) (by first | rfl | omega) ?_ | refine op_indexAddr rfl el_114_TrV sz_120_TrV rfl rfl (by omega) (by omega) ?_
        refine op_fieldAddr rfl fo_120_2_TrV rfl ?_
        first | refine op_ldb rfl ag_3 rfl H (by first | exact at0 | exact at1 | exact at2 | exact at3 | exact at4 | exact at5 | exact at6 | exact at7 | exact at8 | exact at9) rfl ?_ | refine op_ld rfl ag_3 rfl (R.fld hx1 rfl (j := 2) rfl) ?_
        refine op_assign rfl (.int _ _) rfl ?_
        refine op_assign rfl (.int _ _) rfl ?_
        refine op_nil (at_then ?_)
        refine W_ret (leave2 (v1 := (.int _ _)) (v2 := (.int _ _)) rfl rfl rfl rfl ?_)
        exact ⟨_, F9, L9, by rw [htc], by rw [htc]; exact E10.X, E10.GT, fun _ => by rw [htc, hpa]⟩

end Go.Proofs.YtbkadlngijkmmaaGreatDoor

/- Something is done to the leaf of a root: the walk. -/
namespace Go.Proofs.YtbkadlngijkmmaaGreatDoor
open Go.GV
theorem ag_116_TrW : aggB Tryz.prog 116 = some true := by kernel_rfl
theorem ag_133_TrW : aggB Tryz.prog 133 = some false := by kernel_rfl
theorem ag_31_TrW : aggB Tryz.prog 31 = some false := by kernel_rfl
theorem ca_130_TrW : callable Tryz.prog 130 = true := by kernel_rfl
theorem ca_131_TrW : callable Tryz.prog 131 = true := by kernel_rfl
theorem ca_132_TrW : callable Tryz.prog 132 = true := by kernel_rfl
theorem ca_78_TrW : callable Tryz.prog 78 = true := by kernel_rfl
theorem fo_116_1_TrW : fieldO Tryz.prog 116 1 = some 1 := by kernel_rfl
theorem pl_116_TrW : placesB Tryz.prog 116 = some [(0, 1), (1, 1)] := by kernel_rfl
theorem pl_135_TrW : placesB Tryz.prog 135 = some [(0, 1), (1, 1), (2, 1)] := by kernel_rfl
theorem sz_114_TrW : tsize Tryz.prog 114 = some 1 := by kernel_rfl
theorem sz_116_TrW : tsize Tryz.prog 116 = some 2 := by kernel_rfl
theorem sz_133_TrW : tsize Tryz.prog 133 = some 1 := by kernel_rfl
theorem sz_31_TrW : tsize Tryz.prog 31 = some 1 := by kernel_rfl
theorem zc_116_TrW : zcells Tryz.prog 116 = some ([.bool false, .slice none 0 0]) := by kernel_rfl
theorem zc_133_TrW : zcells Tryz.prog 133 = some ([.pointer none]) := by kernel_rfl
theorem zc_135_TrW : zcells Tryz.prog 135 = some ([.pointer none, .slice none 0 0, .slice none 0 0]) := by kernel_rfl
theorem zc_31_TrW : zcells Tryz.prog 31 = some ([.int .i64 0]) := by kernel_rfl
attribute [local irreducible] Wops W Wq Wt

theorem Tx.none {w : World} {bt bd bp ba fr : Nat} {A : Dev} {P : List Nat} {F : Mut} {L : List (Nat × Obj)} (T : Tx w bt bd bp ba fr A P F L) : Tx w bt bd bp ba fr A P F [] :=
  ⟨T.tr, T.pg, T.dev, (fun x h => by cases h), List.Pairwise.nil, (fun x h => by cases h), T.nbt, T.nbp, T.nba, T.lt⟩
theorem TM.none {F : Mut} {ba bt bp : Nat} {L : List (Nat × Obj)} : ∀ x, TM F ba bt bp [] x → TM F ba bt bp L x := fun x h => by
  rcases h with h | h | h | h | h
  · exact .inl h
  · exact .inr (.inl h)
  · exact .inr (.inr (.inl h))
  · exact .inr (.inr (.inr (.inl h)))
  · cases h
/-- A change begins, in a function that has blocks of its own. -/
theorem Fr.born {w0 w : World} {bt bd bp ba fr bc : Nat} {c : Ch} {F Z : Mut} {L Y : List (Nat × Obj)} (T : Tx w0 bt bd bp ba fr c.A c.P F []) (hZ : ∀ x, Z x → x < w0.heap.size) (H : Ctx w0 [] w (L ++ Y))
    (hex : ∃ ta tc tf ga gc gf, L = CL bt bc ta c.tk.length tc tf ga c.gn.length gc gf ∧ OS ta c.tk.length tc 1 tf (c.tk.map pv) ∧ OS ga c.gn.length gc 1 gf (c.gn.map pv)) : Fr w0 Z (TM F ba bt bp []) w bt bd bp ba fr bc c F L Y := by
  have hnd := List.pairwise_append.1 H.nd
  have hlt0 : ∀ x, TM F ba bt bp [] x → x < w0.heap.size := T.mlt
  have hyo : ∀ y ∈ L ++ Y, w0.heap.size ≤ y.1 := fun y hy => (H.own y hy).elim (fun h => by cases h) id
  obtain ⟨T1, g1⟩ := T.own (H.sub (L' := L) (fun x h => List.mem_append_left _ h) hnd.1)
  refine ⟨⟨T1, hex⟩, ⟨fun y hy => H.blk y (List.mem_append_right _ hy), hnd.2.1, fun y hy h => ?_⟩, g1, ⟨.of0 H.ext, fun x h => ?_⟩, fun y hy => ?_, H.ext.size, hZ⟩
  · have h5 := hyo y (List.mem_append_right _ hy)
    rcases h with h | h
    · by_cases h6 : y.1 ∈ L.map (·.1)
      · obtain ⟨x, hx, he⟩ := List.mem_map.1 h6
        exact hnd.2.2 x hx y hy he
      · have : TM F ba bt bp [] y.1 := by
          rcases h with h | h | h | h | h
          · exact .inl h
          · exact .inr (.inl h)
          · exact .inr (.inr (.inl h))
          · exact .inr (.inr (.inr (.inl h)))
          · exact absurd h h6
        have := hlt0 _ this
        omega
    · have := hZ _ h; omega
  · rcases h with (h | h) | h
    · by_cases h6 : x ∈ L.map (·.1)
      · obtain ⟨y, hy, rfl⟩ := List.mem_map.1 h6
        exact .inr (hyo y (List.mem_append_left _ hy))
      · left; left
        rcases h with h | h | h | h | h
        · exact .inl h
        · exact .inr (.inl h)
        · exact .inr (.inr (.inl h))
        · exact .inr (.inr (.inr (.inl h)))
        · exact absurd h h6
    · exact .inl (.inr h)
    · obtain ⟨y, hy, rfl⟩ := List.mem_map.1 h
      exact .inr (hyo y (List.mem_append_right _ hy))
  · obtain ⟨z, hz, rfl⟩ := List.mem_map.1 hy
    exact hyo z (List.mem_append_right _ hz)

theorem turn1_ok {w : World} {bt bd bp ba fr bc : Nat} {c : Ch} {F : Mut} {L : List (Nat × Obj)} (X : Cx w bt bd bp ba fr bc c F L) {b10 b9 t1 t2 : Nat} {e : Int} {l1 l2 : List Value} (h10 : w.heap[b10]? = some (Bl t1 (ptr bc :: l1))) (h9 : w.heap[b9]? = some (Bl t2 (.int .i64 e :: l2))) (htk : c.tk.length ≤ 1000000) (hgn : c.gn.length ≤ 1000000) :
    RetD Tryz.prog 130 #[ptr b10, ptr b9] w fun w' => Cx w' bt bd bp ba fr bc (overC c e) F L ∧ Grown (TM F ba bt bp L) (TM F ba bt bp L) w w' := by
  obtain ⟨w0, rfl⟩ : ∃ w0, w0 = w := ⟨_, rfl⟩
  have H := Ctx.start w0 []
  refine retD_of_W (fn := Tryz.f130) Tryz.func130 rfl [.pointer (some ⟨b10, 0, none⟩), .pointer (some ⟨b9, 0, none⟩)] rfl (by kernel_rfl) ?_
  refine W_region ?_
  first | refine op_ldb rfl ag_133_TrW rfl H (by first | exact at0 | exact at1 | exact at2 | exact at3 | exact at4 | exact at5 | exact at6 | exact at7 | exact at8 | exact at9) rfl ?_ | refine op_ld rfl ag_133_TrW rfl ((by rw [cell_bl h10]; rfl)) ?_ | refine op_ld rfl ag_133_TrW rfl ((by rw [cell_bl h9]; rfl)) ?_
  first | refine op_ldb rfl ag_31_TrW rfl H (by first | exact at0 | exact at1 | exact at2 | exact at3 | exact at4 | exact at5 | exact at6 | exact at7 | exact at8 | exact at9) rfl ?_ | refine op_ld rfl ag_31_TrW rfl ((by rw [cell_bl h10]; rfl)) ?_ | refine op_ld rfl ag_31_TrW rfl ((by rw [cell_bl h9]; rfl)) ?_
  refine op_call rfl ca_78_TrW (over_ok7 X e htk hgn) rfl ?_
  rintro v w2 ⟨rfl, X2, g2⟩
  refine op_nil (leave0n rfl rfl ?_)
  exact ⟨X2, g2⟩
theorem turnC_eq {fr : Nat} {A : Dev} {P : List Nat} {root : Int} {key : Byt} {G : List It → List It} {ed : Int × Ch × Bool × List It} (hed : ed = if root = -1 then (0, ⟨A, P, [], []⟩, false, G []) else editC fr G key 18 ⟨A, P, [], []⟩ root.toNat 0) :
    turnC fr A P root key G = if ed.1 ≠ 0 then (ed.1, root, overC ed.2.1 ed.1) else if (topC fr ed.2.1 ed.2.2.1 ed.2.2.2).1 ≠ 0 then ((topC fr ed.2.1 ed.2.2.1 ed.2.2.2).1, root, overC (topC fr ed.2.1 ed.2.2.1 ed.2.2.2).2.1 (topC fr ed.2.1 ed.2.2.1 ed.2.2.2).1)
      else (0, (topC fr ed.2.1 ed.2.2.1 ed.2.2.2).2.2, overC (topC fr ed.2.1 ed.2.2.1 ed.2.2.2).2.1 0) := by
  unfold turnC; rw [hed]
theorem topC_bnd {fr : Nat} {c : Ch} {i : Bool} {M : List It} : (topC fr c i M).2.1.tk.length ≤ c.tk.length + 3 ∧ (topC fr c i M).2.1.gn = c.gn := by
  obtain ⟨q1, q2, -, -⟩ := putS_bnd (fr := fr) (c := c) (i := i) (M := M) (m := 0)
  unfold topC
  split
  · exact ⟨Nat.le_add_right _ _, rfl⟩
  · split
    · exact ⟨by dsimp only; omega, q2⟩
    · split
      · exact ⟨by dsimp only; omega, q2⟩
      · split
        · have h1 := wrC_tk (fr := fr) (c := (putS fr c i M).2.1) (inner := true) (M := (putS fr c i M).2.2)
          exact ⟨by dsimp only; omega, wrC_gn.trans q2⟩
        · exact ⟨by dsimp only; omega, q2⟩
/-- Where the walk stands once what is put is known. -/
structure US where
  i : Bool
  a : Option Addr
  n : Nat
  c : Nat
  M : List It
  ch : Ch
  F : Mut
  L : List (Nat × Obj)

set_option maxRecDepth 20000 in
set_option maxHeartbeats 8000000 in
theorem turn7_ok {f : Nat} {cl : List Value} {G : List It → List It} {key : Byt} {fr : Nat} (hf : callable Tryz.prog f = true) (hfr : fr ≤ 5000) (hkl : key.length ≤ 100000) {w : World} {bt bd bp ba : Nat} {A : Dev} {P : List Nat} {F : Mut} (T : Tx w bt bd bp ba fr A P F []) (root : Int) (hr1 : -1 ≤ root) (hr2 : root ≤ 4294967296)
    (Z : Mut) (hZ : ∀ x, Z x → x < w.heap.size) (D : DoOk f cl G w (MZ (TM F ba bt bp []) Z)) (ka : Option Addr) (kc : Nat) (Rk : Rdx w (MZ (TM F ba bt bp []) Z) ka key) {mx : Nat} (hfew : Few A mx) (hmx : mx ≤ 800000000) (hok : (turnC fr A P root key G).1 ≠ 99) :
    Ret Tryz.prog 72 #[ptr bt, .int .i64 root, .slice ka key.length kc, .func (.func f) #[] cl.toArray] w fun v w' => ∃ F', v = .tuple #[.int .i64 (turnC fr A P root key G).2.1, .int .i64 (turnC fr A P root key G).1] ∧ Tx w' bt bd bp ba fr (turnC fr A P root key G).2.2.A (turnC fr A P root key G).2.2.P F' [] ∧ Grown (TM F ba bt bp []) (TM F' ba bt bp []) w w' := by
  obtain ⟨w0, rfl⟩ : ∃ w0, w0 = w := ⟨_, rfl⟩
  obtain ⟨ed, hed⟩ : ∃ ed, ed = (if root = -1 then (0, ⟨A, P, [], []⟩, false, G []) else editC fr G key 18 ⟨A, P, [], []⟩ root.toNat 0 : Int × Ch × Bool × List It) := ⟨_, rfl⟩
  have htc := turnC_eq hed
  obtain ⟨tc, htc2⟩ : ∃ tc, tc = turnC fr A P root key G := ⟨_, rfl⟩
  rw [← htc2] at htc hok ⊢
  have H := Ctx.start w0 []
  refine ret_of_WD (fn := Tryz.f72) Tryz.func72 rfl [.pointer (some ⟨bt, 0, none⟩), .int .i64 root, .slice ka key.length kc, .func (.func f) #[] cl.toArray] rfl (by kernel_rfl) ?_
  refine W_rseq ?_
  refine op_assign rfl (.int _ _) rfl ?_
  refine op_alloc rfl zc_31_TrW H ?_
  rintro b9 w - H
  refine op_nil (at_then ?_)
  refine W_rseq ?_
  refine op_move rfl (.pointer _) rfl ?_
  refine op_buildS [ptr bt, .slice none 0 0, .slice none 0 0] rfl pl_135_TrW zc_135_TrW (by kernel_rfl) ?_
  refine op_box rfl [ptr bt, .slice none 0 0, .slice none 0 0] (.agg _) rfl rfl H ?_
  rintro bc w - H
  refine op_alloc rfl zc_133_TrW H ?_
  rintro b10 w - H
  refine op_stb (.pointer _) rfl sz_133_TrW rfl rfl rfl H (by first | exact at0 | exact at1 | exact at2 | exact at3 | exact at4 | exact at5 | exact at6 | exact at7 | exact at8 | exact at9) (by first | decide | (simp; done) | (simp; omega)) ?_
  rintro w H
  refine op_nil (at_then ?_)
  refine W_rseq ?_
  refine op_makeFuncL rfl [.pointer _, .pointer _] rfl ?_
  refine op_defer rfl rfl ?_
  refine op_nil (at_then ?_)
  refine W_rseq ?_
  refine op_buildS [.bool false, .slice none 0 0] rfl pl_116_TrW zc_116_TrW (by kernel_rfl) ?_
  refine op_alloc rfl zc_116_TrW H ?_
  rintro b11 w - H
  refine op_stb0 rfl sz_116_TrW rfl rfl rfl (by simp [oneCell]) H (by first | exact at0 | exact at1 | exact at2 | exact at3 | exact at4 | exact at5 | exact at6 | exact at7 | exact at8 | exact at9) rfl ?_
  rintro w H
  refine op_nil (at_then ?_)
  refine W_seq ?_
  refine W_rseq ?_
  refine op_move rfl (.int _ _) rfl ?_
  refine op_eql rfl rfl rfl ?_
  refine op_nil (at_then ?_)
  have E1 : Fr w0 Z (TM F ba bt bp []) w bt bd bp ba fr bc ⟨A, P, [], []⟩ F [(bc, Bl TC [ptr bt, .slice none 0 0, .slice none 0 0])] [(b11, NBl false none 0 0), (b10, Bl 133 [ptr bc]), (b9, Bl 31 [.int .i64 0])] := Fr.born T hZ (H.perm (List.perm_middle (l₁ := [_, _]) (l₂ := [_]))) ⟨none, 0, [], none, 0, [], rfl, OS.nil, OS.nil⟩
  replace H := E1.O.ctx
  have hb : ed.2.1.tk.length ≤ 36 ∧ ed.2.1.gn.length ≤ 36 ∧ Few ed.2.1.A (mx + 36) := by
    rw [hed]
    split
    · exact ⟨Nat.zero_le _, Nat.zero_le _, hfew.mono (by omega)⟩
    · obtain ⟨x1, x2, x3⟩ := editC_bnd (fr := fr) (G := G) (key := key) (m := mx) (n := 18) (c := ⟨A, P, [], []⟩) (p := root.toNat) (d := 0)
      exact ⟨by simpa using x1, by simpa using x2, x3 hfew⟩
  refine W_joinK 17179345152 (α := US) (fun _ => []) (fun s w' => Fr w0 Z (TM F ba bt bp []) w' bt bd bp ba fr bc s.ch s.F s.L [(b11, NBl s.i s.a s.n s.c), (b10, Bl 133 [ptr bc]), (b9, Bl 31 [.int .i64 0])] ∧ Its w' (MY (MZ (TM s.F ba bt bp s.L) Z) [(b11, NBl s.i s.a s.n s.c), (b10, Bl 133 [ptr bc]), (b9, Bl 31 [.int .i64 0])]) s.a s.n s.c s.M ∧ ed = (0, s.ch, s.i, s.M)) rfl ?_ ?_
  · skip
    refine W_cond _ rfl ?_ ?_
    · intro hA
      replace hA := dec_t hA
      rw [if_pos hA] at hed
      refine W_region ?_
      refine op_move rfl (.func _ _ _) rfl ?_
      refine op_calld rfl rfl hf (D _ _ E1.GA E1.mylt none 0 0 [] Its.nil (by omega)) rfl ?_
      rintro v w4 ⟨a4, c4, rfl, I4, hx4⟩
      obtain ⟨E4, -⟩ := E1.call0 hx4
      replace H := E4.O.ctx
      refine op_fieldAddr rfl fo_116_1_TrW rfl ?_
      refine op_stb (.slice _ _ _) rfl sz_114_TrW rfl rfl rfl H (by first | exact at0 | exact at1 | exact at2 | exact at3 | exact at4 | exact at5 | exact at6 | exact at7 | exact at8 | exact at9) (by first | decide | (simp; done) | (simp; omega)) ?_
      rintro w H
      refine op_nil (at_then ?_)
      obtain ⟨E5, g5⟩ := E4.own H
      exact ⟨⟨false, a4, (G []).length, c4, G [], ⟨A, P, [], []⟩, F, _⟩, rfl, trivial, E5, I4.turn g5, hed⟩
    · intro hA
      replace hA := dec_f hA
      obtain ⟨p, rfl⟩ : ∃ p : Nat, root = (p : Int) := ⟨root.toNat, by omega⟩
      rw [if_neg hA, Int.toNat_natCast] at hed
      have hed' : ed = editC fr G key (17 + 1) ⟨A, P, [], []⟩ p 0 := hed
      have hok5 : ed.1 ≠ 99 := fun h => hok (by rw [htc, if_pos (by rw [h]; decide)]; exact h)
      refine W_rseq ?_
      refine op_ldb rfl ag_133_TrW rfl H (by first | exact at0 | exact at1 | exact at2 | exact at3 | exact at4 | exact at5 | exact at6 | exact at7 | exact at8 | exact at9) rfl ?_
      refine op_move rfl (.int _ _) rfl ?_
      refine op_move rfl (.slice _ _ _) rfl ?_
      refine op_move rfl (.func _ _ _) rfl ?_
      refine op_call rfl ca_131_TrW (edit7_ok hf hfr hkl 17 E1.X (by simp) (by simp) p 0 (by omega) (by omega) (MY Z _) E1.zlt (D.keep (E1.GA.weak MYZ)) ka kc ((Rk.turn E1.GA).weak MYZ) mx hfew (by omega) (by rw [← hed']; exact hok5)) rfl ?_
      rintro v w5 ⟨kin, k5, n5, c5, F5, L5, rfl, X5, g5, hk5⟩
      rw [← hed'] at X5 hk5
      rw [← hed']
      obtain ⟨E5, gg5⟩ := E1.call X5 g5
      replace H := E5.O.ctx
      refine op_move rfl (.tuple _) rfl ?_
      refine op_extract rfl rfl rfl ?_
      refine op_extract rfl rfl rfl ?_
      refine op_stb0 rfl sz_116_TrW rfl rfl rfl (by simp [oneCell]) H (by first | exact at0 | exact at1 | exact at2 | exact at3 | exact at4 | exact at5 | exact at6 | exact at7 | exact at8 | exact at9) rfl ?_
      rintro w H
      refine op_stb (.int _ _) rfl sz_31_TrW rfl rfl rfl H (by first | exact at0 | exact at1 | exact at2 | exact at3 | exact at4 | exact at5 | exact at6 | exact at7 | exact at8 | exact at9) (by first | decide | (simp; done) | (simp; omega)) ?_
      rintro w H
      refine op_nil (at_then ?_)
      refine W_rseq ?_
      refine op_ldb rfl ag_31_TrW rfl H (by first | exact at0 | exact at1 | exact at2 | exact at3 | exact at4 | exact at5 | exact at6 | exact at7 | exact at8 | exact at9) rfl ?_
      refine op_neq rfl rfl rfl ?_
      refine op_nil (at_then ?_)
      refine W_cond _ rfl ?_ ?_
      · intro hB
        replace hB := ndec_t hB
        rw [if_pos hB] at htc
        refine W_tseq 3 mixed (by kernel_rfl) (by kernel_rfl) rfl rfl ?_
        refine q_move rfl (.int _ _) rfl ?_
        refine q_ldb rfl ag_31_TrW rfl (by rintro _ rfl; exact H.drew) (by first | exact at0 | exact at1 | exact at2 | exact at3 | exact at4 | exact at5 | exact at6 | exact at7 | exact at8 | exact at9) rfl ?_
        refine q_assign rfl (.int _ _) rfl ?_
        refine q_nil ?_
        replace H := H.drew
        refine op_stb (.int _ _) rfl sz_31_TrW rfl rfl rfl H (by first | exact at0 | exact at1 | exact at2 | exact at3 | exact at4 | exact at5 | exact at6 | exact at7 | exact at8 | exact at9) (by first | decide | (simp; done) | (simp; omega)) ?_
        rintro w H
        refine op_nil (at_then ?_)
        refine W_ret (ret_then ?_)
        obtain ⟨E6, -⟩ := E5.own H
        refine leaveD rfl ca_130_TrW _ (turn1_ok E6.X (H.get at1) (H.get at2) (by omega) (by omega)) (fun w7 hK tmps ht => ?_)
        exact ⟨_, res2c (k := 0) rfl ht rfl rfl ag_31_TrW ((E6.O.call (hK.2.or Z)).1.blk (b9, _) (List.mem_of_getElem? (i := 2) rfl)), F5, by rw [htc]; rfl, by rw [htc]; exact hK.1.T.none, (E6.GT.trans hK.2).weak TM.none⟩
      · intro hB
        replace hB := ndec_f hB
        have hB' : ed.1 = 0 := by simpa using hB
        rw [hB'] at H
        obtain ⟨rfl, K5⟩ := hk5 hB'
        refine W_skip (at_then ?_)
        obtain ⟨E6, g6⟩ := E5.own H
        exact ⟨⟨ed.2.2.1, k5, n5, c5, ed.2.2.2, ed.2.1, F5, L5⟩, rfl, trivial, E6, (K5.weak MYZ').turn g6, Prod.ext hB' rfl⟩
  · rintro ⟨si, sa, sn, scc, sM, sch, sF, sL⟩ j18 w ⟨E8, I8, hed8⟩; dsimp only at E8 I8 hed8
    rw [hed8] at htc hb
    dsimp only at htc hb
    rw [if_neg (by simp)] at htc
    obtain ⟨q, hq⟩ : ∃ q, q = topC fr sch si sM := ⟨_, rfl⟩
    rw [← hq] at htc
    have hokq : q.1 ≠ 99 := fun h => hok (by rw [htc, if_pos (by rw [h]; decide)]; exact h)
    obtain ⟨tb1, tb2⟩ := topC_bnd (fr := fr) (c := sch) (i := si) (M := sM)
    rw [← hq] at tb1 tb2
    have H := E8.O.ctx
    refine W_rseq ?_
    refine op_ldb rfl ag_133_TrW rfl H (by first | exact at0 | exact at1 | exact at2 | exact at3 | exact at4 | exact at5 | exact at6 | exact at7 | exact at8 | exact at9) rfl ?_
    refine op_ldbN rfl ag_116_TrW sz_116_TrW rfl H (by first | exact at0 | exact at1 | exact at2 | exact at3 | exact at4 | exact at5 | exact at6 | exact at7 | exact at8 | exact at9) rfl ?_
    refine op_call rfl ca_132_TrW (top7_ok E8.X hfr (by omega) si (MY Z _) E8.zlt (I8.weak MYZ) hb.2.2 (by omega) (by rw [← hq]; exact hokq)) rfl ?_
    rintro v w9 ⟨tp, F9, L9, rfl, X9, g9, hp9⟩
    rw [← hq] at X9 hp9
    rw [← hq]
    obtain ⟨E9, gg9⟩ := E8.call X9 g9
    replace H := E9.O.ctx
    refine op_move rfl (.tuple _) rfl ?_
    refine op_extract rfl rfl rfl ?_
    refine op_extract rfl rfl rfl ?_
    refine op_assign rfl (.int _ _) rfl ?_
    refine op_stb (.int _ _) rfl sz_31_TrW rfl rfl rfl H (by first | exact at0 | exact at1 | exact at2 | exact at3 | exact at4 | exact at5 | exact at6 | exact at7 | exact at8 | exact at9) (by first | decide | (simp; done) | (simp; omega)) ?_
    rintro w H
    refine op_nil (at_then ?_)
    refine W_seq ?_
    refine W_rseq ?_
    refine op_ldb rfl ag_31_TrW rfl H (by first | exact at0 | exact at1 | exact at2 | exact at3 | exact at4 | exact at5 | exact at6 | exact at7 | exact at8 | exact at9) rfl ?_
    refine op_neq rfl rfl rfl ?_
    refine op_nil (at_then ?_)
    refine W_cond _ rfl ?_ ?_
    · intro hC
      replace hC := ndec_t hC
      rw [if_pos hC] at htc
      refine W_tseq 3 mixed (by kernel_rfl) (by kernel_rfl) rfl rfl ?_
      refine q_move rfl (.int _ _) rfl ?_
      refine q_ldb rfl ag_31_TrW rfl (by rintro _ rfl; exact H.drew) (by first | exact at0 | exact at1 | exact at2 | exact at3 | exact at4 | exact at5 | exact at6 | exact at7 | exact at8 | exact at9) rfl ?_
      refine q_assign rfl (.int _ _) rfl ?_
      refine q_nil ?_
      replace H := H.drew
      refine op_stb (.int _ _) rfl sz_31_TrW rfl rfl rfl H (by first | exact at0 | exact at1 | exact at2 | exact at3 | exact at4 | exact at5 | exact at6 | exact at7 | exact at8 | exact at9) (by first | decide | (simp; done) | (simp; omega)) ?_
      rintro w H
      refine op_nil (at_then ?_)
      refine W_ret (ret_then ?_)
      obtain ⟨E10, -⟩ := E9.own H
      refine leaveD rfl ca_130_TrW _ (turn1_ok E10.X (H.get at1) (H.get at2) (by omega) (by rw [tb2]; omega)) (fun w7 hK tmps ht => ?_)
      exact ⟨_, res2c (k := 0) rfl ht rfl rfl ag_31_TrW ((E10.O.call (hK.2.or Z)).1.blk (b9, _) (List.mem_of_getElem? (i := 2) rfl)), F9, by rw [htc]; rfl, by rw [htc]; exact hK.1.T.none, (E10.GT.trans hK.2).weak TM.none⟩
    · intro hC
      replace hC := ndec_f hC
      rw [if_neg (by simpa using hC)] at htc
      have hC' : q.1 = 0 := by simpa using hC
      have hp9' := hp9 hC'
      refine W_skip (at_then ?_)
      refine W_rseq ?_
      refine op_move rfl (.int _ _) rfl ?_
      refine op_assign rfl (.int _ _) rfl ?_
      refine op_stb (.int _ _) rfl sz_31_TrW rfl rfl rfl H (by first | exact at0 | exact at1 | exact at2 | exact at3 | exact at4 | exact at5 | exact at6 | exact at7 | exact at8 | exact at9) (by first | decide | (simp; done) | (simp; omega)) ?_
      rintro w H
      refine op_nil (at_then ?_)
      refine W_ret ?_
      obtain ⟨E10, -⟩ := E9.own H
      refine leaveD rfl ca_130_TrW _ (turn1_ok E10.X (H.get at1) (H.get at2) (by omega) (by rw [tb2]; omega)) (fun w7 hK tmps ht => ?_)
      exact ⟨_, res2c (k := 0) rfl ht rfl rfl ag_31_TrW ((E10.O.call (hK.2.or Z)).1.blk (b9, _) (List.mem_of_getElem? (i := 2) rfl)), F9, by rw [htc]; show Value.tuple #[.int .i64 tp, .int .i64 0] = .tuple #[.int .i64 q.2.2, .int .i64 0]; rw [hp9'], by rw [htc]; exact hK.1.T.none, (E10.GT.trans hK.2).weak TM.none⟩

end Go.Proofs.YtbkadlngijkmmaaGreatDoor

/- A pair is put, or cut: what is done to a leaf: the walks. -/
namespace Go.Proofs.YtbkadlngijkmmaaGreatDoor
open Go.GV
theorem ca_68_TrX : callable Tryz.prog 68 = true := by kernel_rfl
theorem ca_74_TrX : callable Tryz.prog 74 = true := by kernel_rfl
theorem el_114_TrX : elemT Tryz.prog 114 = some 120 := by kernel_rfl
theorem el_196_TrX : elemT Tryz.prog 196 = some 114 := by kernel_rfl
theorem pl_120_TrX : placesB Tryz.prog 120 = some [(0, 1), (1, 1), (2, 1)] := by kernel_rfl
theorem sz_114_TrX : tsize Tryz.prog 114 = some 1 := by kernel_rfl
theorem sz_120_TrX : tsize Tryz.prog 120 = some 3 := by kernel_rfl
theorem zc_114_TrX : zcells Tryz.prog 114 = some ([.slice none 0 0]) := by kernel_rfl
theorem zc_120_TrX : zcells Tryz.prog 120 = some ([.slice none 0 0, .slice none 0 0, .int .i64 0]) := by kernel_rfl
attribute [local irreducible] Wops W Wq Wt

theorem ins_parts {w : World} {M : Mut} {a : Option Addr} {n c k m b : Nat} {l q : List It} (I : Its w M a n c l) (Q : Its w M (some ⟨b, 0, none⟩) 1 1 q) (hk : k ≤ n) (hm : m ≤ n) (h1 : (l.take k).length = k) (h2 : (l.drop m).length = n - m) :
    ∀ x ∈ ([(a, l.take k, c), (some ⟨b, 0, none⟩, q, 1), (cutA a c m 3, l.drop m, c - m)] : List SI), Its w M x.1 x.2.1.length x.2.2 x.2.1 := by
  intro x hx
  simp only [List.mem_cons, List.not_mem_nil, or_false] at hx
  rcases hx with rfl | rfl | rfl
  · show Its w M a (l.take k).length c (l.take k)
    rw [h1]; exact I.take hk
  · show Its w M _ q.length _ q
    rw [← Q.num]; exact Q
  · show Its w M _ (l.drop m).length _ (l.drop m)
    rw [h2]; exact I.drop hm
theorem del_parts {w : World} {M : Mut} {a : Option Addr} {n c k m : Nat} {l : List It} (I : Its w M a n c l) (hk : k ≤ n) (hm : m ≤ n) (h1 : (l.take k).length = k) (h2 : (l.drop m).length = n - m) :
    ∀ x ∈ ([(a, l.take k, c), (cutA a c m 3, l.drop m, c - m)] : List SI), Its w M x.1 x.2.1.length x.2.2 x.2.1 := by
  intro x hx
  simp only [List.mem_cons, List.not_mem_nil, or_false] at hx
  rcases hx with rfl | rfl
  · show Its w M a (l.take k).length c (l.take k)
    rw [h1]; exact I.take hk
  · show Its w M _ (l.drop m).length _ (l.drop m)
    rw [h2]; exact I.drop hm
theorem its_one {w0 w : World} {M : Mut} (hM : ∀ x, M x → x < w0.heap.size) {b t : Nat} {ka va : Option Addr} {kc vc : Nat} {key val : Byt} (hb : w.heap[b]? = some (Bl t [.slice ka key.length kc, .slice va val.length vc, .int .i64 0])) (hn : w0.heap.size ≤ b)
    (Rk : Rdx w M ka key) (Rv : Rdx w M va val) (hkc : key.length ≤ kc) (hvc : val.length ≤ vc) : Its w M (some ⟨b, 0, none⟩) 1 1 [⟨key, val, 0⟩] := by
  refine ⟨⟨[⟨ka, kc, va, vc, ⟨key, val, 0⟩⟩], Rd.of_bl (r := []) hb rfl (fun _ _ => rfl), .inr fun h => ?_, rfl, fun m hm => ?_⟩, rfl, Nat.le_refl _⟩
  · have := hM _ h; dsimp only [adr] at this; omega
  · rw [List.mem_singleton.1 hm]; exact ⟨Rk, Rv, hkc, hvc⟩

set_option maxRecDepth 20000 in
set_option maxHeartbeats 8000000 in
theorem put1_ok7 {w : World} {M : Mut} (hM : ∀ x, M x → x < w.heap.size) {b6 b7 t6 t7 : Nat} {ka va : Option Addr} {kc vc : Nat} {key val : Byt} {l6 l7 : List Value} (h6 : w.heap[b6]? = some (Bl t6 (.slice ka key.length kc :: l6))) (h7 : w.heap[b7]? = some (Bl t7 (.slice va val.length vc :: l7)))
    (Rk : Rdx w M ka key) (Rv : Rdx w M va val) (hkc : key.length ≤ kc) (hvc : val.length ≤ vc) {a : Option Addr} {n c : Nat} {l : List It} (I : Its w M a n c l) (hn : n ≤ 100000) :
    Ret Tryz.prog 73 #[.slice a n c, ptr b6, ptr b7] w fun v w' => ∃ a' c', v = .slice a' (insI key val l).length c' ∧ Its w' M a' (insI key val l).length c' (insI key val l) ∧ Ext [] w w' := by
  obtain ⟨w0, rfl⟩ : ∃ w0, w0 = w := ⟨_, rfl⟩
  have hnum := I.num
  have hcap := I.le
  have hpl := placeN_le l key
  obtain ⟨k, hk⟩ : ∃ k, k = placeN l key := ⟨_, rfl⟩
  obtain ⟨kb, hkb⟩ : ∃ kb, kb = placeB l key := ⟨_, rfl⟩
  have k6 : ∀ {z : World}, Ext [] w0 z → z.heap[b6]? = some (Bl t6 (.slice ka key.length kc :: l6)) := fun {z} h => by rw [h.block b6 (heap_lt h6) (by simp)]; exact h6
  have k7 : ∀ {z : World}, Ext [] w0 z → z.heap[b7]? = some (Bl t7 (.slice va val.length vc :: l7)) := fun {z} h => by rw [h.block b7 (heap_lt h7) (by simp)]; exact h7
  have hins : insI key val l = if kb = true then l.take k ++ ([⟨key, val, 0⟩] ++ l.drop (k + 1)) else l.take k ++ ([⟨key, val, 0⟩] ++ l.drop k) := by unfold insI; rw [hkb, hk]
  obtain ⟨il, hil⟩ : ∃ il, il = insI key val l := ⟨_, rfl⟩
  rw [← hil] at hins ⊢
  have H := Ctx.start w0 []
  refine ret_of_W (fn := Tryz.f73) Tryz.func73 rfl [.slice a n c, .pointer (some ⟨b6, 0, none⟩), .pointer (some ⟨b7, 0, none⟩)] rfl (by kernel_rfl) ?_
  refine W_rseq ?_
  refine op_assign rfl (.slice _ _ _) rfl ?_
  refine op_nil (at_then ?_)
  refine W_rseq ?_
  refine op_move rfl (.slice _ _ _) rfl ?_
  first | refine op_ldb rfl ag_23 rfl H (by first | exact at0 | exact at1 | exact at2 | exact at3 | exact at4 | exact at5 | exact at6 | exact at7 | exact at8 | exact at9) rfl ?_ | refine op_ld rfl ag_23 rfl ((by rw [cell_bl h6]; rfl)) ?_
  refine op_call rfl ca_68_TrX (place_ok I ka kc _ key Rk.1 rfl (by omega)) rfl ?_
  rintro v w1 ⟨rfl, hx1⟩
  rw [← hk, ← hkb]
  have H := Ctx.start w1 []
  refine op_move rfl (.tuple _) rfl ?_
  refine op_extract rfl rfl rfl ?_
  refine op_extract rfl rfl rfl ?_
  refine op_assign rfl (.int _ _) rfl ?_
  refine op_assign rfl (.bool _) rfl ?_
  refine op_nil (at_then ?_)
  refine W_seq ?_
  refine W_rseq ?_
  refine op_move rfl (.bool _) rfl ?_
  refine op_nil (at_then ?_)
  refine W_cond _ rfl ?_ ?_
  · intro hA
    have hlt : k < n := by
      rw [hkb] at hA
      obtain ⟨x, hx, -⟩ := placeB_get hA
      have := (List.getElem?_eq_some_iff.1 hx).1
      omega
    rw [if_pos hA] at hins
    refine W_sseqz [([0, 1, 2, 3, 4, 5, 7, 8, 9, 10], 6), ([], 11), ([], 12), ([], 13)] (fun z => Ext [] w1 z) [] mixed (by kernel_rfl) (Ext.drew [] w1) ?_
    refine seg_cons rfl rfl ?_
    refine t_move rfl (.slice _ _ _) rfl ?_
    refine t_move rfl (.int _ _) rfl ?_
    refine t_slice_hi rfl el_114_TrX sz_120_TrX rfl rfl (by omega) (by omega) ?_
    first | refine t_ldb rfl ag_23 rfl (fun _ _ => Ctx.start _ []) (by first | exact at0 | exact at1 | exact at2 | exact at3 | exact at4 | exact at5 | exact at6 | exact at7 | exact at8 | exact at9) rfl ?_ | refine t_ld rfl ag_23 rfl (fun _ hx => (by rw [cell_bl (k6 (hx1.trans hx))]; rfl)) ?_ | refine t_ld rfl ag_23 rfl (fun _ hx => (by rw [cell_bl (k7 (hx1.trans hx))]; rfl)) ?_
    first | refine t_ldb rfl ag_23 rfl (fun _ _ => Ctx.start _ []) (by first | exact at0 | exact at1 | exact at2 | exact at3 | exact at4 | exact at5 | exact at6 | exact at7 | exact at8 | exact at9) rfl ?_ | refine t_ld rfl ag_23 rfl (fun _ hx => (by rw [cell_bl (k6 (hx1.trans hx))]; rfl)) ?_ | refine t_ld rfl ag_23 rfl (fun _ hx => (by rw [cell_bl (k7 (hx1.trans hx))]; rfl)) ?_
    refine t_buildS [.slice ka key.length kc, .slice va val.length vc, .int .i64 0] rfl pl_120_TrX zc_120_TrX (by kernel_rfl) ?_
    refine t_move rfl (.slice _ _ _) rfl ?_
    refine t_move rfl (.int _ _) rfl ?_
    refine t_add_i64 rfl rfl rfl (by omega) (by omega) ?_
    refine t_slice_lo rfl el_114_TrX sz_120_TrX rfl rfl (by omega) (by omega) ?_
    refine t_nil ?_
    replace H := H.drew
    refine op_build1 [.slice ka key.length kc, .slice va val.length vc, .int .i64 0] (.agg _) rfl el_114_TrX sz_120_TrX zc_120_TrX rfl (by decide) (by decide) rfl rfl rfl H ?_
    rintro b20 w2 hb20 H
    refine op_nil (at_seg (H.ext) ?_)
    refine seg_cons rfl rfl ?_
    refine t_nil ?_
    refine op_buildL [.slice a k c, .slice (some ⟨b20, 0, none⟩) 1 1, .slice (cutA a c (k + 1) 3) (n - (k + 1)) (c - (k + 1))] rfl el_196_TrX sz_114_TrX zc_114_TrX (by decide) (by decide) (by kernel_rfl) H ?_
    rintro b25 w3 - H
    refine op_nil (at_seg (H.ext) ?_)
    refine seg_cons rfl rfl ?_
    refine t_nil ?_
    have hx3 := hx1.trans H.ext
    have I3 := I.call hx3
    have hlt9 : (l.take k).length = k := (by rw [List.length_take]; omega)
    have hld9 : (l.drop (k + 1)).length = n - (k + 1) := (by rw [List.length_drop]; omega)
    have Q3 := its_one hM (H.get at1) ((H.own _ (List.mem_cons_of_mem _ (List.mem_cons_self ..))).elim (fun h => by cases h) fun h => Nat.le_trans hx1.size h) (Rk.call hx3) (Rv.call hx3) hkc hvc
    have RR : Rd w3 (some ⟨b25, 0, none⟩) 1 encT [(a, l.take k, c), (some ⟨b20, 0, none⟩, [⟨key, val, 0⟩], 1), (cutA a c (k + 1) 3, l.drop (k + 1), c - (k + 1))] := Rd.of_bl (r := []) (H.get at0) (by simp [encT, hlt9, hld9]) (fun _ _ => rfl)
    have CC := concatI_ok (M := M) (n := 3) (c := 3) (fun x h => Nat.lt_of_lt_of_le (hM x h) hx3.size) _ RR (ins_parts I3 Q3 (by omega) (by omega) hlt9 hld9) rfl (by omega) (by simp only [List.map_cons, List.map_nil, List.sum_cons, List.sum_nil, List.length_singleton]; omega)
    rw [show ([(a, l.take k, c), (some ⟨b20, 0, none⟩, [⟨key, val, 0⟩], 1), (cutA a c (k + 1) 3, l.drop (k + 1), c - (k + 1))] : List SI).flatMap (fun x => x.2.1) = il by rw [hins]; simp] at CC
    refine op_call rfl ca_74_TrX CC rfl ?_
    rintro v w4 ⟨a4, c4, rfl, J4, hx4⟩
    have hx14 := H.ext.trans hx4
    refine op_nil (at_seg (hx14) ?_)
    refine seg_cons rfl rfl ?_
    refine t_nil ?_
    refine op_assign rfl (.slice _ _ _) rfl ?_
    refine op_nil (at_seg (hx14) ?_)
    refine seg_nil ?_
    refine W_ret (ret_then (leave1 (v := (.slice _ _ _)) rfl rfl rfl ?_))
    exact ⟨a4, c4, rfl, J4, hx1.trans hx14⟩
  · intro hA
    rw [if_neg (by rw [hA]; simp)] at hins
    refine W_skip (at_then ?_)
    refine W_sseqz [([0, 1, 2, 3, 4, 5, 7, 8, 9], 6), ([], 10), ([], 11), ([], 12)] (fun z => Ext [] w1 z) [] mixed (by kernel_rfl) (Ext.drew [] w1) ?_
    refine seg_cons rfl rfl ?_
    refine t_move rfl (.slice _ _ _) rfl ?_
    refine t_move rfl (.int _ _) rfl ?_
    refine t_slice_hi rfl el_114_TrX sz_120_TrX rfl rfl (by omega) (by omega) ?_
    first | refine t_ldb rfl ag_23 rfl (fun _ _ => Ctx.start _ []) (by first | exact at0 | exact at1 | exact at2 | exact at3 | exact at4 | exact at5 | exact at6 | exact at7 | exact at8 | exact at9) rfl ?_ | refine t_ld rfl ag_23 rfl (fun _ hx => (by rw [cell_bl (k6 (hx1.trans hx))]; rfl)) ?_ | refine t_ld rfl ag_23 rfl (fun _ hx => (by rw [cell_bl (k7 (hx1.trans hx))]; rfl)) ?_
    first | refine t_ldb rfl ag_23 rfl (fun _ _ => Ctx.start _ []) (by first | exact at0 | exact at1 | exact at2 | exact at3 | exact at4 | exact at5 | exact at6 | exact at7 | exact at8 | exact at9) rfl ?_ | refine t_ld rfl ag_23 rfl (fun _ hx => (by rw [cell_bl (k6 (hx1.trans hx))]; rfl)) ?_ | refine t_ld rfl ag_23 rfl (fun _ hx => (by rw [cell_bl (k7 (hx1.trans hx))]; rfl)) ?_
    refine t_buildS [.slice ka key.length kc, .slice va val.length vc, .int .i64 0] rfl pl_120_TrX zc_120_TrX (by kernel_rfl) ?_
    refine t_move rfl (.slice _ _ _) rfl ?_
    refine t_move rfl (.int _ _) rfl ?_
    refine t_slice_lo rfl el_114_TrX sz_120_TrX rfl rfl (by omega) (by omega) ?_
    refine t_nil ?_
    replace H := H.drew
    refine op_build1 [.slice ka key.length kc, .slice va val.length vc, .int .i64 0] (.agg _) rfl el_114_TrX sz_120_TrX zc_120_TrX rfl (by decide) (by decide) rfl rfl rfl H ?_
    rintro b20 w2 hb20 H
    refine op_nil (at_seg (H.ext) ?_)
    refine seg_cons rfl rfl ?_
    refine t_nil ?_
    refine op_buildL [.slice a k c, .slice (some ⟨b20, 0, none⟩) 1 1, .slice (cutA a c k 3) (n - k) (c - k)] rfl el_196_TrX sz_114_TrX zc_114_TrX (by decide) (by decide) (by kernel_rfl) H ?_
    rintro b25 w3 - H
    refine op_nil (at_seg (H.ext) ?_)
    refine seg_cons rfl rfl ?_
    refine t_nil ?_
    have hx3 := hx1.trans H.ext
    have I3 := I.call hx3
    have hlt9 : (l.take k).length = k := (by rw [List.length_take]; omega)
    have hld9 : (l.drop k).length = n - k := (by rw [List.length_drop]; omega)
    have Q3 := its_one hM (H.get at1) ((H.own _ (List.mem_cons_of_mem _ (List.mem_cons_self ..))).elim (fun h => by cases h) fun h => Nat.le_trans hx1.size h) (Rk.call hx3) (Rv.call hx3) hkc hvc
    have RR : Rd w3 (some ⟨b25, 0, none⟩) 1 encT [(a, l.take k, c), (some ⟨b20, 0, none⟩, [⟨key, val, 0⟩], 1), (cutA a c k 3, l.drop k, c - k)] := Rd.of_bl (r := []) (H.get at0) (by simp [encT, hlt9, hld9]) (fun _ _ => rfl)
    have CC := concatI_ok (M := M) (n := 3) (c := 3) (fun x h => Nat.lt_of_lt_of_le (hM x h) hx3.size) _ RR (ins_parts I3 Q3 (by omega) (by omega) hlt9 hld9) rfl (by omega) (by simp only [List.map_cons, List.map_nil, List.sum_cons, List.sum_nil, List.length_singleton]; omega)
    rw [show ([(a, l.take k, c), (some ⟨b20, 0, none⟩, [⟨key, val, 0⟩], 1), (cutA a c k 3, l.drop k, c - k)] : List SI).flatMap (fun x => x.2.1) = il by rw [hins]; simp] at CC
    refine op_call rfl ca_74_TrX CC rfl ?_
    rintro v w4 ⟨a4, c4, rfl, J4, hx4⟩
    have hx14 := H.ext.trans hx4
    refine op_nil (at_seg (hx14) ?_)
    refine seg_cons rfl rfl ?_
    refine t_nil ?_
    refine op_assign rfl (.slice _ _ _) rfl ?_
    refine op_nil (at_seg (hx14) ?_)
    refine seg_nil ?_
    refine W_ret (leave1 (v := (.slice _ _ _)) rfl rfl rfl ?_)
    exact ⟨a4, c4, rfl, J4, hx1.trans hx14⟩

set_option maxRecDepth 20000 in
set_option maxHeartbeats 8000000 in
theorem cut1_ok7 {w : World} {M : Mut} (hM : ∀ x, M x → x < w.heap.size) {b5 t5 : Nat} {ka : Option Addr} {kc : Nat} {key : Byt} {l5 : List Value} (h5 : w.heap[b5]? = some (Bl t5 (.slice ka key.length kc :: l5)))
    (Rk : Rdx w M ka key) {a : Option Addr} {n c : Nat} {l : List It} (I : Its w M a n c l) (hn : n ≤ 100000) :
    Ret Tryz.prog 75 #[.slice a n c, ptr b5] w fun v w' => ∃ a' c', v = .slice a' (delI key l).length c' ∧ Its w' M a' (delI key l).length c' (delI key l) ∧ Ext [] w w' := by
  obtain ⟨w0, rfl⟩ : ∃ w0, w0 = w := ⟨_, rfl⟩
  have hnum := I.num
  have hcap := I.le
  have hpl := placeN_le l key
  obtain ⟨k, hk⟩ : ∃ k, k = placeN l key := ⟨_, rfl⟩
  obtain ⟨kb, hkb⟩ : ∃ kb, kb = placeB l key := ⟨_, rfl⟩
  have hins : delI key l = if kb = true then l.take k ++ l.drop (k + 1) else l := by unfold delI; rw [hkb, hk]
  obtain ⟨il, hil⟩ : ∃ il, il = delI key l := ⟨_, rfl⟩
  rw [← hil] at hins ⊢
  have H := Ctx.start w0 []
  refine ret_of_W (fn := Tryz.f75) Tryz.func75 rfl [.slice a n c, .pointer (some ⟨b5, 0, none⟩)] rfl (by kernel_rfl) ?_
  refine W_rseq ?_
  refine op_assign rfl (.slice _ _ _) rfl ?_
  refine op_nil (at_then ?_)
  refine W_rseq ?_
  refine op_move rfl (.slice _ _ _) rfl ?_
  first | refine op_ldb rfl ag_23 rfl H (by first | exact at0 | exact at1 | exact at2 | exact at3 | exact at4 | exact at5 | exact at6 | exact at7 | exact at8 | exact at9) rfl ?_ | refine op_ld rfl ag_23 rfl ((by rw [cell_bl h5]; rfl)) ?_
  refine op_call rfl ca_68_TrX (place_ok I ka kc _ key Rk.1 rfl (by omega)) rfl ?_
  rintro v w1 ⟨rfl, hx1⟩
  rw [← hk, ← hkb]
  have H := Ctx.start w1 []
  refine op_move rfl (.tuple _) rfl ?_
  refine op_extract rfl rfl rfl ?_
  refine op_extract rfl rfl rfl ?_
  refine op_assign rfl (.int _ _) rfl ?_
  refine op_assign rfl (.bool _) rfl ?_
  refine op_nil (at_then ?_)
  refine W_seq ?_
  refine W_rseq ?_
  refine op_move rfl (.bool _) rfl ?_
  refine op_not rfl rfl ?_
  refine op_nil (at_then ?_)
  refine W_cond _ rfl ?_ ?_
  · intro hA
    replace hA := nvar_t hA
    rw [if_neg (by rw [hA]; simp)] at hins
    refine W_rseq ?_
    refine op_move rfl (.slice _ _ _) rfl ?_
    refine op_assign rfl (.slice _ _ _) rfl ?_
    refine op_nil (at_then ?_)
    refine W_ret (ret_then (leave1 (v := (.slice _ _ _)) rfl rfl rfl ?_))
    rw [hins, ← hnum]
    exact ⟨a, c, rfl, I.call hx1, hx1⟩
  · intro hA
    replace hA := nvar_f hA
    have hlt : k < n := by
      rw [hkb] at hA
      obtain ⟨x, hx, -⟩ := placeB_get hA
      have := (List.getElem?_eq_some_iff.1 hx).1
      omega
    rw [if_pos hA] at hins
    refine W_skip (at_then ?_)
    refine W_sseqz [([0, 1, 2, 3, 4, 5, 6], 7), ([], 8), ([], 9)] (fun z => Ext [] w1 z) [] mixed (by kernel_rfl) (Ext.drew [] w1) ?_
    refine seg_cons rfl rfl ?_
    refine t_move rfl (.slice _ _ _) rfl ?_
    refine t_move rfl (.int _ _) rfl ?_
    refine t_slice_hi rfl el_114_TrX sz_120_TrX rfl rfl (by omega) (by omega) ?_
    refine t_move rfl (.slice _ _ _) rfl ?_
    refine t_move rfl (.int _ _) rfl ?_
    refine t_add_i64 rfl rfl rfl (by omega) (by omega) ?_
    refine t_slice_lo rfl el_114_TrX sz_120_TrX rfl rfl (by omega) (by omega) ?_
    refine t_nil ?_
    replace H := H.drew
    refine op_buildL [.slice a k c, .slice (cutA a c (k + 1) 3) (n - (k + 1)) (c - (k + 1))] rfl el_196_TrX sz_114_TrX zc_114_TrX (by decide) (by decide) (by kernel_rfl) H ?_
    rintro b25 w3 - H
    refine op_nil (at_seg (H.ext) ?_)
    refine seg_cons rfl rfl ?_
    refine t_nil ?_
    have hx3 := hx1.trans H.ext
    have I3 := I.call hx3
    have hlt9 : (l.take k).length = k := (by rw [List.length_take]; omega)
    have hld9 : (l.drop (k + 1)).length = n - (k + 1) := (by rw [List.length_drop]; omega)
    have RR : Rd w3 (some ⟨b25, 0, none⟩) 1 encT [(a, l.take k, c), (cutA a c (k + 1) 3, l.drop (k + 1), c - (k + 1))] := Rd.of_bl (r := []) (H.get at0) (by simp [encT, hlt9, hld9]) (fun _ _ => rfl)
    have CC := concatI_ok (M := M) (n := 2) (c := 2) (fun x h => Nat.lt_of_lt_of_le (hM x h) hx3.size) _ RR (del_parts I3 (by omega) (by omega) hlt9 hld9) rfl (by omega) (by simp only [List.map_cons, List.map_nil, List.sum_cons, List.sum_nil, List.length_singleton]; omega)
    rw [show ([(a, l.take k, c), (cutA a c (k + 1) 3, l.drop (k + 1), c - (k + 1))] : List SI).flatMap (fun x => x.2.1) = il by rw [hins]; simp] at CC
    refine op_call rfl ca_74_TrX CC rfl ?_
    rintro v w4 ⟨a4, c4, rfl, J4, hx4⟩
    have hx14 := H.ext.trans hx4
    refine op_nil (at_seg (hx14) ?_)
    refine seg_cons rfl rfl ?_
    refine t_nil ?_
    refine op_assign rfl (.slice _ _ _) rfl ?_
    refine op_nil (at_seg (hx14) ?_)
    refine seg_nil ?_
    refine W_ret (leave1 (v := (.slice _ _ _)) rfl rfl rfl ?_)
    exact ⟨a4, c4, rfl, J4, hx1.trans hx14⟩

end Go.Proofs.YtbkadlngijkmmaaGreatDoor

/- A pair is put, or cut: the walks. -/
namespace Go.Proofs.YtbkadlngijkmmaaGreatDoor
open Go.GV
theorem ca_17_TrY : callable Tryz.prog 17 = true := by kernel_rfl
theorem ca_64_TrY : callable Tryz.prog 64 = true := by kernel_rfl
theorem ca_65_TrY : callable Tryz.prog 65 = true := by kernel_rfl
theorem ca_72_TrY : callable Tryz.prog 72 = true := by kernel_rfl
theorem ca_73_TrY : callable Tryz.prog 73 = true := by kernel_rfl
theorem ca_75_TrY : callable Tryz.prog 75 = true := by kernel_rfl
attribute [local irreducible] Wops W Wq Wt

theorem Grown.keep {M M' : Mut} {w w' : World} {b : Nat} {o : Obj} (t : Grown M M' w w') (h : w.heap[b]? = some o) (hn : ¬ M b) : w'.heap[b]? = some o := by
  obtain ⟨⟨S, hS, hx⟩, -⟩ := t
  rw [hx.block b (heap_lt h) fun h => hn (hS _ h)]; exact h
abbrev Z0 : Mut := fun _ => False
theorem MZ0 {M : Mut} : ∀ x, MZ M Z0 x → M x := fun x h => h.elim id False.elim

set_option maxRecDepth 20000 in
set_option maxHeartbeats 4000000 in
theorem put8_ok {fr : Nat} (hfr : fr ≤ 5000) {w : World} {bt bd bp ba : Nat} {A : Dev} {P : List Nat} {F : Mut} (T : Tx w bt bd bp ba fr A P F []) (root : Int) (hr1 : -9223372036854775808 ≤ root) (hr2 : root ≤ 9223372036854775807) (ka va : Option Addr) (kc vc kn vn : Nat) (key val : Byt) (Rk : Rdx w (TM F ba bt bp []) ka key) (Rv : Rdx w (TM F ba bt bp []) va val)
    (hkn : key.length = kn) (hvn : val.length = vn) (hkc : kn ≤ kc) (hvc : vn ≤ vc) (hkl : kn ≤ 100000) {mx : Nat} (hfew : Few A mx) (hmx : mx ≤ 800000000) (hok : (putT fr A P root key val).1 ≠ 99) :
    Ret Tryz.prog 26 #[ptr bt, .int .i64 root, .slice ka kn kc, .slice va vn vc] w fun v w' => ∃ F', v = .tuple #[.int .i64 (putT fr A P root key val).2.1, .int .i64 (putT fr A P root key val).1] ∧ Tx w' bt bd bp ba fr (putT fr A P root key val).2.2.1 (putT fr A P root key val).2.2.2 F' [] ∧ Grown (TM F ba bt bp []) (TM F' ba bt bp []) w w' := by
  subst hkn hvn
  obtain ⟨w0, rfl⟩ : ∃ w0, w0 = w := ⟨_, rfl⟩
  obtain ⟨pt, hpt⟩ : ∃ pt, pt = putT fr A P root key val := ⟨_, rfl⟩
  rw [← hpt] at hok ⊢
  unfold putT at hpt
  have H := Ctx.start w0 []
  refine ret_of_W (fn := Tryz.f26) Tryz.func26 rfl [.pointer (some ⟨bt, 0, none⟩), .int .i64 root, .slice ka key.length kc, .slice va val.length vc] rfl (by kernel_rfl) ?_
  refine W_rseq ?_
  refine op_box rfl _ (.slice _ _ _) rfl rfl H ?_
  rintro b6 w - H
  refine op_box rfl _ (.slice _ _ _) rfl rfl H ?_
  rintro b7 w - H
  refine op_assign rfl (.int _ _) rfl ?_
  refine op_assign rfl (.int _ _) rfl ?_
  refine op_nil (at_then ?_)
  refine W_seq ?_
  refine W_rseq ?_
  refine op_move rfl (.pointer _) rfl ?_
  refine op_move rfl (.int _ _) rfl ?_
  refine op_call rfl ca_64_TrY (may7_ok (T.call H.ext) root) rfl ?_
  rintro v w2 ⟨rfl, rfl⟩
  refine op_assign rfl (.int _ _) rfl ?_
  refine op_nil (at_then ?_)
  refine W_rseq ?_
  refine op_move rfl (.int _ _) rfl ?_
  refine op_neq rfl rfl rfl ?_
  refine op_nil (at_then ?_)
  refine W_cond _ rfl ?_ ?_
  · intro hA
    replace hA := ndec_t hA
    rw [if_pos hA] at hpt
    have he : mayE P.length root = 1 := by unfold mayE at hA ⊢; split <;> simp_all
    rw [he]
    refine W_rseq ?_
    refine op_move rfl (.int _ _) rfl ?_
    refine op_move rfl (.int _ _) rfl ?_
    refine op_assign rfl (.int _ _) rfl ?_
    refine op_assign rfl (.int _ _) rfl ?_
    refine op_nil (at_then ?_)
    refine W_ret (ret_then (leave2 (v1 := (.int _ _)) (v2 := (.int _ _)) rfl rfl rfl rfl ?_))
    exact ⟨F, by rw [hpt], by rw [hpt]; exact T.call H.ext, .call0 H.ext⟩
  · intro hA
    replace hA := ndec_f hA
    rw [if_neg (by simpa using hA)] at hpt
    have hm0 : mayE P.length root = 0 := by simpa using hA
    have hroot : -1 ≤ root ∧ root ≤ 4294967296 := by
      have hpl := T.pg.len
      unfold mayE at hm0
      split at hm0
      · cases hm0
      · omega
    refine W_skip (at_then ?_)
    refine W_seq ?_
    refine W_rseq ?_
    refine op_ldb rfl ag_23 rfl H (by first | exact at0 | exact at1 | exact at2 | exact at3 | exact at4 | exact at5 | exact at6 | exact at7 | exact at8 | exact at9) rfl ?_
    refine op_ldb rfl ag_23 rfl H (by first | exact at0 | exact at1 | exact at2 | exact at3 | exact at4 | exact at5 | exact at6 | exact at7 | exact at8 | exact at9) rfl ?_
    refine op_call rfl ca_65_TrY (right7_ok ka va _ _ kc vc _) rfl ?_
    rintro v w2 ⟨rfl, rfl⟩
    refine op_not rfl rfl ?_
    refine op_nil (at_then ?_)
    refine W_cond _ rfl ?_ ?_
    · intro hB
      replace hB := nvar_t hB
      rw [if_neg (by rw [hB]; simp)] at hpt
      refine W_rseq ?_
      refine op_move rfl (.int _ _) rfl ?_
      refine op_assign rfl (.int _ _) rfl ?_
      refine op_assign rfl (.int _ _) rfl ?_
      refine op_nil (at_then ?_)
      refine W_ret (ret_then (leave2 (v1 := (.int _ _)) (v2 := (.int _ _)) rfl rfl rfl rfl ?_))
      exact ⟨F, by rw [hpt], by rw [hpt]; exact T.call H.ext, .call0 H.ext⟩
    · intro hB
      replace hB := nvar_f hB
      rw [if_pos (by simpa using hB)] at hpt
      have hx1 := H.ext
      have h6 := H.get at1
      have h7 := H.get at0
      have ho6 := (H.own _ (List.mem_cons_of_mem _ (List.mem_cons_self ..))).elim (fun h => by cases h) id
      have ho7 := (H.own _ (List.mem_cons_self ..)).elim (fun h => by cases h) id
      have hM0 := T.mlt
      have T1 := T.call hx1
      have D : DoOk 73 [ptr b6, ptr b7] (insI key val) w (MZ (TM F ba bt bp []) Z0) := fun w' M' t hlt a n c l I hn => put1_ok7 hlt (t.keep h6 fun h => by have := hM0 _ (MZ0 _ h); dsimp only at ho6; omega) (t.keep h7 fun h => by have := hM0 _ (MZ0 _ h); dsimp only at ho7; omega) (((Rk.call hx1).weak MZ0).turn t) (((Rv.call hx1).weak MZ0).turn t) hkc hvc I hn
      have hokt : (turnC fr A P root key (insI key val)).1 ≠ 99 := fun h => hok (by rw [hpt]; exact h)
      refine W_skip (at_then ?_)
      refine W_rseq ?_
      refine op_move rfl (.pointer _) rfl ?_
      refine op_move rfl (.int _ _) rfl ?_
      refine op_ldb rfl ag_23 rfl H (by first | exact at0 | exact at1 | exact at2 | exact at3 | exact at4 | exact at5 | exact at6 | exact at7 | exact at8 | exact at9) rfl ?_
      refine op_makeFuncL rfl [.pointer _, .pointer _] rfl ?_
      refine op_call rfl ca_72_TrY (turn7_ok ca_73_TrY hfr hkl T1 root hroot.1 hroot.2 Z0 (fun x h => h.elim) D ka kc ((Rk.call hx1).weak MZ0) hfew hmx hokt) rfl ?_
      rintro v w3 ⟨F3, rfl, T3, g3⟩
      refine op_extract rfl rfl rfl ?_
      refine op_extract rfl rfl rfl ?_
      refine op_assign rfl (.int _ _) rfl ?_
      refine op_assign rfl (.int _ _) rfl ?_
      refine op_nil (at_then ?_)
      refine W_ret (leave2 (v1 := (.int _ _)) (v2 := (.int _ _)) rfl rfl rfl rfl ?_)
      exact ⟨F3, by rw [hpt], by rw [hpt]; exact T3, (Grown.call0 hx1).trans g3⟩

set_option maxRecDepth 20000 in
set_option maxHeartbeats 4000000 in
theorem cut8_ok {fr : Nat} (hfr : fr ≤ 5000) {w : World} {bt bd bp ba : Nat} {A : Dev} {P : List Nat} {F : Mut} (T : Tx w bt bd bp ba fr A P F []) (root : Int) (hr1 : -9223372036854775808 ≤ root) (hr2 : root ≤ 9223372036854775807) (ka : Option Addr) (kc kn : Nat) (key : Byt) (Rk : Rdx w (TM F ba bt bp []) ka key)
    (hkn : key.length = kn) (hkl : kn ≤ 100000) {mx : Nat} (hfew : Few A mx) (hmx : mx ≤ 800000000) (hok : (cutT fr A P root key).1 ≠ 99) :
    Ret Tryz.prog 27 #[ptr bt, .int .i64 root, .slice ka kn kc] w fun v w' => ∃ F', v = .tuple #[.int .i64 (cutT fr A P root key).2.1, .bool (cutT fr A P root key).2.2.1, .int .i64 (cutT fr A P root key).1] ∧ Tx w' bt bd bp ba fr (cutT fr A P root key).2.2.2.1 (cutT fr A P root key).2.2.2.2 F' [] ∧ Grown (TM F ba bt bp []) (TM F' ba bt bp []) w w' := by
  subst hkn
  obtain ⟨w0, rfl⟩ : ∃ w0, w0 = w := ⟨_, rfl⟩
  obtain ⟨pt, hpt⟩ : ∃ pt, pt = cutT fr A P root key := ⟨_, rfl⟩
  rw [← hpt] at hok ⊢
  unfold cutT at hpt
  obtain ⟨gt, hgt⟩ : ∃ gt, gt = getT A fr P.length root key := ⟨_, rfl⟩
  rw [← hgt] at hpt
  have H := Ctx.start w0 []
  refine ret_of_W (fn := Tryz.f27) Tryz.func27 rfl [.pointer (some ⟨bt, 0, none⟩), .int .i64 root, .slice ka key.length kc] rfl (by kernel_rfl) ?_
  refine W_rseq ?_
  refine op_box rfl _ (.slice _ _ _) rfl rfl H ?_
  rintro b5 w - H
  refine op_assign rfl (.int _ _) rfl ?_
  refine op_assign rfl (.bool _) rfl ?_
  refine op_assign rfl (.int _ _) rfl ?_
  refine op_nil (at_then ?_)
  refine W_rseq ?_
  refine op_move rfl (.pointer _) rfl ?_
  refine op_move rfl (.int _ _) rfl ?_
  refine op_ldb rfl ag_23 rfl H (by first | exact at0 | exact at1 | exact at2 | exact at3 | exact at4 | exact at5 | exact at6 | exact at7 | exact at8 | exact at9) rfl ?_
  have hx0 := H.ext
  refine op_call rfl ca_17_TrY (get7_ok (T.call hx0) hfr root ⟨hr1, hr2⟩ ka kc _ key (Rk.call hx0).1 rfl hfew (by omega)) rfl ?_
  rintro v w2 ⟨va, vc, u, rfl, hx17, -, -, -⟩
  rw [← hgt]
  replace H := H.call hx17
  refine op_move rfl (.tuple _) rfl ?_
  refine op_extract rfl rfl rfl ?_
  refine op_extract rfl rfl rfl ?_
  refine op_extract rfl rfl rfl ?_
  refine op_assign rfl (.slice _ _ _) rfl ?_
  refine op_assign rfl (.bool _) rfl ?_
  refine op_assign rfl (.int _ _) rfl ?_
  refine op_nil (at_then ?_)
  refine W_seq ?_
  refine W_rseq (Wops_join (α := Unit) 132120576 (fun _ => [(26, .bool (decide (gt.1 ≠ 0) || decide (gt.2.isSome = false)))]) (fun _ w' => Ctx w0 [] w' [(b5, Bl 23 [.slice ka key.length kc])]) rfl ?_ ?_)
  · refine op_move rfl (.int _ _) rfl ?_
    refine op_neq rfl rfl rfl ?_
    refine op_move rfl (.bool _) rfl ?_
    refine Wops_split 23 rfl ?_ ?_
    · intro h1
      replace h1 := ndec_t h1
      refine op_skip rfl ?_
      refine op_skip rfl ?_
      refine op_pick1 rfl rfl (.bool _) rfl ?_
      refine op_nil ?_
      exact ⟨rfl, (), rfl, ⟨congrArg Value.bool (by (first | rw [decide_eq_true (show gt.1 ≠ 0 from h1)] | rw [decide_eq_false (show ¬ gt.1 ≠ 0 from fun h => h h2)]); cases gt.2 <;> rfl), trivial⟩, H⟩
    · intro h2
      replace h2 := ndec_f h2
      refine op_move rfl (.bool _) rfl ?_
      refine op_not rfl rfl ?_
      refine op_pick0 rfl rfl (.bool _) rfl ?_
      refine op_nil ?_
      exact ⟨rfl, (), rfl, ⟨congrArg Value.bool (by (first | rw [decide_eq_true (show gt.1 ≠ 0 from h1)] | rw [decide_eq_false (show ¬ gt.1 ≠ 0 from fun h => h h2)]); cases gt.2 <;> rfl), trivial⟩, H⟩
  rintro - j26 w H
  refine W_cond _ rfl ?_ ?_
  · intro hA
    refine W_rseq ?_
    refine op_move rfl (.int _ _) rfl ?_
    refine op_move rfl (.int _ _) rfl ?_
    refine op_assign rfl (.int _ _) rfl ?_
    refine op_assign rfl (.bool _) rfl ?_
    refine op_assign rfl (.int _ _) rfl ?_
    refine op_nil (at_then ?_)
    refine W_ret (ret_then (leave3 (v1 := (.int _ _)) (v2 := (.bool _)) (v3 := (.int _ _)) rfl rfl rfl rfl rfl ?_))
    by_cases h0 : gt.1 = 0
    · rw [if_neg (by rw [h0]; simp), if_pos (by rw [h0] at hA; simpa using hA)] at hpt
      exact ⟨F, by rw [hpt, h0], by rw [hpt]; exact T.call H.ext, .call0 H.ext⟩
    · rw [if_pos h0] at hpt
      exact ⟨F, by rw [hpt], by rw [hpt]; exact T.call H.ext, .call0 H.ext⟩
  · intro hA
    have hA2 : gt.1 = 0 ∧ ¬ gt.2.isSome = false := by
      have h5 := hA
      rw [Bool.or_eq_false_iff] at h5
      exact ⟨by simpa using h5.1, of_decide_eq_false h5.2⟩
    rw [if_neg (by rw [hA2.1]; simp), if_neg hA2.2] at hpt
    have hroot : -1 ≤ root ∧ root ≤ 4294967296 := by
      have hpl := T.pg.len
      have h5 := hA2.1
      have hm : mayE P.length root = 0 := by
        by_cases hq : mayE P.length root = 0
        · exact hq
        · rw [hgt] at h5
          unfold getT at h5
          rw [if_pos hq] at h5
          cases h5
      unfold mayE at hm
      split at hm
      · cases hm
      · omega
    have hx1 := H.ext
    have h5 := H.get at0
    have ho5 := (H.own _ (List.mem_cons_self ..)).elim (fun h => by cases h) id
    have hM0 := T.mlt
    have T1 := T.call hx1
    have D : DoOk 75 [ptr b5] (delI key) w (MZ (TM F ba bt bp []) Z0) := fun w' M' t hlt a n c l I hn => cut1_ok7 hlt (t.keep h5 fun h => by have := hM0 _ (MZ0 _ h); dsimp only at ho5; omega) (((Rk.call hx1).weak MZ0).turn t) I hn
    have hokt : (turnC fr A P root key (delI key)).1 ≠ 99 := fun h => hok (by rw [hpt]; exact h)
    refine W_skip (at_then ?_)
    refine W_rseq ?_
    refine op_move rfl (.pointer _) rfl ?_
    refine op_move rfl (.int _ _) rfl ?_
    refine op_ldb rfl ag_23 rfl H (by first | exact at0 | exact at1 | exact at2 | exact at3 | exact at4 | exact at5 | exact at6 | exact at7 | exact at8 | exact at9) rfl ?_
    refine op_makeFuncL rfl [.pointer _] rfl ?_
    refine op_call rfl ca_72_TrY (turn7_ok ca_75_TrY hfr hkl T1 root hroot.1 hroot.2 Z0 (fun x h => h.elim) D ka kc ((Rk.call hx1).weak MZ0) hfew hmx hokt) rfl ?_
    rintro v w3 ⟨F3, rfl, T3, g3⟩
    refine op_move rfl (.tuple _) rfl ?_
    refine op_extract rfl rfl rfl ?_
    refine op_extract rfl rfl rfl ?_
    refine op_assign rfl (.int _ _) rfl ?_
    refine op_assign rfl (.int _ _) rfl ?_
    refine op_nil (at_then ?_)
    refine W_rseq ?_
    refine op_move rfl (.int _ _) rfl ?_
    refine op_move rfl (.int _ _) rfl ?_
    refine op_eql rfl rfl rfl ?_
    refine op_move rfl (.int _ _) rfl ?_
    refine op_assign rfl (.int _ _) rfl ?_
    refine op_assign rfl (.bool _) rfl ?_
    refine op_assign rfl (.int _ _) rfl ?_
    refine op_nil (at_then ?_)
    refine W_ret (leave3 (v1 := (.int _ _)) (v2 := (.bool _)) (v3 := (.int _ _)) rfl rfl rfl rfl rfl ?_)
    exact ⟨F3, by rw [hpt], by rw [hpt]; exact T3, (Grown.call0 hx1).trans g3⟩

end Go.Proofs.YtbkadlngijkmmaaGreatDoor

/- The nodes of a root, one behind the other: the walk. -/
namespace Go.Proofs.YtbkadlngijkmmaaGreatDoor
open Go.GV
attribute [local irreducible] Wops W Wq Wt

abbrev Nd := Int × Bool × List It
def kidsG (f : Int → Int × List Nd) : List It → Int × List Nd
  | [] => (0, [])
  | x :: l => if (f (x.page : Int)).1 ≠ 0 then f (x.page : Int) else ((kidsG f l).1, (f (x.page : Int)).2 ++ (kidsG f l).2)
/-- The nodes below a page, the upper ones first; an error ends it. -/
def eachG (A : Dev) (fr sz : Nat) : Nat → Int → Nat → Int × List Nd
  | 0, _, _ => (9, [])
  | n + 1, page, d => match (readT A fr sz page (d : Int)).2 with
    | none => ((readT A fr sz page (d : Int)).1, [])
    | some (false, l) => (0, [(page, false, l)])
    | some (true, l) => ((kidsG (fun p => eachG A fr sz n p (d + 1)) l).1, (page, true, l) :: (kidsG (fun p => eachG A fr sz n p (d + 1)) l).2)
/-- What the rounds over the nodes keep: which were there, what may turn. -/
structure JOk (bt bd bp ba fr : Nat) (A : Dev) (P : List Nat) (F Z : Mut) (N l : Nat) (J : List Nd → Mut → World → Prop) : Prop where
  lt : ∀ {v M w}, J v M w → ∀ x, M x → x < w.heap.size
  ext : ∀ {v M w w'}, J v M w → Ext [] w w' → J v M w'
  tx : ∀ {v M w}, J v M w → Tx w bt bd bp ba fr A P F []
  round : ∀ {v : List Nd} {M : Mut} {w : World} (page : Int) (i : Bool) (a : Option Addr) (n c : Nat) (L : List It), J v M w → v.length < N → Its w (MZ M Z) a n c L → L.length ≤ 65535 → (∀ x ∈ L, x.key.length ≤ 505 ∧ x.val.length ≤ 505) → -9223372036854775808 ≤ page ∧ page ≤ 9223372036854775807 →
    Go.GV.YieldAt Tryz.prog l [.int .i64 page, .agg #[.bool i, .slice a n c]] w fun u w' => u = .bool true ∧ ∃ M', J (v ++ [(page, i, L)]) M' w' ∧ Grown M M' w w'
def EaSpec (bt fr : Nat) (A : Dev) (sz : Nat) (Z : Mut) (N l : Nat) (J : List Nd → Mut → World → Prop) (n : Nat) : Prop :=
  ∀ {w : World} {M : Mut} {v : List Nd}, J v M w → (∀ x, Z x → x < w.heap.size) → ∀ (page : Int) (d : Nat), d + n = 17 → -9223372036854775808 ≤ page → page ≤ 9223372036854775807 → v.length + (eachG A fr sz (n + 1) page d).2.length ≤ N →
    Ret Tryz.prog 128 #[ptr bt, .int .i64 page, .int .i64 (d : Int), .func (.yield l) #[] #[]] w fun r w' => r = .tuple #[.bool (decide ((eachG A fr sz (n + 1) page d).1 = 0)), .int .i64 (eachG A fr sz (n + 1) page d).1] ∧ ∃ M', J (v ++ (eachG A fr sz (n + 1) page d).2) M' w' ∧ Grown M M' w w'

end Go.Proofs.YtbkadlngijkmmaaGreatDoor

/- The nodes of a root, as an iterator: the walk. -/
namespace Go.Proofs.YtbkadlngijkmmaaGreatDoor
open Go.GV
attribute [local irreducible] Wops W Wq Wt

def nodesG (A : Dev) (fr sz : Nat) (root : Int) : Int × List Nd := if root = -1 then (0, []) else eachG A fr sz 18 root 0
end Go.Proofs.YtbkadlngijkmmaaGreatDoor

/- Pages sorted; what rounds over nodes gather in a slice. -/
namespace Go.Proofs.YtbkadlngijkmmaaGreatDoor
open Go.GV
attribute [local irreducible] Wops W Wq Wt

def iv (x : Int) : Value := .int .i64 x
abbrev sortZ (l : List Int) : List Int := l.mergeSort fun x y => decide (x ≤ y)
/-! ### What the rounds gather -/
/-- The slice that rounds gather, in a cell of the function's own: b; the record of the loop: l. -/
structure GJ (w0 : World) (bt bd bp ba fr : Nat) (A : Dev) (P : List Nat) (F : Mut) (tL tE s b l : Nat) (lo : Loop) (vals : List Value) (M : Mut) (w : World) (a : Option Addr) (n c : Nat) (full : List Value) : Prop where
  M : M = fun x => x = l ∨ x ∈ ((b, Bl tL [.slice a n c]) :: ent a tE full).map (·.1)
  tx : Tx w bt bd bp ba fr A P F []
  loop : w.heap[l]? = some (.loop lo)
  blk : ∀ y ∈ (b, Bl tL [.slice a n c]) :: ent a tE full, w.heap[y.1]? = some y.2 ∧ w0.heap.size ≤ y.1 ∧ y.1 ≠ l
  nd : ((b, Bl tL [.slice a n c]) :: ent a tE full).Pairwise fun x y => x.1 ≠ y.1
  os : OS a n c s full vals
section
variable {w0 w wR wE wF : World} {bt bd bp ba fr : Nat} {A : Dev} {P : List Nat} {F M : Mut} {tL tE s b l : Nat} {lo lo2 : Loop} {vals vals' : List Value} {a a' : Option Addr} {n n' c c' : Nat} {full full' : List Value}
theorem GJ.lt (G : GJ w0 bt bd bp ba fr A P F tL tE s b l lo vals M w a n c full) : ∀ x, M x → x < w.heap.size := fun x h => by
  rw [G.M] at h
  rcases h with rfl | h
  · exact heap_lt G.loop
  · obtain ⟨y, hy, rfl⟩ := List.mem_map.1 h
    exact heap_lt (G.blk y hy).1
theorem GJ.ext (G : GJ w0 bt bd bp ba fr A P F tL tE s b l lo vals M w a n c full) {w' : World} (hx : Ext [] w w') : GJ w0 bt bd bp ba fr A P F tL tE s b l lo vals M w' a n c full :=
  ⟨G.M, G.tx.call hx, by rw [hx.block l (heap_lt G.loop) (by simp)]; exact G.loop, fun y hy => ⟨by rw [hx.block y.1 (heap_lt (G.blk y hy).1) (by simp)]; exact (G.blk y hy).1, (G.blk y hy).2⟩, G.nd, G.os⟩
/-- The round's body: the loop's record is busy. -/
theorem GJ.body (G : GJ w0 bt bd bp ba fr A P F tL tE s b l lo vals M w a n c full) (hxR : Ext [l] w wR) : Ctx wR (((b, Bl tL [.slice a n c]) :: ent a tE full).map (·.1)) wR ((b, Bl tL [.slice a n c]) :: ent a tE full) :=
  Ctx.startL (fun y hy => by rw [hxR.block y.1 (heap_lt (G.blk y hy).1) (by simpa using (G.blk y hy).2.2)]; exact (G.blk y hy).1) G.nd
theorem GJ.next (G : GJ w0 bt bd bp ba fr A P F tL tE s b l lo vals M w a n c full) (h0 : ∀ x, TM F ba bt bp [] x → x < w0.heap.size) (hl0 : w0.heap.size ≤ l) (hxR : Ext [l] w wR)
    (H : Ctx wR (((b, Bl tL [.slice a n c]) :: ent a tE full).map (·.1)) wE ((b, Bl tL [.slice a' n' c']) :: ent a' tE full')) (hO : OS a' n' c' s full' vals') (hxF : Ext [l] wE wF) (hlF : wF.heap[l]? = some (.loop lo)) :
    GJ w0 bt bd bp ba fr A P F tL tE s b l lo vals' (fun x => x = l ∨ x ∈ ((b, Bl tL [.slice a' n' c']) :: ent a' tE full').map (·.1)) wF a' n' c' full' ∧ Grown M (fun x => x = l ∨ x ∈ ((b, Bl tL [.slice a' n' c']) :: ent a' tE full').map (·.1)) w wF := by
  have hll := heap_lt G.loop
  have hsR := hxR.size
  have hnew : ∀ y ∈ (b, Bl tL [.slice a' n' c']) :: ent a' tE full', w0.heap.size ≤ y.1 ∧ y.1 ≠ l ∧ (y.1 ∈ ((b, Bl tL [.slice a n c]) :: ent a tE full).map (·.1) ∨ w.heap.size ≤ y.1) := fun y hy => by
    have hsz : w0.heap.size ≤ w.heap.size := by omega
    rcases H.own y hy with h | h
    · obtain ⟨z, hz, he⟩ := List.mem_map.1 h
      exact ⟨by rw [← he]; exact (G.blk z hz).2.1, by rw [← he]; exact (G.blk z hz).2.2, .inl h⟩
    · exact ⟨by omega, by omega, .inr (by omega)⟩
  have hx : Ext (l :: ((b, Bl tL [.slice a n c]) :: ent a tE full).map (·.1)) w wF :=
    ((hxR.mono (fun x h => by rw [List.mem_singleton.1 h]; exact List.mem_cons_self ..)).trans (H.ext.mono fun x h => List.mem_cons_of_mem _ h)).trans (hxF.mono fun x h => by rw [List.mem_singleton.1 h]; exact List.mem_cons_self ..)
  refine ⟨⟨rfl, G.tx.side hx fun x h hT => ?_, hlF, fun y hy => ⟨?_, (hnew y hy).1, (hnew y hy).2.1⟩, H.nd, hO⟩, ⟨⟨_, fun x h => ?_, hx⟩, fun x h => ?_⟩⟩
  · have := h0 x hT
    rcases List.mem_cons.1 h with rfl | h
    · omega
    · obtain ⟨y, hy, rfl⟩ := List.mem_map.1 h
      have := (G.blk y hy).2.1; omega
  · rw [hxF.block y.1 (heap_lt (H.blk y hy)) (by simpa using (hnew y hy).2.1)]; exact H.blk y hy
  · rw [G.M]
    rcases List.mem_cons.1 h with rfl | h
    · exact .inl rfl
    · exact .inr h
  · rw [G.M]
    rcases h with rfl | h
    · exact .inl (.inl rfl)
    · obtain ⟨y, hy, rfl⟩ := List.mem_map.1 h
      exact (hnew y hy).2.2.imp .inr id
end
/-- A body is left, its results in two cells. -/
theorem leaveM2cc {P : Program} {e : Env} {w : World} {fn : Func} {R : Value → World → Prop} {a1 a2 : Tmp} {t1 t2 : TypeId} {b1 b2 : Nat} (hr : fn.results = #[.cell a1 t1, .cell a2 t2]) (h1 : e.g a1 = .pointer (some ⟨b1, 0, none⟩)) (h2 : e.g a2 = .pointer (some ⟨b2, 0, none⟩)) (hg1 : aggB P t1 = some false) (hg2 : aggB P t2 = some false)
    (h : Marks e.ds w fun w' => ∃ v1 v2 x1 x2 l1 l2, w'.heap[b1]? = some (Bl x1 (v1 :: l1)) ∧ w'.heap[b2]? = some (Bl x2 (v2 :: l2)) ∧ R (.tuple #[v1, v2]) w') : QretM P fn R .ret e w :=
  Marks.mono (fun w' ⟨v1, v2, x1, x2, l1, l2, hb1, hb2, hR⟩ tmps ht => by
    have g1 := (ht a1).trans h1
    have g2 := (ht a2).trans h2
    rw [Array.getD_eq_getD_getElem?] at g1 g2
    have k1 : (loadVar t1 ⟨b1, 0, none⟩).run P w' = .ok v1 w' := run_load1 hg1 (by rw [cell_bl hb1]; rfl)
    have k2 : (loadVar t2 ⟨b2, 0, none⟩).run P w' = .ok v2 w' := run_load1 hg2 (by rw [cell_bl hb2]; rfl)
    exact ⟨_, by simp [results, hr, g1, g2, asAddr, k1, k2], hR⟩) h

end Go.Proofs.YtbkadlngijkmmaaGreatDoor

/- The pages of a root: the walk. -/
namespace Go.Proofs.YtbkadlngijkmmaaGreatDoor
open Go.GV
attribute [local irreducible] Wops W Wq Wt

def walkT (A : Dev) (fr sz : Nat) (root : Int) : Int × List Int :=
  if mayE sz root ≠ 0 then (1, []) else if (nodesG A fr sz root).1 ≠ 0 then ((nodesG A fr sz root).1, []) else (0, sortZ ((nodesG A fr sz root).2.map (·.1)))

end Go.Proofs.YtbkadlngijkmmaaGreatDoor

/- The pairs of a root: the walk. -/
namespace Go.Proofs.YtbkadlngijkmmaaGreatDoor
open Go.GV
attribute [local irreducible] Wops W Wq Wt

def prI (x : It) : Pr := (x.key, x.val)
def gathL (kf : Byt) (i : Bool) (l : List It) : List Pr := if i = true then [] else (l.filter fun x => decide (0 ≤ cmpB x.key kf)).map prI
def gathG (kf : Byt) (v : List Nd) : List Pr := v.flatMap fun x => gathL kf x.2.1 x.2.2
def upTo (kt : Byt) (L : List Pr) : List Pr := if kt = [] then L else L.takeWhile fun p => decide (cmpB p.1 kt < 0)
def scanT (A : Dev) (fr sz : Nat) (root : Int) (kf kt : Byt) : Int × List Pr :=
  if mayE sz root ≠ 0 then (1, []) else if (nodesG A fr sz root).1 ≠ 0 then ((nodesG A fr sz root).1, []) else (0, upTo kt (gathG kf (nodesG A fr sz root).2))
def encP (m : Im) : List Value := [.slice m.ka m.it.key.length m.kc, .slice m.va m.it.val.length m.vc]
/-- A slice of pairs. -/
structure Prs (w : World) (M : Mut) (a : Option Addr) (n c : Nat) (L : List Pr) : Prop where
  ex : ∃ ps : List Im, Rd w a 2 encP ps ∧ (ps = [] ∨ ¬ M (adr a).block) ∧ ps.map (fun m => prI m.it) = L ∧ ∀ m ∈ ps, m.Ok w M
  num : n = L.length
  le : n ≤ c
theorem Rdx.read {w w' : World} {M : Mut} {a : Option Addr} {l : Byt} {S : List Nat} (X : Rdx w M a l) (hx : Ext S w w') (hS : ∀ x ∈ S, M x) : Rd w' a 1 B8 l := by
  obtain ⟨R, hn⟩ := X
  rcases hn with rfl | hn
  · exact Rd.nil
  · exact R.ext hx fun h => hn (hS _ h)
/-- What Scan's rounds gather. -/
structure SJ (w0 : World) (bt bd bp ba fr : Nat) (A : Dev) (P : List Nat) (F : Mut) (b l : Nat) (lo : Loop) (b6 : Nat) (o6 : Obj) (Z : Mut) (kf : Byt) (v : List Nd) (M : Mut) (w : World) (a : Option Addr) (n c : Nat) (full : List Value) (ps : List Im) : Prop where
  G : GJ w0 bt bd bp ba fr A P F 28 70 2 b l lo (ps.flatMap encP) M w a n c full
  x0 : Ext [] w0 w
  prs : ps.map (fun m => prI m.it) = gathG kf v
  ok : ∀ m ∈ ps, m.Ok w (MZ M Z)
  h6 : w.heap[b6]? = some o6
  n6 : ¬ M b6
theorem SJ.ext {w0 w w' : World} {bt bd bp ba fr : Nat} {A : Dev} {P : List Nat} {F : Mut} {b l : Nat} {lo : Loop} {b6 : Nat} {o6 : Obj} {Z : Mut} {kf : Byt} {v : List Nd} {M : Mut} {a : Option Addr} {n c : Nat} {full : List Value} {ps : List Im} (S : SJ w0 bt bd bp ba fr A P F b l lo b6 o6 Z kf v M w a n c full ps) (hx : Ext [] w w') : SJ w0 bt bd bp ba fr A P F b l lo b6 o6 Z kf v M w' a n c full ps :=
  ⟨S.G.ext hx, S.x0.trans hx, S.prs, fun m hm => (S.ok m hm).call hx, by rw [hx.block b6 (heap_lt S.h6) (by simp)]; exact S.h6, S.n6⟩

end Go.Proofs.YtbkadlngijkmmaaGreatDoor

/- []byte of a constant. It holds for every program. -/
namespace Go.GV
open Go

section
variable {P : Program} {r : Option Nat} {ops rest : List Oper} {Q : Exit → Env → World → Prop} {e : Env} {w w0 : World} {S : List Nat} {L : List (Nat × Obj)}
  {dst : Option Tmp} {ty : TypeId} {pos : String} {af : Array Edge} {g : Option (Nat × Bool)}

end
end Go.GV

/- The document's pairs: the same, got: the walks. -/
namespace Go.Proofs.YtbkadlngijkmmaaGreatDoor
open Go.GV
attribute [local irreducible] Wops W Wq Wt

theorem Prs.turn {w w' : World} {M M' : Mut} {a : Option Addr} {n c : Nat} {L : List Pr} (h : Prs w M a n c L) (t : Grown M M' w w') : Prs w' M' a n c L := by
  obtain ⟨ps, R, hs, hl, hm⟩ := h.ex
  obtain ⟨R', hs'⟩ := Rd.turnM R hs (by decide) (fun _ _ => rfl) t
  exact ⟨⟨ps, R', hs', hl, fun m hx => (hm m hx).turn t⟩, h.num, h.le⟩
theorem Prs.weak {w : World} {M M' : Mut} {a : Option Addr} {n c : Nat} {L : List Pr} (h : Prs w M a n c L) (hM : ∀ x, M' x → M x) : Prs w M' a n c L := by
  obtain ⟨ps, R, hs, hl, hm⟩ := h.ex
  exact ⟨⟨ps, R, hs.imp id fun h h2 => h (hM _ h2), hl, fun m hx => (hm m hx).weak hM⟩, h.num, h.le⟩
theorem Prs.nil {w : World} {M : Mut} : Prs w M none 0 0 [] := ⟨⟨[], Rd.nil, .inl rfl, rfl, fun m h => by cases h⟩, rfl, Nat.le_refl _⟩
end Go.Proofs.YtbkadlngijkmmaaGreatDoor

/- Plain law of the tree: what is done to a leaf, done below a page. -/
namespace Go.Proofs.YtbkadlngijkmmaaGreatDoor
open Go.GV

theorem tw_get {α : Type} {p : α → Bool} : ∀ (T : List α), (∀ j x, j < (T.takeWhile p).length → T[j]? = some x → p x = true) ∧ (∀ x, T[(T.takeWhile p).length]? = some x → p x = false)
  | [] => ⟨fun j x h => absurd h (Nat.not_lt_zero _), fun x h => by cases h⟩
  | y :: T => by
    obtain ⟨h1, h2⟩ := tw_get (p := p) T
    by_cases hy : p y = true
    · rw [List.takeWhile_cons, hy]
      simp only [if_true, List.length_cons]
      refine ⟨fun j x hj hx => ?_, fun x hx => h2 x (by simpa using hx)⟩
      cases j with
      | zero => simp only [List.getElem?_cons_zero, Option.some.injEq] at hx; rw [← hx]; exact hy
      | succ j => exact h1 j x (by omega) (by simpa using hx)
    · have hy : p y = false := by simpa using hy
      rw [List.takeWhile_cons, hy]
      refine ⟨fun j x h => absurd h (Nat.not_lt_zero _), fun x hx => ?_⟩
      have : y = x := by simpa using hx
      rw [← this]; exact hy
theorem first_le {L : List Pr} (hr : Rising L) {k : Byt} (hk : L[0]?.map (·.1) = some k) : ∀ p ∈ L, ¬ ltB p.1 k := by
  cases L with
  | nil => cases hk
  | cons q L =>
    have hq : q.1 = k := by simpa using hk
    intro p hp
    rcases List.mem_cons.1 hp with rfl | hp
    · rw [hq]; exact ltB_irrefl _
    · rw [← hq]; exact ltB_asymm ((List.pairwise_cons.1 hr).1 p hp)
theorem Kids.first {Q : Nat → List Pr → List Nat → Prop} {x : It} {l : List It} {L : List Pr} {S : List Nat} (h : Kids Q (x :: l) L S) : L[0]?.map (·.1) = some x.key := by
  obtain ⟨L1, L2, S1, S2, rfl, rfl, h1, h2, h3, h4⟩ := h
  cases L1 with
  | nil => cases h2
  | cons y L1 => exact h2
/-- The child below which a key lies. -/
theorem below_split {Q : Nat → List Pr → List Nat → Prop} {l : List It} {L : List Pr} {S : List Nat} (hk : Kids Q l L S) (hr : Rising L) (hl : l ≠ []) (key : Byt) :
    ∃ a x b La Lx Lb Sa Sx Sb, l = a ++ x :: b ∧ a.length = belowN l key ∧ L = La ++ (Lx ++ Lb) ∧ S = Sa ++ (Sx ++ Sb) ∧ Kids Q a La Sa ∧ Q x.page Lx Sx ∧ Lx[0]?.map (·.1) = some x.key ∧ x.val = [] ∧ Kids Q b Lb Sb ∧ (∀ p ∈ La, ltB p.1 key) ∧ (∀ p ∈ Lb, ltB key p.1) := by
  have hi := belowN_lt hl key
  obtain ⟨t1, t2⟩ := tw_get (p := fun x : It => decide (cmpB x.key key ≤ 0)) l.tail
  obtain ⟨x, hx⟩ := get_some (l := l) (i := belowN l key) hi
  have hsp : l = l.take (belowN l key) ++ x :: l.drop (belowN l key + 1) := by
    rw [← drop_cons hx, List.take_append_drop]
  have hk' := hk
  rw [hsp] at hk'
  obtain ⟨La, Lr, Sa, Sr, rfl, rfl, ka, kr⟩ := Kids_append.1 hk'
  obtain ⟨Lx, Lb, Sx, Sb, rfl, rfl, q1, q2, q3, kb⟩ := kr
  obtain ⟨r1, r2, r3⟩ := Rising.append.1 hr
  obtain ⟨r4, r5, r6⟩ := Rising.append.1 r2
  refine ⟨_, x, _, La, Lx, Lb, Sa, Sx, Sb, hsp, by rw [List.length_take]; omega, rfl, rfl, ka, q1, q2, q3, kb, fun p hp => ?_, fun p hp => ?_⟩
  · rcases Nat.eq_zero_or_pos (belowN l key) with h0 | h0
    · rw [h0, List.take_zero] at ka
      rw [ka.1] at hp; cases hp
    · have h5 := t1 (belowN l key - 1) x (by show _ < belowN l key; omega) (by rw [List.getElem?_tail, Nat.sub_add_cancel h0]; exact hx)
      have h6 := cmpB_le.1 (of_decide_eq_true h5)
      cases Lx with
      | nil => cases q2
      | cons y Lx =>
        have hy : y.1 = x.key := by simpa using q2
        exact lt_leB (hy ▸ r3 p hp y (by simp)) h6
  · cases hb : l.drop (belowN l key + 1) with
    | nil =>
      rw [hb] at kb
      rw [kb.1] at hp; cases hp
    | cons y b =>
      rw [hb] at kb
      have h5 := t2 y (by
        show l.tail[belowN l key]? = some y
        rw [List.getElem?_tail]
        have : (l.drop (belowN l key + 1))[0]? = some y := by rw [hb]; rfl
        rw [List.getElem?_drop] at this; exact this)
      have h6 : ltB key y.key := by
        have := of_decide_eq_false h5
        rcases ltB_tri key y.key with h7 | h7 | h7
        · exact h7
        · exact absurd (cmpB_le.2 (by rw [h7]; exact ltB_irrefl _)) this
        · exact absurd (cmpB_le.2 (ltB_asymm h7)) this
      exact lt_leB h6 (first_le r5 kb.first p hp)
/-- What a key's leaf has, and all pairs, once something is done. -/
structure Acts (key : Byt) (G : List It → List It) (g : List Pr → List Pr) : Prop where
  leaf : ∀ L, Rising L → OkP L → G (L.map leafI) = (g L).map leafI
  mid : ∀ A L B, (∀ p ∈ A, ltB p.1 key) → (∀ p ∈ B, ltB key p.1) → g (A ++ (L ++ B)) = A ++ (g L ++ B)
  ok : ∀ L, OkP L → OkP (g L)
  size : ∀ L, Rising L → OkP L → totalI false ((g L).map leafI) ≤ totalI false (L.map leafI) + 164
structure Eds (fr h : Nat) (L : List Pr) (S t g' : List Nat) (r : Int × Ch × Bool × List It) : Prop where
  ok : r.1 = 0
  on : On fr r.2.1
  part : ∃ S', Part (RD r.2.1.A fr) h r.2.2.1 r.2.2.2 L S' ∧ (S' ++ g').Perm (S ++ t) ∧ Held r.2.1.P S'
  ne : 0 < h → r.2.2.2 ≠ []
  sz : totalI r.2.2.1 r.2.2.2 ≤ 667
theorem OkP.sub {L L' : List Pr} (h : OkP L) (hs : ∀ p ∈ L', p ∈ L) : OkP L' := fun p hp => h p (hs p hp)
theorem OkP.app {L L' : List Pr} (h : OkP L) (h' : OkP L') : OkP (L ++ L') := fun p hp => (List.mem_append.1 hp).elim (h p) (h' p)
theorem rdC_of {fr : Nat} {c : Ch} {p d : Nat} (h : (readT c.A fr c.P.length (p : Int) (d : Int)).1 = 0) : rdC fr c p d = { c with gn := c.gn ++ [p] } := by
  unfold rdC; rw [if_pos h]
theorem pageAt_mid {a b : List It} {x : It} {i : Nat} (h : a.length = i) : pageAt (a ++ x :: b) i = x.page := by
  subst h; unfold pageAt; simp
theorem Lies.read {fr h p d : Nat} {c : Ch} {L : List Pr} {S : List Nat} (hL : Lies (RD c.A fr) h p L S) (hh : Held c.P S) (hn : On fr c) (hd : d ≤ 16) :
    ∃ i M S', readT c.A fr c.P.length (p : Int) (d : Int) = (0, some (i, M)) ∧ Part (RD c.A fr) h i M L S' ∧ S = p :: S' ∧ Many i M ∧ totalI i M ≤ 503 := by
  have hp := hh.lt hL.page
  obtain ⟨i, M, S', h1, h2, h3, h4, h5⟩ := hL
  exact ⟨i, M, S', readT_of hn.on hp hn.has hd h2, h1, h3, h4, h5⟩
theorem Part.inner0 {R : Nat → Option (Bool × List It)} {i : Bool} {M : List It} {L : List Pr} {S : List Nat} (h : Part R 0 i M L S) : i = false := h.1
theorem Kids.total {R : Nat → Option (Bool × List It)} {h : Nat} {l : List It} {L : List Pr} {S : List Nat} (hk : Kids (Lies R h) l L S) (ho : OkP L) : totalI true l ≤ 38 * l.length :=
  total_max fun x hx => by have := (hk.items ho x hx).2.1; show 6 + x.key.length ≤ 38; omega

/-- The child that was edited, with a neighbour if it has too few: what is put. -/
structure Sides (fr h : Nat) (c : Ch) (l : List It) (La Lx' Lb : List Pr) (Sa Sx' Sb g' : List Nat) (i : Bool) (s : Int × Ch × List It × Nat × Nat) : Prop where
  ok : s.1 = 0
  ci : CI fr c s.2.1 [] g'
  on : On fr s.2.1
  many : (s.2.2.1 = [] ∧ h = 0) ∨ Many i s.2.2.1
  sz : totalI i s.2.2.1 ≤ 667
  part : ∃ (a b : List It) (L1 L2 L3 : List Pr) (S1 S2 S3 : List Nat), l.take s.2.2.2.1 = a ∧ l.drop s.2.2.2.2 = b ∧ totalI true a + totalI true b ≤ 503 ∧ 1 ≤ a.length + b.length + (if s.2.2.1 = [] then 0 else 1) ∧ Kids (Lies (RD c.A fr) h) a L1 S1 ∧ Part (RD c.A fr) h i s.2.2.1 L2 S2 ∧ Kids (Lies (RD c.A fr) h) b L3 S3 ∧
    L1 ++ (L2 ++ L3) = La ++ (Lx' ++ Lb) ∧ (S1 ++ (S2 ++ (S3 ++ g'))).Perm (Sa ++ (Sx' ++ Sb))
theorem side_spec {fr h d : Nat} {c : Ch} {l a b : List It} {x : It} {i : Bool} {M : List It} {La Lx Lb : List Pr} {Sa Sx Sb : List Nat}
    (hl : l = a ++ x :: b) (h2 : 2 ≤ l.length) (hT : totalI true l ≤ 503) (ka : Kids (Lies (RD c.A fr) h) a La Sa) (kb : Kids (Lies (RD c.A fr) h) b Lb Sb) (hp : Part (RD c.A fr) h i M Lx Sx)
    (hoa : OkP La) (hox : OkP Lx) (hob : OkP Lb) (hha : Held c.P Sa) (hhx : Held c.P Sx) (hhb : Held c.P Sb) (hn : On fr c) (hd : d + 1 ≤ 16) (hne : 0 < h → M ≠ []) (hz : totalI i M ≤ 667) :
    ∃ g', Sides fr h c l La Lx Lb Sa Sx Sb g' i (sideC fr c l a.length d i M) := by
  have hta := totalI_append true a (x :: b)
  have htb := totalI_cons true x b
  by_cases hf : few1 i M = true
  · have hi : i = true := by unfold few1 at hf; simp at hf; exact hf.1
    have hM : M.length = 1 := by unfold few1 at hf; simp at hf; exact hf.2
    cases h with
    | zero => rw [hp.inner0] at hi; cases hi
    | succ h =>
      obtain ⟨_, kx⟩ := hp
      have hxt := Kids.total kx hox
      rw [hM] at hxt
      subst hi
      have key : ∀ (pre post : List It) (y : It) (Ly : List Pr) (Sy : List Nat), Lies (RD c.A fr) (h + 1) y.page Ly Sy → OkP Ly → Held c.P Sy → pageAt l (sideK a.length) = y.page →
          sideK a.length < l.length → ∃ o So, Kids (Lies (RD c.A fr) h) o Ly So ∧ Sy = y.page :: So ∧ 2 ≤ o.length ∧ totalI true o ≤ 503 ∧ CI fr c (rdC fr c y.page (d + 1)) [] [y.page] ∧ On fr (rdC fr c y.page (d + 1)) ∧
          sideC fr c l a.length d true M = (0, rdC fr c y.page (d + 1), if a.length = 0 then M ++ o else o ++ M, a.length - 1, if a.length = 0 then 2 else a.length + 1) := by
        intro pre post y Ly Sy hy hoy hhy hpy hlt
        obtain ⟨i2, o, So, r1, r2, r3, r4, r5⟩ := hy.read hhy hn (d := d + 1) hd
        obtain ⟨rfl, ko⟩ := r2
        have r1' : (readT c.A fr c.P.length ((y.page : Nat) : Int) ((d + 1 : Nat) : Int)).1 = 0 := by rw [r1]
        have hrd := rdC_of r1'
        refine ⟨o, So, ko, r3, r4, r5, by rw [hrd]; exact CI.gone _ _ _, by rw [hrd]; exact ⟨hn.on, hn.has, hn.few⟩, ?_⟩
        unfold sideC
        rw [if_pos hf, if_neg (by omega), hpy, r1]
      by_cases ha0 : a = []
      · subst ha0
        cases b with
        | nil => rw [hl] at h2; simp at h2
        | cons y b =>
          obtain ⟨Ly, L2, Sy, S2, rfl, rfl, y1, y2, y3, y4⟩ := kb
          have hty := totalI_cons true y b
          obtain ⟨o, So, ko, rfl, o2, o3, ci, on', hs⟩ := key [] b y Ly Sy y1 (hob.sub fun p hp => List.mem_append_left _ hp) (hhb.sub fun p hp => List.mem_append_left _ hp) (by rw [hl]; rfl) (by rw [hl]; simp [sideK])
          obtain ⟨rfl, rfl⟩ := ka
          rw [hs]
          refine ⟨[y.page], rfl, ci, on', .inr ?_, ?_, [], b, [], Lx ++ Ly, L2, [], Sx ++ So, S2, rfl, by rw [hl]; rfl, ?_, ?_, ⟨rfl, rfl⟩, ?_, y4, by simp, ?_⟩
          · show 2 ≤ (M ++ o).length
            rw [List.length_append]; omega
          · show totalI true (M ++ o) ≤ 667
            rw [totalI_append]; omega
          · have e0 : totalI true ([] : List It) = 0 := rfl
            rw [hl] at hT; omega
          · have : (if (List.length ([] : List It) = 0) then M ++ o else o ++ M) ≠ [] := by
              intro e; have h9 : (M ++ o).length = 0 := congrArg List.length e
              rw [List.length_append] at h9; omega
            show 1 ≤ _ + (if _ = [] then 0 else 1)
            rw [if_neg this]; omega
          · exact ⟨rfl, Kids_append.2 ⟨Lx, Ly, Sx, So, rfl, rfl, kx, ko⟩⟩
          · rw [List.perm_iff_count]
            intro z
            simp only [List.count_append, List.count_cons, List.count_nil]
            omega
      · obtain ⟨a', y, rfl⟩ : ∃ a' y, a = a' ++ [y] := ⟨a.dropLast, a.getLast ha0, (List.dropLast_concat_getLast ha0).symm⟩
        obtain ⟨La', Lr, Sa', Sr, rfl, rfl, ka', kr⟩ := Kids_append.1 ka
        obtain ⟨Ly, L0, Sy, S0, rfl, rfl, y1, y2, y3, y4⟩ := kr
        obtain ⟨rfl, rfl⟩ := y4
        have hal : (a' ++ [y]).length = a'.length + 1 := by simp
        have hll : l = a' ++ y :: x :: b := by rw [hl]; simp
        have hty := totalI_append true a' [y]
        have htb2 : totalI true [y] = sizeI true y := by simp [totalI]
        obtain ⟨o, So, ko, rfl, o2, o3, ci, on', hs⟩ := key a' b y Ly Sy y1 (hoa.sub fun p hp => by simp [hp]) (hha.sub fun p hp => by simp [hp]) (by rw [hll, hal]; exact pageAt_mid (by simp [sideK])) (by rw [hll, hal]; simp [sideK])
        rw [hs]
        refine ⟨[y.page], rfl, ci, on', .inr ?_, ?_, a', b, La', Ly ++ Lx, Lb, Sa', So ++ Sx, Sb, ?_, ?_, ?_, ?_, ka', ?_, kb, by simp, ?_⟩
        · show 2 ≤ (if (a' ++ [y]).length = 0 then M ++ o else o ++ M).length
          rw [if_neg (by omega), List.length_append]; omega
        · show totalI true (if (a' ++ [y]).length = 0 then M ++ o else o ++ M) ≤ 667
          rw [if_neg (by omega), totalI_append]; omega
        · show l.take ((a' ++ [y]).length - 1) = a'
          rw [hll, hal]; simp
        · show l.drop (if (a' ++ [y]).length = 0 then 2 else (a' ++ [y]).length + 1) = b
          rw [if_neg (by omega), hl]
          rw [List.drop_append, List.drop_of_length_le (by omega)]
          simp
        · rw [hl, hta, htb, hty] at hT; omega
        · show 1 ≤ _ + (if (if (a' ++ [y]).length = 0 then M ++ o else o ++ M) = [] then 0 else 1)
          rw [if_neg (c := (a' ++ [y]).length = 0) (by omega), if_neg]
          · omega
          · intro e; have h9 : (o ++ M).length = 0 := congrArg List.length e
            rw [List.length_append] at h9; omega
        · show Part _ _ _ (if (a' ++ [y]).length = 0 then M ++ o else o ++ M) _ _
          rw [if_neg (by omega)]
          exact ⟨rfl, Kids_append.2 ⟨Ly, Lx, So, Sx, rfl, rfl, ko, kx⟩⟩
        · rw [List.perm_iff_count]
          intro z
          simp only [List.count_append, List.count_cons, List.count_nil]
          omega
  · have hs : sideC fr c l a.length d i M = (0, c, M, a.length, a.length + 1) := by unfold sideC; rw [if_neg hf]
    rw [hs]
    refine ⟨[], rfl, CI.refl _ _, hn, ?_, hz, a, b, La, Lx, Lb, Sa, Sx, Sb, by rw [hl]; simp, ?_, ?_, ?_, ka, hp, kb, rfl, by simp⟩
    · show (M = [] ∧ h = 0) ∨ Many i M
      cases h with
      | zero =>
        by_cases hM : M = []
        · exact .inl ⟨hM, rfl⟩
        · right; rw [hp.inner0]; exact hM
      | succ h =>
        right
        have hM := hne (by omega)
        obtain ⟨rfl, _⟩ := hp
        show 2 ≤ M.length
        have : ¬ M.length = 1 := fun h => hf (by unfold few1; rw [decide_eq_true h]; rfl)
        have := List.length_pos_iff.2 hM
        omega
    · show l.drop (a.length + 1) = b
      rw [hl, List.drop_append, List.drop_of_length_le (by omega)]; simp
    · rw [hl, hta, htb] at hT; omega
    · have : l.length = a.length + b.length + 1 := by rw [hl]; simp; omega
      omega

theorem edit_spec {fr : Nat} {key : Byt} {G : List It → List It} {g : List Pr → List Pr} (act : Acts key G g) : ∀ (h n : Nat) (c : Ch) (p d : Nat) (L : List Pr) (S : List Nat), Lies (RD c.A fr) h p L S → Rising L → OkP L → Held c.P S → On fr c → d + h ≤ 16 → h < n →
    ∃ t g', CI fr c (editC fr G key n c p d).2.1 t g' ∧ t.length ≤ 2 * h ∧ (Eds fr h (g L) S t g' (editC fr G key n c p d) ∨ Bad c (editC fr G key n c p d).1 (2 * h))
  | 0, n + 1, c, p, d, L, S, hL, hr, ho, hh, hn, hd, hf => by
    obtain ⟨i, M, S', r1, r2, r3, r4, r5⟩ := hL.read hh hn (d := d) (by omega)
    obtain ⟨rfl, rfl, rfl⟩ := r2
    subst r3
    have hrd := rdC_of (fr := fr) (c := c) (p := p) (d := d) (by rw [r1])
    have he : editC fr G key (n + 1) c p d = (0, { c with gn := c.gn ++ [p] }, false, G (L.map leafI)) := by
      rw [editC, r1]; dsimp only; rw [hrd]
    rw [he, act.leaf L hr ho]
    refine ⟨[], [p], CI.gone _ _ _, by simp, .inl ⟨rfl, ⟨hn.on, hn.has, hn.few⟩, ⟨[], ⟨rfl, rfl, rfl⟩, by simp, fun x hx => by cases hx⟩, fun h => absurd h (Nat.lt_irrefl 0), ?_⟩⟩
    have := act.size L hr ho
    show totalI false (List.map leafI (g L)) ≤ 667
    omega
  | h + 1, n + 1, c, p, d, L, S, hL, hr, ho, hh, hn, hd, hf => by
    obtain ⟨i, l, S0, r1, r2, r3, r4, r5⟩ := hL.read hh hn (d := d) (by omega)
    obtain ⟨rfl, hk'⟩ := r2
    have hk : Kids (Lies (RD c.A fr) h) l L S0 := hk'
    subst r3
    have hrd := rdC_of (fr := fr) (c := c) (p := p) (d := d) (by rw [r1])
    have hci := CI.gone fr c p
    rw [← hrd] at hci
    have hn1 : On fr (rdC fr c p d) := by rw [hrd]; exact ⟨hn.on, hn.has, hn.few⟩
    obtain ⟨a, x, b, La, Lx, Lb, Sa, Sx, Sb, rfl, hal, rfl, rfl, ka, q1, q2, q3, kb, hlo, hhi⟩ := below_split hk hr r4.ne key
    have hh0 : Held c.P (Sa ++ (Sx ++ Sb)) := hh.sub fun x hx => List.mem_cons_of_mem _ hx
    have hha : Held c.P Sa := hh0.sub fun x hx => by simp [hx]
    have hhx : Held c.P Sx := hh0.sub fun x hx => by simp [hx]
    have hhb : Held c.P Sb := hh0.sub fun x hx => by simp [hx]
    have hoa : OkP La := ho.sub fun x hx => by simp [hx]
    have hox : OkP Lx := ho.sub fun x hx => by simp [hx]
    have hob : OkP Lb := ho.sub fun x hx => by simp [hx]
    have hrx : Rising Lx := (Rising.append.1 (Rising.append.1 hr).2.1).1
    obtain ⟨t1, g1, e1, e2, e3⟩ := edit_spec act h n (rdC fr c p d) x.page (d + 1) Lx Sx (q1.frame (hci.rd hhx)) hrx hox (hhx.keep hci) hn1 (by omega) (by omega)
    have hpg : pageAt (a ++ x :: b) (belowN (a ++ x :: b) key) = x.page := pageAt_mid hal
    obtain ⟨r, hrr⟩ : ∃ r, r = editC fr G key n (rdC fr c p d) x.page (d + 1) := ⟨_, rfl⟩
    rw [← hrr] at e1 e3
    have he : editC fr G key (n + 1) c p d = if r.1 ≠ 0 then (r.1, r.2.1, true, []) else
        if (sideC fr r.2.1 (a ++ x :: b) a.length d r.2.2.1 r.2.2.2).1 ≠ 0 then ((sideC fr r.2.1 (a ++ x :: b) a.length d r.2.2.1 r.2.2.2).1, (sideC fr r.2.1 (a ++ x :: b) a.length d r.2.2.1 r.2.2.2).2.1, true, []) else
        ((putS fr (sideC fr r.2.1 (a ++ x :: b) a.length d r.2.2.1 r.2.2.2).2.1 r.2.2.1 (sideC fr r.2.1 (a ++ x :: b) a.length d r.2.2.1 r.2.2.2).2.2.1).1,
         (putS fr (sideC fr r.2.1 (a ++ x :: b) a.length d r.2.2.1 r.2.2.2).2.1 r.2.2.1 (sideC fr r.2.1 (a ++ x :: b) a.length d r.2.2.1 r.2.2.2).2.2.1).2.1, true,
         (a ++ x :: b).take (sideC fr r.2.1 (a ++ x :: b) a.length d r.2.2.1 r.2.2.2).2.2.2.1 ++ ((putS fr (sideC fr r.2.1 (a ++ x :: b) a.length d r.2.2.1 r.2.2.2).2.1 r.2.2.1 (sideC fr r.2.1 (a ++ x :: b) a.length d r.2.2.1 r.2.2.2).2.2.1).2.2 ++ (a ++ x :: b).drop (sideC fr r.2.1 (a ++ x :: b) a.length d r.2.2.1 r.2.2.2).2.2.2.2)) := by
      rw [editC, r1]; dsimp only; rw [hpg, ← hrr, ← hal]
    rw [he]
    have hci1 := hci.trans e1
    rw [List.nil_append] at hci1
    rcases e3 with e3 | e3
    · obtain ⟨S1, p1, p2, p3⟩ := e3.part
      rw [if_neg (by rw [e3.ok]; simp)]
      have hn2 := e3.on
      have h4 : 2 ≤ (a ++ x :: b).length := r4
      obtain ⟨g2, sd⟩ := side_spec (fr := fr) (c := r.2.1) (d := d) rfl h4 r5 (ka.frame (hci1.rd hha)) (kb.frame (hci1.rd hhb)) p1 hoa (act.ok _ hox) hob (hha.keep hci1) p3 (hhb.keep hci1) hn2 (by omega) e3.ne e3.sz
      obtain ⟨s, hss⟩ : ∃ s, s = sideC fr r.2.1 (a ++ x :: b) a.length d r.2.2.1 r.2.2.2 := ⟨_, rfl⟩
      rw [← hss] at sd ⊢
      rw [if_neg (by rw [sd.ok]; simp)]
      obtain ⟨a', b', L1, L2, L3, S1', S2', S3', s1, s2, s3, s4, s5, s6, s7, s8, s9⟩ := sd.part
      have hci2 := hci1.trans sd.ci
      rw [List.append_nil] at hci2
      have hall : Held r.2.1.P (S1' ++ (S2' ++ (S3' ++ g2))) := by
        intro z hz
        have := s9.mem_iff.1 hz
        rcases List.mem_append.1 this with h5 | h5
        · exact (hha.keep hci1) z h5
        · rcases List.mem_append.1 h5 with h5 | h5
          · exact p3 z h5
          · exact (hhb.keep hci1) z h5
      have hO : OkP (L1 ++ (L2 ++ L3)) := by rw [s8]; exact hoa.app ((act.ok _ hox).app hob)
      have hO2 : OkP L2 := hO.sub fun p hp => by simp [hp]
      have hH2 : Held r.2.1.P S2' := hall.sub fun p hp => by simp [hp]
      have hH1 : Held r.2.1.P S1' := hall.sub fun p hp => by simp [hp]
      have hH3 : Held r.2.1.P S3' := hall.sub fun p hp => by simp [hp]
      obtain ⟨t2, u1, u2, u3⟩ := put_spec (s6.frame (sd.ci.rd hH2)) hO2 (hH2.keep sd.ci) sd.on sd.many sd.sz
      have hci3 := hci2.trans u1
      rw [List.append_nil] at hci3
      refine ⟨_, _, hci3, by rw [List.length_append]; omega, ?_⟩
      rcases u3 with u3 | u3
      · obtain ⟨S4, k1, k2, k3⟩ := u3.kids
        left
        have hfin := sd.ci.trans u1
        have hk1 := s5.frame (hfin.rd hH1)
        have hk3 := s7.frame (hfin.rd hH3)
        have ht1 := Kids.total k1 hO2
        have hnum := u3.num
        refine ⟨u3.ok, u3.on, ⟨S1' ++ (S4 ++ S3'), ⟨rfl, ?_⟩, ?_, ?_⟩, fun _ => ?_, ?_⟩
        · rw [act.mid La Lx Lb hlo hhi, ← s8, s1, s2]
          exact Kids_append.2 ⟨_, _, _, _, rfl, rfl, hk1, Kids_append.2 ⟨_, _, _, _, rfl, rfl, k1, hk3⟩⟩
        · rw [List.perm_iff_count] at *
          intro z
          have e1 := p2 z; have e2 := s9 z; have e3 := k2 z
          simp only [List.count_append, List.count_cons, List.count_nil] at *
          omega
        · exact (hH1.keep hfin).app (k3.app (hH3.keep hfin))
        · show (a ++ x :: b).take s.2.2.2.1 ++ (_ ++ (a ++ x :: b).drop s.2.2.2.2) ≠ []
          rw [s1, s2]
          intro e
          have e' := congrArg List.length e
          simp only [List.length_append, List.length_nil] at e'
          by_cases h9 : s.2.2.1 = []
          · rw [if_pos h9] at s4; omega
          · have := List.length_pos_iff.2 (u3.ne h9); omega
        · show totalI true ((a ++ x :: b).take s.2.2.2.1 ++ (_ ++ (a ++ x :: b).drop s.2.2.2.2)) ≤ 667
          rw [s1, s2, totalI_append, totalI_append]
          have : 38 * (putS fr s.2.1 r.2.2.1 s.2.2.1).2.2.length ≤ 38 * 2 := Nat.mul_le_mul_left _ hnum
          omega
      · right
        exact u3.back hci2 (by omega)
    · rw [if_pos e3.ne]
      refine ⟨t1, _, hci1, by omega, .inr ?_⟩
      exact (e3.back hci (m' := 2 * h) (by simp)).mono (by omega)

end Go.Proofs.YtbkadlngijkmmaaGreatDoor

/- Plain law of the tree: a root, something done to it. -/
namespace Go.Proofs.YtbkadlngijkmmaaGreatDoor
open Go.GV

theorem pow_split (h : Nat) : 2 ^ (h + 1) = 2 ^ h + 2 ^ h := by rw [Nat.pow_succ]; omega
theorem Kids.count {R : Nat → Option (Bool × List It)} {h : Nat} (ih : ∀ p L S, Lies R h p L S → 2 ^ (h + 1) ≤ S.length + 1 ∧ S.length + 1 ≤ 2 * L.length) : ∀ {l : List It} {L : List Pr} {S : List Nat}, Kids (Lies R h) l L S → l.length * 2 ^ (h + 1) ≤ S.length + l.length ∧ S.length + l.length ≤ 2 * L.length
  | [], _, _, ⟨rfl, rfl⟩ => by simp
  | x :: l, _, _, ⟨L1, L2, S1, S2, rfl, rfl, h1, _, _, h4⟩ => by
    have a := ih _ _ _ h1
    have b := Kids.count ih h4
    simp only [List.length_cons, List.length_append, Nat.succ_mul, Nat.mul_add]
    omega
/-- How high, how many. -/
theorem Lies.count {R : Nat → Option (Bool × List It)} : ∀ {h p : Nat} {L : List Pr} {S : List Nat}, Lies R h p L S → 2 ^ (h + 1) ≤ S.length + 1 ∧ S.length + 1 ≤ 2 * L.length
  | 0, p, L, S, hL => by
    have hne := List.length_pos_iff.2 hL.ne
    obtain ⟨i, M, S', ⟨_, _, rfl⟩, h2, rfl, h4, h5⟩ := hL
    simp; omega
  | h + 1, p, L, S, ⟨i, M, S', h1, h2, h3, h4, h5⟩ => by
    obtain ⟨rfl, hk⟩ := h1
    subst h3
    have hm : 2 ≤ M.length := h4
    obtain ⟨a, b⟩ := Kids.count (fun p L S h => Lies.count h) hk
    have hp := pow_split (h + 1)
    have h1 : 0 < 2 ^ (h + 1) := Nat.pow_pos (by omega)
    have h6 : (M.length - 2) * 1 ≤ (M.length - 2) * 2 ^ (h + 1) := Nat.mul_le_mul_left _ h1
    have h7 : M.length * 2 ^ (h + 1) = (M.length - 2) * 2 ^ (h + 1) + 2 * 2 ^ (h + 1) := by rw [← Nat.add_mul]; congr 1; omega
    rw [List.length_cons]
    omega
/-- A root: what lies below it. -/
def Root (R : Nat → Option (Bool × List It)) (root : Int) (L : List Pr) (S : List Nat) : Prop := (root = -1 ∧ L = [] ∧ S = []) ∨ ∃ (h p : Nat), root = (p : Int) ∧ Lies R h p L S
theorem Root.frame {R R' : Nat → Option (Bool × List It)} {root : Int} {L : List Pr} {S : List Nat} (hr : Root R root L S) (he : ∀ x ∈ S, R' x = R x) : Root R' root L S :=
  hr.imp id fun ⟨h, p, h1, h2⟩ => ⟨h, p, h1, h2.frame he⟩
structure TreeAt (fr : Nat) (A : Dev) (P : List Nat) (root : Int) (L : List Pr) : Prop where
  lies : ∃ S, Root (RD A fr) root L S ∧ S.Nodup ∧ ∀ x : Nat, (x ∈ S ↔ P[x]? = some 1 ∨ P[x]? = some 2)
  rise : Rising L
  ok : OkP L
/-! ### Pages are dropped -/
def dropS (s : Nat) : Nat := if s = 1 then 3 else if s = 2 then 0 else s
theorem dropP_get (P : List Nat) (k x : Nat) : (dropP P k)[x]? = if x = k then P[x]?.map dropS else P[x]? := by
  unfold dropP
  by_cases hx : x = k
  · subst hx
    rw [if_pos rfl]
    by_cases h1 : P[x]? = some 1
    · rw [if_pos h1, List.getElem?_set_self (List.getElem?_eq_some_iff.1 h1).1, h1]; rfl
    · rw [if_neg h1]
      by_cases h2 : P[x]? = some 2
      · rw [if_pos h2, List.getElem?_set_self (List.getElem?_eq_some_iff.1 h2).1, h2]; rfl
      · rw [if_neg h2]
        cases h3 : P[x]? with
        | none => rfl
        | some s =>
          have hs1 : s ≠ 1 := fun e => h1 (by rw [h3, e])
          have hs2 : s ≠ 2 := fun e => h2 (by rw [h3, e])
          rw [Option.map_some, dropS, if_neg hs1, if_neg hs2]
  · rw [if_neg hx]
    split
    · rw [List.getElem?_set_ne (fun e => hx e.symm)]
    · split
      · rw [List.getElem?_set_ne (fun e => hx e.symm)]
      · rfl
theorem drop_get : ∀ (g : List Nat) (P : List Nat), g.Nodup → ∀ x : Nat, (g.foldl dropP P)[x]? = if x ∈ g then P[x]?.map dropS else P[x]?
  | [], P, _, x => by simp
  | k :: g, P, hd, x => by
    obtain ⟨h1, h2⟩ := List.nodup_cons.1 hd
    rw [List.foldl_cons, drop_get g _ h2 x, dropP_get]
    by_cases hx : x = k
    · subst hx
      rw [if_neg h1, if_pos rfl, if_pos (List.mem_cons_self ..)]
    · rw [if_neg hx]
      by_cases hg : x ∈ g
      · rw [if_pos hg, if_pos (List.mem_cons_of_mem _ hg)]
      · rw [if_neg hg, if_neg (by simp [hx, hg])]
theorem foldl_len : ∀ (g : List Nat) (P : List Nat), (g.foldl dropP P).length = P.length
  | [], P => rfl
  | k :: g, P => by
    rw [List.foldl_cons, foldl_len g]
    unfold dropP
    split
    · simp
    · split <;> simp
theorem dropS_not (s : Nat) : dropS s ≠ 1 ∧ dropS s ≠ 2 := by
  unfold dropS
  split
  · decide
  · split
    · decide
    · omega
theorem back_drop (s : Nat) : backS (dropS s) = backS s := by
  unfold dropS
  split
  · rename_i h; rw [h]; rfl
  · split
    · rename_i h; rw [h]; rfl
    · rfl

/-! ### The uppermost node -/
structure Tops (fr : Nat) (L : List Pr) (S t : List Nat) (r : Int × Ch × Int) : Prop where
  ok : r.1 = 0
  on : On fr r.2.1
  root : ∃ S', Root (RD r.2.1.A fr) r.2.2 L S' ∧ S'.Perm (S ++ t) ∧ Held r.2.1.P S'
theorem top_spec {fr h : Nat} {c : Ch} {i : Bool} {M : List It} {L : List Pr} {S : List Nat} (hp : Part (RD c.A fr) h i M L S) (ho : OkP L) (hh : Held c.P S) (hn : On fr c) (hne : 0 < h → M ≠ []) (hz : totalI i M ≤ 667) :
    ∃ t, CI fr c (topC fr c i M).2.1 t [] ∧ t.length ≤ 3 ∧ (Tops fr L S t (topC fr c i M) ∨ Bad c (topC fr c i M).1 3) := by
  by_cases hf : few1 i M = true
  · have hi : i = true := by unfold few1 at hf; simp at hf; exact hf.1
    have hM : M.length = 1 := by unfold few1 at hf; simp at hf; exact hf.2
    subst hi
    have ht : topC fr c true M = (0, c, (pageAt M 0 : Int)) := by unfold topC; rw [if_pos hf]
    rw [ht]
    refine ⟨[], CI.refl _ _, by simp, .inl ⟨rfl, hn, S, ?_, by simp, hh⟩⟩
    cases h with
    | zero => exact absurd hp.inner0 (by simp)
    | succ h =>
      obtain ⟨_, hk⟩ := hp
      match M, hM with
      | [z], _ =>
        obtain ⟨L1, L2, S1, S2, rfl, rfl, h1, h2, h3, rfl, rfl⟩ := hk
        rw [List.append_nil, List.append_nil]
        exact .inr ⟨h, z.page, rfl, h1⟩
  · have hm : (M = [] ∧ h = 0) ∨ Many i M := by
      cases h with
      | zero =>
        by_cases hM : M = []
        · exact .inl ⟨hM, rfl⟩
        · right; rw [hp.inner0]; exact hM
      | succ h =>
        right
        have hM := hne (by omega)
        obtain ⟨rfl, _⟩ := hp
        show 2 ≤ M.length
        have : ¬ M.length = 1 := fun h => hf (by unfold few1; rw [decide_eq_true h]; rfl)
        have := List.length_pos_iff.2 hM
        omega
    obtain ⟨t, u1, u2, u3⟩ := put_spec hp ho hh hn hm hz
    obtain ⟨q, hq⟩ : ∃ q, q = putS fr c i M := ⟨_, rfl⟩
    have ht : topC fr c i M = if q.1 ≠ 0 then (q.1, q.2.1, -1) else if q.2.2 = [] then (0, q.2.1, -1) else if 1 < q.2.2.length then ((wrC fr q.2.1 true q.2.2).1, (wrC fr q.2.1 true q.2.2).2, (takeK q.2.1.P : Int)) else (0, q.2.1, (pageAt q.2.2 0 : Int)) := by
      unfold topC; rw [if_neg hf, hq]
    rw [← hq] at u1 u3
    rw [ht]
    rcases u3 with u3 | u3
    · obtain ⟨S', k1, k2, k3⟩ := u3.kids
      have hnum := u3.num
      rw [if_neg (by rw [u3.ok]; simp)]
      by_cases h0 : q.2.2 = []
      · rw [if_pos h0]
        rw [h0] at k1
        obtain ⟨rfl, rfl⟩ := k1
        exact ⟨t, u1, by omega, .inl ⟨rfl, u3.on, [], .inl ⟨rfl, rfl, rfl⟩, k2, k3⟩⟩
      · rw [if_neg h0]
        have hpos := List.length_pos_iff.2 h0
        by_cases h1 : 1 < q.2.2.length
        · rw [if_pos h1]
          have hk38 := k1.total ho
          have : 38 * q.2.2.length ≤ 38 * 2 := Nat.mul_le_mul_left _ hnum
          obtain ⟨t2, v1, v2, v3⟩ := part_wr (h := h + 1) (i := true) ⟨rfl, k1⟩ ho k3 u3.on (show Many true q.2.2 from h1) (by omega)
          have hci := u1.trans v1
          rw [List.append_nil] at hci
          refine ⟨_, hci, by rw [List.length_append]; omega, ?_⟩
          rcases v3 with ⟨v3, rfl, v4, v5, v6⟩ | v3
          · refine .inl ⟨v3, v4, takeK q.2.1.P :: S', .inr ⟨h + 1, _, rfl, v5⟩, ?_, v1.held.app (k3.keep v1)⟩
            rw [List.perm_iff_count] at *
            intro z
            have e1 := k2 z
            simp only [List.count_append, List.count_cons, List.count_nil] at *
            omega
          · exact .inr (v3.back u1 (by omega))
        · rw [if_neg h1]
          refine ⟨t, u1, by omega, .inl ⟨rfl, u3.on, S', .inr ?_, k2, k3⟩⟩
          have h2 : q.2.2.length = 1 := by omega
          match hq2 : q.2.2, h2 with
          | [z], _ =>
            rw [hq2] at k1
            obtain ⟨L1, L2, S1, S2, rfl, rfl, h1, h2, h3, rfl, rfl⟩ := k1
            rw [List.append_nil, List.append_nil]
            exact ⟨h, z.page, rfl, h1⟩
    · rw [if_pos u3.ne]
      exact ⟨t, u1, by omega, .inr (u3.mono (by omega))⟩

/-! ### Something is done to a root -/
/-- What stands behind it, whatever came of it. -/
structure After (fr : Nat) (A : Dev) (P : List Nat) (A' : Dev) (P' : List Nat) : Prop where
  blk : ∀ q, (∀ x : Nat, P[x]? = some 0 → q ≠ fr + x) → A'.B.getD q (zeros, []) = A.B.getD q (zeros, [])
  blen : A'.B.length = A.B.length
  left : A.left = -1 → A'.left = -1
  len : P'.length = P.length
  back : P'.map backS = P.map backS
def Worse (A : Dev) (P : List Nat) (e : Int) (m : Nat) : Prop := (e = 8 ∧ A.left ≠ -1) ∨ (e = 7 ∧ freeP P < m)
theorem over_ok {fr : Nat} {c0 c : Ch} {t g : List Nat} {S S' : List Nat} (h : CI fr c0 c t g) (h0 : c0.tk = [] ∧ c0.gn = []) (hS : ∀ x : Nat, (x ∈ S ↔ c0.P[x]? = some 1 ∨ c0.P[x]? = some 2)) (hd : S.Nodup) (hp : (S' ++ g).Perm (S ++ t)) :
    After fr c0.A c0.P (overC c 0).A (overC c 0).P ∧ S'.Nodup ∧ ∀ x : Nat, (x ∈ S' ↔ (overC c 0).P[x]? = some 1 ∨ (overC c 0).P[x]? = some 2) := by
  have hgn : c.gn = g := by rw [h.gn, h0.2]; rfl
  have hH : Held c0.P S := fun x hx => ((hS x).1 hx).elim (fun h => ⟨1, h, by decide⟩) fun h => ⟨2, h, by decide⟩
  have hnd : (S ++ t).Nodup := by
    rw [List.nodup_append]
    exact ⟨hd, h.nd, fun a ha b hb e => h.apart hH a ha (e ▸ hb)⟩
  have hnd2 := hp.nodup_iff.2 hnd
  rw [List.nodup_append] at hnd2
  obtain ⟨n1, n2, n3⟩ := hnd2
  have hget : ∀ x : Nat, (overC c 0).P[x]? = if x ∈ g then c.P[x]?.map dropS else c.P[x]? := fun x => by
    show (List.foldl dropP c.P (if (0 : Int) ≠ 0 then c.tk else c.gn))[x]? = _
    rw [if_neg (by simp), hgn, drop_get g _ n2 x]
  have hlen : (overC c 0).P.length = c0.P.length := by
    show (List.foldl dropP c.P _).length = _
    rw [foldl_len, h.len]
  refine ⟨⟨fun q hq => h.blk q fun x hx => hq x (h.was x hx), h.blen, h.left, hlen, ?_⟩, n1, fun x => ?_⟩
  · refine List.ext_getElem? fun x => ?_
    rw [List.getElem?_map, List.getElem?_map, hget x, h.now x]
    by_cases ht : x ∈ t
    · rw [if_pos ht, h.was x ht]
      split <;> rfl
    · rw [if_neg ht]
      split
      · cases c0.P[x]? with
        | none => rfl
        | some s => simp only [Option.map_some, back_drop]
      · rfl
  · rw [hget x]
    have hm := hp.mem_iff (a := x)
    simp only [List.mem_append] at hm
    constructor
    · intro hx
      have hxg : x ∉ g := fun h2 => n3 x hx x h2 rfl
      rw [if_neg hxg, h.now x]
      rcases hm.1 (.inl hx) with h2 | h2
      · rw [if_neg (h.apart hH x h2)]; exact (hS x).1 h2
      · rw [if_pos h2]; exact .inr rfl
    · intro hx
      by_cases hxg : x ∈ g
      · rw [if_pos hxg] at hx
        exfalso
        cases hc : c.P[x]? with
        | none => rw [hc] at hx; simp at hx
        | some s =>
          rw [hc] at hx
          simp only [Option.map_some, Option.some.injEq] at hx
          exact hx.elim (dropS_not s).1 (dropS_not s).2
      · rw [if_neg hxg, h.now x] at hx
        have : x ∈ S ∨ x ∈ t := by
          by_cases ht : x ∈ t
          · exact .inr ht
          · rw [if_neg ht] at hx; exact .inl ((hS x).2 hx)
        exact (hm.2 this).elim id fun h2 => absurd h2 hxg
theorem over_bad {fr : Nat} {c0 c : Ch} {t g : List Nat} {e : Int} (h : CI fr c0 c t g) (h0 : c0.tk = [] ∧ c0.gn = []) (he : e ≠ 0) : After fr c0.A c0.P (overC c e).A (overC c e).P ∧ (overC c e).P = c0.P := by
  have htk : c.tk = t := by rw [h.tk, h0.1]; rfl
  have hP : (overC c e).P = c0.P := by
    refine List.ext_getElem? fun x => ?_
    show (List.foldl dropP c.P (if e ≠ 0 then c.tk else c.gn))[x]? = _
    rw [if_pos he, htk, drop_get t _ h.nd x, h.now x]
    by_cases ht : x ∈ t
    · rw [if_pos ht, if_pos ht, h.was x ht]; rfl
    · rw [if_neg ht, if_neg ht]
  exact ⟨⟨fun q hq => h.blk q fun x hx => hq x (h.was x hx), h.blen, h.left, by rw [hP], by rw [hP]⟩, hP⟩
structure Turned (fr : Nat) (A : Dev) (P : List Nat) (root : Int) (L : List Pr) (m : Nat) (r : Int × Int × Ch) : Prop where
  aft : After fr A P r.2.2.A r.2.2.P
  out : (r.1 = 0 ∧ r.2.2.A.on = true ∧ TreeAt fr r.2.2.A r.2.2.P r.2.1 L) ∨ (r.2.1 = root ∧ r.2.2.P = P ∧ Worse A P r.1 m)
theorem height {R : Nat → Option (Bool × List It)} {h p n : Nat} {L : List Pr} {S : List Nat} (hL : Lies R h p L S) (hd : S.Nodup) (hlt : ∀ x ∈ S, x < n) (hn : n ≤ 2000) : h ≤ 9 := by
  have h1 := hL.count.1
  have h2 := pigeon n S hd hlt
  rcases Nat.lt_or_ge h 10 with h3 | h3
  · omega
  · have : 2 ^ 11 ≤ 2 ^ (h + 1) := Nat.pow_le_pow_right (by omega) (by omega)
    omega
theorem turn_spec {fr : Nat} {A : Dev} {P : List Nat} {root : Int} {L : List Pr} {key : Byt} {G : List It → List It} {g : List Pr → List Pr} (act : Acts key G g) (hr : ∀ L, Rising L → Rising (g L)) (T : TreeAt fr A P root L) (hon : A.on = true) (hl : fr + P.length ≤ A.B.length) (hP : P.length ≤ 2000) {m : Nat} (hm : ∀ h, h = 0 ∨ 2 ^ (h + 1) ≤ P.length + 1 → 2 * h + 3 ≤ m) :
    Turned fr A P root (g L) m (turnC fr A P root key G) := by
  obtain ⟨S, hroot, hnd, hS⟩ := T.lies
  have hH : Held P S := fun x hx => ((hS x).1 hx).elim (fun h => ⟨1, h, by decide⟩) fun h => ⟨2, h, by decide⟩
  obtain ⟨ed, hed⟩ : ∃ ed, ed = (if root = -1 then (0, ⟨A, P, [], []⟩, false, G []) else editC fr G key 18 ⟨A, P, [], []⟩ root.toNat 0 : Int × Ch × Bool × List It) := ⟨_, rfl⟩
  have hn : On fr (⟨A, P, [], []⟩ : Ch) := ⟨hon, hl, by show P.length ≤ 4096; omega⟩
  have he : ∃ (h : Nat) (t g' : List Nat), 2 * h + 3 ≤ m ∧ CI fr ⟨A, P, [], []⟩ ed.2.1 t g' ∧ t.length ≤ 2 * h ∧ (Eds fr h (g L) S t g' ed ∨ Bad ⟨A, P, [], []⟩ ed.1 (2 * h)) := by
    rcases hroot with ⟨rfl, rfl, rfl⟩ | ⟨h, p, rfl, hLies⟩
    · rw [if_pos rfl] at hed
      have h0 := act.leaf [] List.Pairwise.nil (fun p hp => by cases hp)
      rw [List.map_nil] at h0
      have hsz := act.size [] List.Pairwise.nil (fun p hp => by cases hp)
      rw [hed, h0]
      exact ⟨0, [], [], hm 0 (.inl rfl), CI.refl _ _, by simp, .inl ⟨rfl, hn, ⟨[], ⟨rfl, rfl, rfl⟩, by simp, fun x hx => by cases hx⟩, fun h => absurd h (Nat.lt_irrefl 0), by show totalI false (List.map leafI (g [])) ≤ 667; have : totalI false (List.map leafI []) = 0 := rfl; omega⟩⟩
    · rw [if_neg (by omega), Int.toNat_natCast] at hed
      have hh := height hLies hnd (fun x hx => hH.lt hx) hP
      obtain ⟨t, g', e1, e2, e3⟩ := edit_spec act h 18 ⟨A, P, [], []⟩ p 0 L S hLies T.rise T.ok hH hn (by omega) (by omega)
      rw [hed]
      have h1 := hLies.count.1
      have h2 := pigeon P.length S hnd fun x hx => hH.lt hx
      exact ⟨h, t, g', hm h (.inr (by omega)), e1, e2, e3⟩
  obtain ⟨h, t, g', hh, e1, e2, e3⟩ := he
  have hturn : turnC fr A P root key G = if ed.1 ≠ 0 then (ed.1, root, overC ed.2.1 ed.1) else if (topC fr ed.2.1 ed.2.2.1 ed.2.2.2).1 ≠ 0 then ((topC fr ed.2.1 ed.2.2.1 ed.2.2.2).1, root, overC (topC fr ed.2.1 ed.2.2.1 ed.2.2.2).2.1 (topC fr ed.2.1 ed.2.2.1 ed.2.2.2).1) else (0, (topC fr ed.2.1 ed.2.2.1 ed.2.2.2).2.2, overC (topC fr ed.2.1 ed.2.2.1 ed.2.2.2).2.1 0) := by
    unfold turnC; rw [hed]
  rw [hturn]
  rcases e3 with e3 | e3
  · obtain ⟨S1, p1, p2, p3⟩ := e3.part
    rw [if_neg (by rw [e3.ok]; simp)]
    obtain ⟨t2, v1, v2, v3⟩ := top_spec p1 (act.ok _ T.ok) p3 e3.on e3.ne e3.sz
    have hci := e1.trans v1
    rw [List.append_nil] at hci
    rcases v3 with v3 | v3
    · obtain ⟨S2, k1, k2, k3⟩ := v3.root
      rw [if_neg (by rw [v3.ok]; simp)]
      obtain ⟨o1, o2, o3⟩ := over_ok (S := S) (S' := S2) hci ⟨rfl, rfl⟩ hS hnd (by
        rw [List.perm_iff_count] at *
        intro z
        have e1 := p2 z; have e2 := k2 z
        simp only [List.count_append] at *
        omega)
      exact ⟨o1, .inl ⟨rfl, v3.on.on, ⟨⟨S2, k1, o2, o3⟩, hr _ T.rise, act.ok _ T.ok⟩⟩⟩
    · rw [if_pos v3.ne]
      obtain ⟨o1, o2⟩ := over_bad (e := (topC fr ed.2.1 ed.2.2.1 ed.2.2.2).1) hci ⟨rfl, rfl⟩ v3.ne
      exact ⟨o1, .inr ⟨rfl, o2, (v3.back e1 (show 3 + t.length ≤ m by omega))⟩⟩
  · rw [if_pos e3.ne]
    obtain ⟨o1, o2⟩ := over_bad (e := ed.1) e1 ⟨rfl, rfl⟩ e3.ne
    exact ⟨o1, .inr ⟨rfl, o2, e3.mono (by omega)⟩⟩

end Go.Proofs.YtbkadlngijkmmaaGreatDoor
