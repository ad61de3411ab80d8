/- Part 14 of the proof. -/
import Derived.Test.YtapphbmlkdhnmaaGreatPart13
import Derived.Test.YtapphbmlkdhnmaaGreatPart12
import Derived.Laws.StructEq
/- Money, as the reference has it. -/
namespace Go.Proofs.YtapphbmlkdhnmaaGreat
open Go.GV
theorem ag_2_SnK : aggB Tryz.prog 2 = some false := by kernel_rfl
theorem ca_75_SnK : callable Tryz.prog 75 = true := by kernel_rfl
theorem el_29_SnK : elemT Tryz.prog 29 = some 2 := by kernel_rfl
theorem sz_2_SnK : tsize Tryz.prog 2 = some 1 := by kernel_rfl
theorem un_24_SnK : Tryz.prog.underlying 24 = some (.int .u64) := by kernel_rfl
theorem un_2_SnK : Tryz.prog.underlying 2 = some (.int .i64) := by kernel_rfl
attribute [local irreducible] Wops W Wq Wt

theorem rmay16_ok (x : Int) (w : World) : Ret Tryz.prog 75 #[.int .i64 x] w fun v w' => v = .bool (mayM x) ∧ w = w' := by
  obtain ⟨w0, rfl⟩ : ∃ w0, w0 = w := ⟨_, rfl⟩
  refine ret_of_W (fn := Tryz.f75) Tryz.func75 rfl [.int .i64 x] rfl (by kernel_rfl) ?_
  refine W_rseq ?_
  refine op_assign rfl (.bool _) rfl ?_
  refine op_nil (at_then ?_)
  refine W_rseq ?_
  refine op_move rfl (.int _ _) rfl ?_
  refine op_geq rfl rfl rfl ?_
  refine op_move rfl (.bool _) rfl ?_
  refine Wops_split 5 rfl ?_ ?_
  · intro h1
    replace h1 := dec_t h1
    refine op_move rfl (.int _ _) rfl ?_
    refine op_leq rfl rfl rfl ?_
    refine op_pick1 rfl rfl (.bool _) rfl ?_
    refine op_assign rfl (.bool _) rfl ?_
    refine op_nil (at_then ?_)
    refine W_ret (leave1 (v := (.bool _)) rfl rfl rfl ?_)
    exact ⟨congrArg Value.bool (by unfold mayM; rw [Bool.eq_iff_iff]; simp_all; try omega), rfl⟩
  · intro h2
    replace h2 := dec_f h2
    refine op_skip rfl ?_
    refine op_skip rfl ?_
    refine op_pick0 rfl rfl (.bool _) rfl ?_
    refine op_assign rfl (.bool _) rfl ?_
    refine op_nil (at_then ?_)
    refine W_ret (leave1 (v := (.bool _)) rfl rfl rfl ?_)
    exact ⟨congrArg Value.bool (by unfold mayM; rw [Bool.eq_iff_iff]; simp_all; try omega), rfl⟩
theorem all_snoc {xs : List Int} {f : Int → Bool} {i : Nat} {x : Int} (hx : xs[i]? = some x) (h : ∀ (k : Nat) (y : Int), k < i → xs[k]? = some y → f y = true) (hf : f x = true) : ∀ (k : Nat) (y : Int), k < i + 1 → xs[k]? = some y → f y = true := fun k y hk hy => by
  rcases Nat.lt_or_ge k i with h7 | h7
  · exact h k y h7 hy
  · obtain rfl : k = i := by omega
    rw [hx] at hy
    cases hy
    exact hf
theorem sumM_split {xs : List Int} (i : Nat) (h : ∀ x ∈ xs, 0 ≤ x) : 0 ≤ sumM (xs.take i) ∧ sumM (xs.take i) ≤ sumM xs := by
  have h6 : sumM xs = sumM (xs.take i) + sumM (xs.drop i) := by rw [← sumM_append, List.take_append_drop]
  have h7 := sumM_nonneg (xs := xs.drop i) fun y hy => h y (List.mem_of_mem_drop hy)
  have h8 := sumM_nonneg (xs := xs.take i) fun y hy => h y (List.mem_of_mem_take hy)
  exact ⟨h8, by omega⟩
set_option maxRecDepth 20000 in
set_option maxHeartbeats 2000000 in
theorem r16sum_ok (a : Option Addr) (n c : Nat) (xs : List Int) (w : World) (R : Rd w a 1 I1 xs) (hn : xs.length = n) (hn2 : n ≤ 1000000) :
    Ret Tryz.prog 77 #[.slice a n c] w fun v w' => v = .tuple #[.int .i64 (totM xs).1, .int .i64 (totM xs).2] ∧ w = w' := by
  subst hn
  obtain ⟨w0, rfl⟩ : ∃ w0, w0 = w := ⟨_, rfl⟩
  refine ret_of_W (fn := Tryz.f77) Tryz.func77 rfl [.slice a xs.length c] rfl (by kernel_rfl) ?_
  refine W_rseq ?_
  refine op_assign rfl (.int _ _) rfl ?_
  refine op_assign rfl (.int _ _) rfl ?_
  refine op_nil (at_then ?_)
  refine W_seq ?_
  refine W_rseq ?_
  refine op_assign rfl (.int _ _) rfl ?_
  refine op_nil (at_then ?_)
  refine W_block ?_
  refine W_loop 524188 (α := Nat) (fun i => [(4, .int .i64 (i : Int))]) (fun i w' => i ≤ xs.length ∧ w0 = w' ∧ ∀ (k : Nat) (x : Int), k < i → xs[k]? = some x → mayM x = true) (fun i => xs.length - i) 0 rfl ?_ ?_ ?_
  · exact ⟨rfl, trivial⟩
  · exact ⟨Nat.zero_le _, rfl, fun k x h => absurd h (Nat.not_lt_zero _)⟩
  · rintro i j w ⟨hi, rfl, hb⟩
    refine W_seq ?_
    refine W_rseq ?_
    refine op_move rfl (.int _ _) rfl ?_
    refine op_move rfl (.slice _ _ _) rfl ?_
    refine op_len rfl el_29_SnK rfl ?_
    refine op_lss rfl rfl rfl ?_
    refine op_nil (at_then ?_)
    refine W_cond _ rfl ?_ ?_
    · intro h1
      replace h1 := dec_t h1
      obtain ⟨x, hx⟩ := get_some (l := xs) (i := i) (by omega)
      refine W_skip (at_then ?_)
      refine W_seq ?_
      refine W_block ?_
      refine W_rseq ?_
      refine op_move rfl (.slice _ _ _) rfl ?_
      refine op_move rfl (.int _ _) rfl ?_
      first | refine op_indexRd R rfl el_29_SnK sz_2_SnK rfl rfl (by omega) (by omega) (by first | rfl | omega) ?_ | refine op_indexAddr rfl el_29_SnK sz_2_SnK rfl rfl (by omega) (by omega) ?_
      first | refine op_ldb rfl ag_2_SnK rfl H (by first | exact at0 | exact at1 | exact at2 | exact at3 | exact at4 | exact at5 | exact at6 | exact at7 | exact at8 | exact at9) rfl ?_ | refine op_ld rfl ag_2_SnK rfl ((R.fld hx rfl (j := 0) rfl)) ?_
      refine op_call rfl ca_75_SnK (rmay16_ok x _) rfl ?_
      rintro v w ⟨rfl, rfl⟩
      refine op_not rfl rfl ?_
      refine op_nil (at_then ?_)
      refine W_cond _ rfl ?_ ?_
      · intro h2
        replace h2 := nvar_t h2
        refine W_rseq ?_
        refine op_assign rfl (.int _ _) rfl ?_
        refine op_assign rfl (.int _ _) rfl ?_
        refine op_nil (at_then ?_)
        refine W_ret (ret_block (ret_then (ret_then (ret_block (ret_then (leave2 (v1 := (.int _ _)) (v2 := (.int _ _)) rfl rfl rfl rfl ?_))))))
        exact ⟨by unfold totM; rw [if_pos (all_false hx (by simpa using h2))], rfl⟩
      · intro h2
        replace h2 := nvar_f h2
        refine W_skip (at_block (at_then ?_))
        refine W_region ?_
        refine op_move rfl (.int _ _) rfl ?_
        refine op_add_i64 rfl rfl rfl (by omega) (by omega) ?_
        refine op_assign rfl (.int _ _) rfl ?_
        refine op_nil (at_then ?_)
        exact ⟨i + 1, rfl, ⟨rfl, trivial⟩, ⟨by omega, rfl, all_snoc hx hb (by simpa using h2)⟩, by omega⟩
    · intro h1
      replace h1 := dec_f h1
      obtain rfl : i = xs.length := by omega
      have hal : xs.all mayM = true := all_true fun k x hk hx => hb k x hk hx
      have hpos : ∀ x ∈ xs, 0 ≤ x := fun x hx => (mayM_iff.1 (List.all_eq_true.1 hal x hx)).1
      refine W_exit (exit_then (exit_then (exit_here (at_then ?_))))
      refine W_rseq ?_
      refine op_assign rfl (.int _ _) rfl ?_
      refine op_nil (at_then ?_)
      refine W_seq ?_
      refine W_rseq ?_
      refine op_assign rfl (.int _ _) rfl ?_
      refine op_nil (at_then ?_)
      refine W_block ?_
      refine W_loop 8589410412 (α := Nat) (fun i => [(5, .int .i64 (sumM (xs.take i))), (6, .int .i64 (i : Int))]) (fun i w' => i ≤ xs.length ∧ w0 = w' ∧ sumM (xs.take i) ≤ 4503599627370496) (fun i => xs.length - i) 0 rfl ?_ ?_ ?_
      · exact ⟨rfl, rfl, trivial⟩
      · exact ⟨Nat.zero_le _, rfl, by show (0 : Int) ≤ _; omega⟩
      · rintro i j2 w ⟨hi, rfl, hs⟩
        have hs0 := sumM_split (xs := xs) i hpos
        refine W_seq ?_
        refine W_rseq ?_
        refine op_move rfl (.int _ _) rfl ?_
        refine op_move rfl (.slice _ _ _) rfl ?_
        refine op_len rfl el_29_SnK rfl ?_
        refine op_lss rfl rfl rfl ?_
        refine op_nil (at_then ?_)
        refine W_cond _ rfl ?_ ?_
        · intro h2
          replace h2 := dec_t h2
          obtain ⟨x, hx⟩ := get_some (l := xs) (i := i) (by omega)
          have hx1 := mayM_iff.1 (List.all_eq_true.1 hal x (List.mem_of_getElem? hx))
          have hst := sumM_take hx
          have hs1 := sumM_split (xs := xs) (i + 1) hpos
          refine W_skip (at_then ?_)
          refine W_seq ?_
          refine W_block ?_
          refine W_rseq ?_
          refine op_move rfl (.int _ _) rfl ?_
          refine op_move rfl (.slice _ _ _) rfl ?_
          refine op_move rfl (.int _ _) rfl ?_
          first | refine op_indexRd R rfl el_29_SnK sz_2_SnK rfl rfl (by omega) (by omega) (by first | rfl | omega) ?_ | refine op_indexRd R rfl el_29_SnK sz_2_SnK rfl rfl (by omega) (by omega) (by first | rfl | omega) ?_ | refine op_indexAddr rfl el_29_SnK sz_2_SnK rfl rfl (by omega) (by omega) ?_
          first | refine op_ldb rfl ag_2_SnK rfl H (by first | exact at0 | exact at1 | exact at2 | exact at3 | exact at4 | exact at5 | exact at6 | exact at7 | exact at8 | exact at9) rfl ?_ | refine op_ld rfl ag_2_SnK rfl ((R.fld hx rfl (j := 0) rfl)) ?_ | refine op_ld rfl ag_2_SnK rfl ((R.fld hx rfl (j := 0) rfl)) ?_
          refine op_add_i64 rfl rfl rfl (by omega) (by omega) ?_
          rw [← hst]
          refine op_assign rfl (.int _ _) rfl ?_
          refine op_nil (at_then ?_)
          refine W_rseq ?_
          refine op_move rfl (.int _ _) rfl ?_
          refine op_gtr rfl rfl rfl ?_
          refine op_nil (at_then ?_)
          refine W_cond _ rfl ?_ ?_
          · intro h3
            replace h3 := dec_t h3
            refine W_rseq ?_
            refine op_assign rfl (.int _ _) rfl ?_
            refine op_assign rfl (.int _ _) rfl ?_
            refine op_nil (at_then ?_)
            refine W_ret (ret_block (ret_then (ret_then (ret_block (ret_then (leave2 (v1 := (.int _ _)) (v2 := (.int _ _)) rfl rfl rfl rfl ?_))))))
            exact ⟨by unfold totM; rw [if_neg (by rw [hal]; decide), if_neg (by omega)], rfl⟩
          · intro h3
            replace h3 := dec_f h3
            refine W_skip (at_block (at_then ?_))
            refine W_region ?_
            refine op_move rfl (.int _ _) rfl ?_
            refine op_add_i64 rfl rfl rfl (by omega) (by omega) ?_
            refine op_assign rfl (.int _ _) rfl ?_
            refine op_nil (at_then ?_)
            exact ⟨i + 1, rfl, ⟨rfl, rfl, trivial⟩, ⟨by omega, rfl, by omega⟩, by omega⟩
        · intro h2
          replace h2 := dec_f h2
          refine W_exit (exit_then (exit_then (exit_here (at_then ?_))))
          refine W_rseq ?_
          refine op_move rfl (.int _ _) rfl ?_
          refine op_assign rfl (.int _ _) rfl ?_
          refine op_assign rfl (.int _ _) rfl ?_
          refine op_nil (at_then ?_)
          refine W_ret (leave2 (v1 := (.int _ _)) (v2 := (.int _ _)) rfl rfl rfl rfl ?_)
          obtain rfl : i = xs.length := by omega
          rw [List.take_length] at hs ⊢
          exact ⟨by unfold totM; rw [if_neg (by rw [hal]; decide), if_pos hs], rfl⟩
set_option maxRecDepth 20000 in
set_option maxHeartbeats 2000000 in
theorem level_ok (a : Option Addr) (n c : Nat) (xs : List Int) (w : World) (R : Rd w a 1 I1 xs) (hn : xs.length = n) (hn2 : n ≤ 1000) (hsm : ∀ x ∈ xs, -4503599627370496 ≤ x ∧ x ≤ 4503599627370496) :
    Ret Tryz.prog 182 #[.slice a n c] w fun v w' => v = .bool (decide (sumM xs = 0)) ∧ w = w' := by
  subst hn
  obtain ⟨w0, rfl⟩ : ∃ w0, w0 = w := ⟨_, rfl⟩
  refine ret_of_W (fn := Tryz.f182) Tryz.func182 rfl [.slice a xs.length c] rfl (by kernel_rfl) ?_
  refine W_rseq ?_
  refine op_assign rfl (.bool _) rfl ?_
  refine op_nil (at_then ?_)
  refine W_rseq ?_
  refine op_assign rfl (.int _ _) rfl ?_
  refine op_nil (at_then ?_)
  refine W_rseq ?_
  refine op_assign rfl (.int _ _) rfl ?_
  refine op_nil (at_then ?_)
  refine W_seq ?_
  refine W_rseq ?_
  refine op_assign rfl (.int _ _) rfl ?_
  refine op_nil (at_then ?_)
  refine W_block ?_
  refine W_loop 4294967288 (α := Nat × Int × Int) (fun t => [(3, .int .u64 t.2.1), (4, .int .u64 t.2.2), (5, .int .i64 (t.1 : Int))]) (fun t w' => t.1 ≤ xs.length ∧ w0 = w' ∧ t.2.1 - t.2.2 = sumM (xs.take t.1) ∧ 0 ≤ t.2.1 ∧ t.2.1 ≤ t.1 * 4503599627370496 ∧ 0 ≤ t.2.2 ∧ t.2.2 ≤ t.1 * 4503599627370496) (fun t => xs.length - t.1) (0, 0, 0) rfl ?_ ?_ ?_
  · exact ⟨rfl, rfl, rfl, trivial⟩
  · exact ⟨Nat.zero_le _, rfl, rfl, by dsimp only; omega, by dsimp only; omega, by dsimp only; omega, by dsimp only; omega⟩
  · rintro ⟨i, p, q⟩ j w ⟨hi, rfl, hs, hp0, hp1, hq0, hq1⟩; dsimp only at hi hs hp0 hp1 hq0 hq1; dsimp only
    refine W_seq ?_
    refine W_rseq ?_
    refine op_move rfl (.int _ _) rfl ?_
    refine op_move rfl (.slice _ _ _) rfl ?_
    refine op_len rfl el_29_SnK rfl ?_
    refine op_lss rfl rfl rfl ?_
    refine op_nil (at_then ?_)
    refine W_cond _ rfl ?_ ?_
    · intro h1
      replace h1 := dec_t h1
      obtain ⟨x, hx⟩ := get_some (l := xs) (i := i) (by omega)
      have hx1 := hsm x (List.mem_of_getElem? hx)
      have hst := sumM_take hx
      refine W_skip (at_then ?_)
      refine W_seq ?_
      refine W_block ?_
      refine W_rseq ?_
      refine op_move rfl (.slice _ _ _) rfl ?_
      refine op_move rfl (.int _ _) rfl ?_
      first | refine op_indexRd R rfl el_29_SnK sz_2_SnK rfl rfl (by omega) (by omega) (by first | rfl | omega) ?_ | refine op_indexAddr rfl el_29_SnK sz_2_SnK rfl rfl (by omega) (by omega) ?_
      first | refine op_ldb rfl ag_2_SnK rfl H (by first | exact at0 | exact at1 | exact at2 | exact at3 | exact at4 | exact at5 | exact at6 | exact at7 | exact at8 | exact at9) rfl ?_ | refine op_ld rfl ag_2_SnK rfl ((R.fld hx rfl (j := 0) rfl)) ?_
      refine op_gtr rfl rfl rfl ?_
      refine op_nil (at_then ?_)
      refine W_cond _ rfl ?_ ?_
      · intro h2
        replace h2 := dec_t h2
        refine W_region ?_
        refine op_move rfl (.int _ _) rfl ?_
        refine op_move rfl (.slice _ _ _) rfl ?_
        refine op_move rfl (.int _ _) rfl ?_
        first | refine op_indexRd R rfl el_29_SnK sz_2_SnK rfl rfl (by omega) (by omega) (by first | rfl | omega) ?_ | refine op_indexAddr rfl el_29_SnK sz_2_SnK rfl rfl (by omega) (by omega) ?_
        first | refine op_ldb rfl ag_2_SnK rfl H (by first | exact at0 | exact at1 | exact at2 | exact at3 | exact at4 | exact at5 | exact at6 | exact at7 | exact at8 | exact at9) rfl ?_ | refine op_ld rfl ag_2_SnK rfl ((R.fld hx rfl (j := 0) rfl)) ?_
        refine op_conv_u64 rfl rfl un_2_SnK un_24_SnK (by omega) (by omega) ?_
        refine op_add_u64 rfl rfl rfl (by omega) (by omega) ?_
        refine op_assign rfl (.int _ _) rfl ?_
        refine op_nil (at_block (at_then ?_))
        refine W_region ?_
        refine op_move rfl (.int _ _) rfl ?_
        refine op_add_i64 rfl rfl rfl (by omega) (by omega) ?_
        refine op_assign rfl (.int _ _) rfl ?_
        refine op_nil (at_then ?_)
        exact ⟨(i + 1, p + x, q), rfl, ⟨rfl, rfl, rfl, trivial⟩, ⟨by dsimp only; omega, rfl, by dsimp only; omega, by dsimp only; omega, by dsimp only; omega, by dsimp only; omega, by dsimp only; omega⟩, by dsimp only; omega⟩
      · intro h2
        replace h2 := dec_f h2
        refine W_region ?_
        refine op_move rfl (.int _ _) rfl ?_
        refine op_move rfl (.slice _ _ _) rfl ?_
        refine op_move rfl (.int _ _) rfl ?_
        first | refine op_indexRd R rfl el_29_SnK sz_2_SnK rfl rfl (by omega) (by omega) (by first | rfl | omega) ?_ | refine op_indexAddr rfl el_29_SnK sz_2_SnK rfl rfl (by omega) (by omega) ?_
        first | refine op_ldb rfl ag_2_SnK rfl H (by first | exact at0 | exact at1 | exact at2 | exact at3 | exact at4 | exact at5 | exact at6 | exact at7 | exact at8 | exact at9) rfl ?_ | refine op_ld rfl ag_2_SnK rfl ((R.fld hx rfl (j := 0) rfl)) ?_
        refine op_neg_i64 rfl rfl (by omega) (by omega) ?_
        refine op_conv_u64 rfl rfl un_2_SnK un_24_SnK (by omega) (by omega) ?_
        refine op_add_u64 rfl rfl rfl (by omega) (by omega) ?_
        refine op_assign rfl (.int _ _) rfl ?_
        refine op_nil (at_block (at_then ?_))
        refine W_region ?_
        refine op_move rfl (.int _ _) rfl ?_
        refine op_add_i64 rfl rfl rfl (by omega) (by omega) ?_
        refine op_assign rfl (.int _ _) rfl ?_
        refine op_nil (at_then ?_)
        exact ⟨(i + 1, p, q + -x), rfl, ⟨rfl, rfl, rfl, trivial⟩, ⟨by dsimp only; omega, rfl, by dsimp only; omega, by dsimp only; omega, by dsimp only; omega, by dsimp only; omega, by dsimp only; omega⟩, by dsimp only; omega⟩
    · intro h1
      replace h1 := dec_f h1
      refine W_exit (exit_then (exit_then (exit_here (at_then ?_))))
      refine W_rseq ?_
      refine op_move rfl (.int _ _) rfl ?_
      refine op_move rfl (.int _ _) rfl ?_
      refine op_eql rfl rfl rfl ?_
      refine op_assign rfl (.bool _) rfl ?_
      refine op_nil (at_then ?_)
      refine W_ret (leave1 (v := (.bool _)) rfl rfl rfl ?_)
      obtain rfl : i = xs.length := by omega
      rw [List.take_length] at hs
      exact ⟨congrArg Value.bool (by rw [Bool.eq_iff_iff, decide_eq_true_eq, decide_eq_true_eq]; omega), rfl⟩
end Go.Proofs.YtapphbmlkdhnmaaGreat

/- Shifts, as the reference has them. -/
namespace Go.Proofs.YtapphbmlkdhnmaaGreat
open Go.GV
theorem ag_2_SnL : aggB Tryz.prog 2 = some false := by kernel_rfl
theorem by_2_SnL : tbytes Tryz.prog 2 = some 8 := by kernel_rfl
theorem ca_182_SnL : callable Tryz.prog 182 = true := by kernel_rfl
theorem ca_75_SnL : callable Tryz.prog 75 = true := by kernel_rfl
theorem el_29_SnL : elemT Tryz.prog 29 = some 2 := by kernel_rfl
theorem mixed_SnL : Tryz.prog.follows .mixedOrders = true := by kernel_rfl
theorem sz_2_SnL : tsize Tryz.prog 2 = some 1 := by kernel_rfl
theorem zc_2_SnL : zcells Tryz.prog 2 = some ([.int .i64 0]) := by kernel_rfl
attribute [local irreducible] Wops W Wq Wt

theorem shiftC_one {xs ys : List Int} (h : ¬ (xs.length = ys.length ∧ xs.all mayM = true ∧ evenM ys = true)) : shiftC xs ys = 1 := by
  unfold shiftC
  rw [if_pos]
  rw [Bool.eq_false_iff]
  intro h2
  simp only [Bool.and_eq_true, decide_eq_true_eq] at h2
  exact h h2
theorem shiftC_two {xs ys : List Int} (h : xs.length = ys.length ∧ xs.all mayM = true ∧ evenM ys = true) : shiftC xs ys = if (shiftM xs ys).all (fun x => decide (0 ≤ x)) = false then 12 else if (shiftM xs ys).all mayM = false then 13 else 0 := by
  unfold shiftC
  rw [if_neg]
  rw [h.2.1, h.2.2, decide_eq_true h.1]; decide
theorem not_all {xs : List Int} {f : Int → Bool} {i : Nat} {x : Int} (hx : xs[i]? = some x) (h : f x = false) : ¬ xs.all f = true := by rw [all_false hx h]; decide
def inM (x y : Int) : Bool := mayM x && smallM y
set_option maxRecDepth 20000 in
set_option maxHeartbeats 4000000 in
theorem r16shift_ok (a b : Option Addr) (n c m d : Nat) (xs ys : List Int) (w : World) (R : Rd w a 1 I1 xs) (hn : xs.length = n) (hn2 : n ≤ 1000) (Ry : Rd w b 1 I1 ys) (hm : ys.length = m) (hm2 : m ≤ 1000) :
    Ret Tryz.prog 143 #[.slice a n c, .slice b m d] w fun v w' => ∃ v', v = .tuple #[v', .int .i64 (shiftC xs ys)] ∧ (shiftC xs ys ≠ 0 → v' = .slice none 0 0) ∧ (shiftC xs ys = 0 → Fresh w w' 2 1 v' ((shiftM xs ys).map i64v)) ∧ Ext [] w w' := by
  subst hn hm
  obtain ⟨w0, rfl⟩ : ∃ w0, w0 = w := ⟨_, rfl⟩
  refine ret_of_W (fn := Tryz.f143) Tryz.func143 rfl [.slice a xs.length c, .slice b ys.length d] rfl (by kernel_rfl) ?_
  refine W_rseq ?_
  refine op_assign rfl (.slice _ _ _) rfl ?_
  refine op_assign rfl (.int _ _) rfl ?_
  refine op_nil (at_then ?_)
  refine W_seq ?_
  refine W_rseq ?_
  refine op_move rfl (.slice _ _ _) rfl ?_
  refine op_len rfl el_29_SnL rfl ?_
  refine op_move rfl (.slice _ _ _) rfl ?_
  refine op_len rfl el_29_SnL rfl ?_
  refine op_neq rfl rfl rfl ?_
  refine op_nil (at_then ?_)
  refine W_cond _ rfl ?_ ?_
  · intro h1
    replace h1 := ndec_t h1
    refine W_rseq ?_
    refine op_assign rfl (.slice _ _ _) rfl ?_
    refine op_assign rfl (.int _ _) rfl ?_
    refine op_nil (at_then ?_)
    refine W_ret (ret_then (leave2 (v1 := (.slice _ _ _)) (v2 := (.int _ _)) rfl rfl rfl rfl ?_))
    have h4 : shiftC xs ys = 1 := shiftC_one fun h => by omega
    exact ⟨_, by rw [h4], fun _ => rfl, (fun h => by omega), Ext.refl _ _⟩
  · intro h1
    replace h1 := ndec_f h1
    have hle : xs.length = ys.length := by omega
    refine W_skip (at_then ?_)
    refine W_seq ?_
    refine W_rseq ?_
    refine op_assign rfl (.int _ _) rfl ?_
    refine op_nil (at_then ?_)
    refine W_block ?_
    refine W_loop 2199023222896 (α := Nat) (fun i => [(6, .int .i64 (i : Int))]) (fun i w' => i ≤ xs.length ∧ w0 = w' ∧ (∀ (k : Nat) (x : Int), k < i → xs[k]? = some x → mayM x = true) ∧ ∀ (k : Nat) (y : Int), k < i → ys[k]? = some y → smallM y = true) (fun i => xs.length - i) 0 rfl ?_ ?_ ?_
    · exact ⟨rfl, trivial⟩
    · exact ⟨Nat.zero_le _, rfl, (fun k x h => absurd h (Nat.not_lt_zero _)), fun k x h => absurd h (Nat.not_lt_zero _)⟩
    · rintro i j w ⟨hi, rfl, hb, hby⟩
      refine W_seq ?_
      refine W_rseq ?_
      refine op_move rfl (.int _ _) rfl ?_
      refine op_move rfl (.slice _ _ _) rfl ?_
      refine op_len rfl el_29_SnL rfl ?_
      refine op_lss rfl rfl rfl ?_
      refine op_nil (at_then ?_)
      refine W_cond _ rfl ?_ ?_
      · intro h2
        replace h2 := dec_t h2
        obtain ⟨x, hx⟩ := get_some (l := xs) (i := i) (by omega)
        obtain ⟨y, hy⟩ := get_some (l := ys) (i := i) (by omega)
        refine W_skip (at_then ?_)
        refine W_seq ?_
        refine W_block ?_
        refine W_rseq (Wops_join (α := Unit) 2199021158400 (fun _ => [(40, .bool (!inM x y))]) (fun _ w' => w' = w0) rfl ?_ ?_)
        · refine op_move rfl (.slice _ _ _) rfl ?_
          refine op_move rfl (.int _ _) rfl ?_
          first | refine op_indexRd R rfl el_29_SnL sz_2_SnL rfl rfl (by omega) (by omega) (by first | rfl | omega) ?_ | refine op_indexRd Ry rfl el_29_SnL sz_2_SnL rfl rfl (by omega) (by omega) (by first | rfl | omega) ?_ | refine op_indexAddr rfl el_29_SnL sz_2_SnL rfl rfl (by omega) (by omega) ?_
          first | refine op_ldb rfl ag_2_SnL rfl H (by first | exact at0 | exact at1 | exact at2 | exact at3 | exact at4 | exact at5 | exact at6 | exact at7 | exact at8 | exact at9) rfl ?_ | refine op_ld rfl ag_2_SnL rfl ((R.fld hx rfl (j := 0) rfl)) ?_ | refine op_ld rfl ag_2_SnL rfl ((Ry.fld hy rfl (j := 0) rfl)) ?_
          refine op_call rfl ca_75_SnL (rmay16_ok x _) rfl ?_
          rintro v w ⟨rfl, rfl⟩
          refine op_not rfl rfl ?_
          refine op_move rfl (.bool _) rfl ?_
          refine Wops_split 27 rfl ?_ ?_
          · intro h1
            replace h1 := nvar_t h1
            refine op_skip rfl ?_
            refine op_skip rfl ?_
            refine op_skip rfl ?_
            refine op_skip rfl ?_
            refine op_skip rfl ?_
            refine op_pick1 rfl rfl (.bool _) rfl ?_
            refine op_move rfl (.bool _) rfl ?_
            refine op_skip rfl ?_
            refine op_skip rfl ?_
            refine op_skip rfl ?_
            refine op_skip rfl ?_
            refine op_skip rfl ?_
            refine op_pick1 rfl rfl (.bool _) rfl ?_
            refine op_nil ?_
            exact ⟨rfl, (), rfl, ⟨congrArg Value.bool (by unfold inM smallM; rw [Bool.eq_iff_iff]; simp_all; try omega), trivial⟩, rfl⟩
          · intro h2
            replace h2 := nvar_f h2
            refine op_move rfl (.slice _ _ _) rfl ?_
            refine op_move rfl (.int _ _) rfl ?_
            first | refine op_indexRd R rfl el_29_SnL sz_2_SnL rfl rfl (by omega) (by omega) (by first | rfl | omega) ?_ | refine op_indexRd Ry rfl el_29_SnL sz_2_SnL rfl rfl (by omega) (by omega) (by first | rfl | omega) ?_ | refine op_indexAddr rfl el_29_SnL sz_2_SnL rfl rfl (by omega) (by omega) ?_
            first | refine op_ldb rfl ag_2_SnL rfl H (by first | exact at0 | exact at1 | exact at2 | exact at3 | exact at4 | exact at5 | exact at6 | exact at7 | exact at8 | exact at9) rfl ?_ | refine op_ld rfl ag_2_SnL rfl ((R.fld hx rfl (j := 0) rfl)) ?_ | refine op_ld rfl ag_2_SnL rfl ((Ry.fld hy rfl (j := 0) rfl)) ?_
            refine op_gtr rfl rfl rfl ?_
            refine op_pick0 rfl rfl (.bool _) rfl ?_
            refine op_move rfl (.bool _) rfl ?_
            refine Wops_split 34 rfl ?_ ?_
            · intro h3
              replace h3 := dec_t h3
              refine op_skip rfl ?_
              refine op_skip rfl ?_
              refine op_skip rfl ?_
              refine op_skip rfl ?_
              refine op_skip rfl ?_
              refine op_pick1 rfl rfl (.bool _) rfl ?_
              refine op_nil ?_
              exact ⟨rfl, (), rfl, ⟨congrArg Value.bool (by unfold inM smallM; rw [Bool.eq_iff_iff]; simp_all; try omega), trivial⟩, rfl⟩
            · intro h4
              replace h4 := dec_f h4
              refine op_move rfl (.slice _ _ _) rfl ?_
              refine op_move rfl (.int _ _) rfl ?_
              first | refine op_indexRd R rfl el_29_SnL sz_2_SnL rfl rfl (by omega) (by omega) (by first | rfl | omega) ?_ | refine op_indexRd Ry rfl el_29_SnL sz_2_SnL rfl rfl (by omega) (by omega) (by first | rfl | omega) ?_ | refine op_indexAddr rfl el_29_SnL sz_2_SnL rfl rfl (by omega) (by omega) ?_
              first | refine op_ldb rfl ag_2_SnL rfl H (by first | exact at0 | exact at1 | exact at2 | exact at3 | exact at4 | exact at5 | exact at6 | exact at7 | exact at8 | exact at9) rfl ?_ | refine op_ld rfl ag_2_SnL rfl ((R.fld hx rfl (j := 0) rfl)) ?_ | refine op_ld rfl ag_2_SnL rfl ((Ry.fld hy rfl (j := 0) rfl)) ?_
              refine op_lss rfl rfl rfl ?_
              refine op_pick0 rfl rfl (.bool _) rfl ?_
              refine op_nil ?_
              exact ⟨rfl, (), rfl, ⟨congrArg Value.bool (by unfold inM smallM; rw [Bool.eq_iff_iff]; simp_all; try omega), trivial⟩, rfl⟩
        rintro - j40 w hw
        subst w
        refine W_cond _ rfl ?_ ?_
        · intro h3
          replace h3 := nvar_t h3
          refine W_rseq ?_
          refine op_assign rfl (.slice _ _ _) rfl ?_
          refine op_assign rfl (.int _ _) rfl ?_
          refine op_nil (at_then ?_)
          refine W_ret (ret_block (ret_then (ret_then (ret_block (ret_then (leave2 (v1 := (.slice _ _ _)) (v2 := (.int _ _)) rfl rfl rfl rfl ?_))))))
          have h4 : shiftC xs ys = 1 := shiftC_one fun h => by
            have h5 : inM x y = false := by simpa using h3
            unfold inM at h5
            unfold evenM at h
            simp only [Bool.and_eq_true] at h
            rcases Bool.and_eq_false_iff.1 h5 with h5 | h5
            · exact not_all hx h5 h.2.1
            · exact not_all hy h5 h.2.2.1
          exact ⟨_, by rw [h4], fun _ => rfl, (fun h => by omega), Ext.refl _ _⟩
        · intro h3
          replace h3 := nvar_f h3
          refine W_skip (at_block (at_then ?_))
          refine W_region ?_
          refine op_move rfl (.int _ _) rfl ?_
          refine op_add_i64 rfl rfl rfl (by omega) (by omega) ?_
          refine op_assign rfl (.int _ _) rfl ?_
          refine op_nil (at_then ?_)
          have h5 : inM x y = true := by simpa using h3
          unfold inM at h5
          rw [Bool.and_eq_true] at h5
          exact ⟨i + 1, rfl, ⟨rfl, trivial⟩, ⟨by omega, rfl, all_snoc hx hb h5.1, all_snoc hy hby h5.2⟩, by omega⟩
      · intro h2
        replace h2 := dec_f h2
        obtain rfl : i = xs.length := by omega
        have hax : xs.all mayM = true := all_true fun k x hk hx => hb k x hk hx
        have hay : ys.all smallM = true := all_true fun k x hk hx => hby k x (by omega) hx
        have hsm : ∀ y ∈ ys, -4503599627370496 ≤ y ∧ y ≤ 4503599627370496 := fun y hy => by
          have := List.all_eq_true.1 hay y hy
          unfold smallM at this
          simpa using this
        have hmy : ∀ x ∈ xs, 0 ≤ x ∧ x ≤ 4503599627370496 := fun x hx => mayM_iff.1 (List.all_eq_true.1 hax x hx)
        have hev : evenM ys = decide (sumM ys = 0) := by unfold evenM; rw [hay, Bool.true_and]
        refine W_exit (exit_then (exit_then (exit_here (at_then ?_))))
        refine W_seq ?_
        refine W_rseq ?_
        refine op_move rfl (.slice _ _ _) rfl ?_
        refine op_call rfl ca_182_SnL (level_ok b ys.length d ys _ Ry rfl hm2 hsm) rfl ?_
        rintro v w ⟨rfl, rfl⟩
        rw [← hev]
        refine op_not rfl rfl ?_
        refine op_nil (at_then ?_)
        refine W_cond _ rfl ?_ ?_
        · intro h3
          replace h3 := nvar_t h3
          refine W_rseq ?_
          refine op_assign rfl (.slice _ _ _) rfl ?_
          refine op_assign rfl (.int _ _) rfl ?_
          refine op_nil (at_then ?_)
          refine W_ret (ret_then (leave2 (v1 := (.slice _ _ _)) (v2 := (.int _ _)) rfl rfl rfl rfl ?_))
          have h4 : shiftC xs ys = 1 := shiftC_one fun h => by rw [h.2.2] at h3; cases h3
          exact ⟨_, by rw [h4], fun _ => rfl, (fun h => by omega), Ext.refl _ _⟩
        · intro h3
          replace h3 := nvar_f h3
          have hC := shiftC_two ⟨hle, hax, (show evenM ys = true by simpa using h3)⟩
          have hlen : (shiftM xs ys).length = xs.length := by unfold shiftM; rw [List.length_zipWith]; omega
          refine W_skip (at_then ?_)
          refine W_rseq ?_
          refine op_assign rfl (.slice _ _ _) rfl ?_
          refine op_nil (at_then ?_)
          refine W_seq ?_
          refine W_rseq ?_
          refine op_assign rfl (.int _ _) rfl ?_
          refine op_nil (at_then ?_)
          refine W_block ?_
          have H := Ctx.start w0 []
          refine W_loop 1152903912420802864 (α := Nat) (fun i => [(8, .int .i64 (i : Int))]) (fun i w' => i ≤ xs.length ∧ Ctx w0 [] w' [] ∧ ∀ (k : Nat) (x : Int), k < i → (shiftM xs ys)[k]? = some x → decide (0 ≤ x) = true) (fun i => xs.length - i) 0 rfl ?_ ?_ ?_
          · exact ⟨rfl, trivial⟩
          · exact ⟨Nat.zero_le _, H, fun k x h => absurd h (Nat.not_lt_zero _)⟩
          · clear H
            rintro i j2 w ⟨hi, H, hb2⟩
            refine W_seq ?_
            refine W_rseq ?_
            refine op_move rfl (.int _ _) rfl ?_
            refine op_move rfl (.slice _ _ _) rfl ?_
            refine op_len rfl el_29_SnL rfl ?_
            refine op_lss rfl rfl rfl ?_
            refine op_nil (at_then ?_)
            refine W_cond _ rfl ?_ ?_
            · intro h5
              replace h5 := dec_t h5
              obtain ⟨x, hx⟩ := get_some (l := xs) (i := i) (by omega)
              obtain ⟨y, hy⟩ := get_some (l := ys) (i := i) (by omega)
              have hx1 := hmy x (List.mem_of_getElem? hx)
              have hy1 := hsm y (List.mem_of_getElem? hy)
              have hat := shift_at hx hy
              refine W_skip (at_then ?_)
              refine W_seq ?_
              refine W_block ?_
              refine W_qseq (fun x => x = _) mixed_SnL (by kernel_rfl) rfl ?_
              refine q_move rfl (.slice _ _ _) rfl ?_
              refine q_move rfl (.int _ _) rfl ?_
              first | refine q_indexRd R rfl el_29_SnL sz_2_SnL rfl rfl (by omega) (by omega) (by first | rfl | omega) ?_ | refine q_indexRd Ry rfl el_29_SnL sz_2_SnL rfl rfl (by omega) (by omega) (by first | rfl | omega) ?_ | refine q_indexRd R rfl el_29_SnL sz_2_SnL rfl rfl (by omega) (by omega) (by first | rfl | omega) ?_ | refine q_indexRd Ry rfl el_29_SnL sz_2_SnL rfl rfl (by omega) (by omega) (by first | rfl | omega) ?_ | refine q_indexAddr rfl el_29_SnL sz_2_SnL rfl rfl (by omega) (by omega) ?_
              first | refine q_ldb rfl ag_2_SnL rfl (by rintro _ rfl; exact H.drew) (by first | exact at0 | exact at1 | exact at2 | exact at3 | exact at4 | exact at5 | exact at6 | exact at7 | exact at8 | exact at9) rfl ?_ | refine q_ld rfl ag_2_SnL rfl (by rintro _ rfl; exact ((R.fld hx rfl (j := 0) rfl))) ?_ | refine q_ld rfl ag_2_SnL rfl (by rintro _ rfl; exact ((Ry.fld hy rfl (j := 0) rfl))) ?_ | refine q_ld rfl ag_2_SnL rfl (by rintro _ rfl; exact (((R.ext0 H.drew.ext).fld hx rfl (j := 0) rfl))) ?_ | refine q_ld rfl ag_2_SnL rfl (by rintro _ rfl; exact (((Ry.ext0 H.drew.ext).fld hy rfl (j := 0) rfl))) ?_
              refine q_move rfl (.slice _ _ _) rfl ?_
              refine q_move rfl (.int _ _) rfl ?_
              first | refine q_indexRd R rfl el_29_SnL sz_2_SnL rfl rfl (by omega) (by omega) (by first | rfl | omega) ?_ | refine q_indexRd Ry rfl el_29_SnL sz_2_SnL rfl rfl (by omega) (by omega) (by first | rfl | omega) ?_ | refine q_indexRd R rfl el_29_SnL sz_2_SnL rfl rfl (by omega) (by omega) (by first | rfl | omega) ?_ | refine q_indexRd Ry rfl el_29_SnL sz_2_SnL rfl rfl (by omega) (by omega) (by first | rfl | omega) ?_ | refine q_indexAddr rfl el_29_SnL sz_2_SnL rfl rfl (by omega) (by omega) ?_
              first | refine q_ldb rfl ag_2_SnL rfl (by rintro _ rfl; exact H.drew) (by first | exact at0 | exact at1 | exact at2 | exact at3 | exact at4 | exact at5 | exact at6 | exact at7 | exact at8 | exact at9) rfl ?_ | refine q_ld rfl ag_2_SnL rfl (by rintro _ rfl; exact ((R.fld hx rfl (j := 0) rfl))) ?_ | refine q_ld rfl ag_2_SnL rfl (by rintro _ rfl; exact ((Ry.fld hy rfl (j := 0) rfl))) ?_ | refine q_ld rfl ag_2_SnL rfl (by rintro _ rfl; exact (((R.ext0 H.drew.ext).fld hx rfl (j := 0) rfl))) ?_ | refine q_ld rfl ag_2_SnL rfl (by rintro _ rfl; exact (((Ry.ext0 H.drew.ext).fld hy rfl (j := 0) rfl))) ?_
              refine q_add_i64 rfl rfl rfl (by omega) (by omega) ?_
              refine q_lss rfl rfl rfl ?_
              refine q_nil ?_
              rintro _ rfl
              replace H := H.drew
              refine W_cond _ rfl ?_ ?_
              · intro h6
                replace h6 := dec_t h6
                refine W_rseq ?_
                refine op_assign rfl (.slice _ _ _) rfl ?_
                refine op_assign rfl (.int _ _) rfl ?_
                refine op_nil (at_then ?_)
                refine W_ret (ret_block (ret_then (ret_then (ret_block (ret_then (leave2 (v1 := (.slice _ _ _)) (v2 := (.int _ _)) rfl rfl rfl rfl ?_))))))
                have h4 : shiftC xs ys = 12 := by rw [hC, if_pos (all_false hat (decide_eq_false (by omega)))]
                exact ⟨_, by rw [h4], fun _ => rfl, (fun h => by omega), H.ext⟩
              · intro h6
                replace h6 := dec_f h6
                refine W_skip (at_block (at_then ?_))
                refine W_region ?_
                refine op_move rfl (.int _ _) rfl ?_
                refine op_add_i64 rfl rfl rfl (by omega) (by omega) ?_
                refine op_assign rfl (.int _ _) rfl ?_
                refine op_nil (at_then ?_)
                exact ⟨i + 1, rfl, ⟨rfl, trivial⟩, ⟨by omega, H, all_snoc hat hb2 (decide_eq_true (by omega))⟩, by omega⟩
            · intro h5
              replace h5 := dec_f h5
              obtain rfl : i = xs.length := by omega
              have hp0 : ¬ (shiftM xs ys).all (fun x => decide (0 ≤ x)) = false := by
                rw [all_true fun k x hk hx => hb2 k x (by omega) hx]; decide
              rw [if_neg hp0] at hC
              refine W_exit (exit_then (exit_then (exit_here (at_then ?_))))
              refine W_seq ?_
              refine W_rseq ?_
              refine op_assign rfl (.int _ _) rfl ?_
              refine op_nil (at_then ?_)
              refine W_block ?_
              refine W_loop 309485008668423564117934768 (α := LSt) (fun t => [(7, .slice t.a t.i t.c), (9, .int .i64 (t.i : Int))]) (fun t w' => t.i ≤ xs.length ∧ OS t.a t.i t.c 1 t.full (((shiftM xs ys).take t.i).map i64v) ∧ Ctx w0 [] w' (ent t.a 2 t.full) ∧ ∀ (k : Nat) (x : Int), k < t.i → (shiftM xs ys)[k]? = some x → mayM x = true) (fun t => xs.length - t.i) ⟨0, none, 0, []⟩ rfl ?_ ?_ ?_
              · exact ⟨rfl, rfl, trivial⟩
              · exact ⟨Nat.zero_le _, OS.nil, H, fun k x h => absurd h (Nat.not_lt_zero _)⟩
              · clear H
                rintro ⟨i, a2, c2, full⟩ j3 w ⟨hi, O, H, hb3⟩; dsimp only at hi O H hb3; dsimp only
                refine W_seq ?_
                refine W_rseq ?_
                refine op_move rfl (.int _ _) rfl ?_
                refine op_move rfl (.slice _ _ _) rfl ?_
                refine op_len rfl el_29_SnL rfl ?_
                refine op_lss rfl rfl rfl ?_
                refine op_nil (at_then ?_)
                refine W_cond _ rfl ?_ ?_
                · intro h6
                  replace h6 := dec_t h6
                  obtain ⟨x, hx⟩ := get_some (l := xs) (i := i) (by omega)
                  obtain ⟨y, hy⟩ := get_some (l := ys) (i := i) (by omega)
                  have hx1 := hmy x (List.mem_of_getElem? hx)
                  have hy1 := hsm y (List.mem_of_getElem? hy)
                  have hat := shift_at hx hy
                  have htk := shift_take hx hy
                  have hxy : 0 ≤ x + y := of_decide_eq_true (hb2 i _ (by omega) hat)
                  refine W_skip (at_then ?_)
                  refine W_seq ?_
                  refine W_block ?_
                  refine W_seq ?_
                  refine W_qseq (fun x => x = _) mixed_SnL (by kernel_rfl) rfl ?_
                  refine q_move rfl (.slice _ _ _) rfl ?_
                  refine q_move rfl (.int _ _) rfl ?_
                  first | refine q_indexRd R rfl el_29_SnL sz_2_SnL rfl rfl (by omega) (by omega) (by first | rfl | omega) ?_ | refine q_indexRd Ry rfl el_29_SnL sz_2_SnL rfl rfl (by omega) (by omega) (by first | rfl | omega) ?_ | refine q_indexRd R rfl el_29_SnL sz_2_SnL rfl rfl (by omega) (by omega) (by first | rfl | omega) ?_ | refine q_indexRd Ry rfl el_29_SnL sz_2_SnL rfl rfl (by omega) (by omega) (by first | rfl | omega) ?_ | refine q_indexRd R rfl el_29_SnL sz_2_SnL rfl rfl (by omega) (by omega) (by first | rfl | omega) ?_ | refine q_indexRd Ry rfl el_29_SnL sz_2_SnL rfl rfl (by omega) (by omega) (by first | rfl | omega) ?_ | refine q_indexAddr rfl el_29_SnL sz_2_SnL rfl rfl (by omega) (by omega) ?_
                  first | refine q_ldb rfl ag_2_SnL rfl (by rintro _ rfl; exact H.drew) (by first | exact at0 | exact at1 | exact at2 | exact at3 | exact at4 | exact at5 | exact at6 | exact at7 | exact at8 | exact at9) rfl ?_ | refine q_ld rfl ag_2_SnL rfl (by rintro _ rfl; exact ((R.fld hx rfl (j := 0) rfl))) ?_ | refine q_ld rfl ag_2_SnL rfl (by rintro _ rfl; exact ((Ry.fld hy rfl (j := 0) rfl))) ?_ | refine q_ld rfl ag_2_SnL rfl (by rintro _ rfl; exact (((R.ext0 H.drew.ext).fld hx rfl (j := 0) rfl))) ?_ | refine q_ld rfl ag_2_SnL rfl (by rintro _ rfl; exact (((Ry.ext0 H.drew.ext).fld hy rfl (j := 0) rfl))) ?_ | refine q_ld rfl ag_2_SnL rfl (by rintro _ rfl; exact (((R.ext0 H.drew.ext).fld hx rfl (j := 0) rfl))) ?_ | refine q_ld rfl ag_2_SnL rfl (by rintro _ rfl; exact (((Ry.ext0 H.drew.ext).fld hy rfl (j := 0) rfl))) ?_
                  refine q_move rfl (.slice _ _ _) rfl ?_
                  refine q_move rfl (.int _ _) rfl ?_
                  first | refine q_indexRd R rfl el_29_SnL sz_2_SnL rfl rfl (by omega) (by omega) (by first | rfl | omega) ?_ | refine q_indexRd Ry rfl el_29_SnL sz_2_SnL rfl rfl (by omega) (by omega) (by first | rfl | omega) ?_ | refine q_indexRd R rfl el_29_SnL sz_2_SnL rfl rfl (by omega) (by omega) (by first | rfl | omega) ?_ | refine q_indexRd Ry rfl el_29_SnL sz_2_SnL rfl rfl (by omega) (by omega) (by first | rfl | omega) ?_ | refine q_indexRd R rfl el_29_SnL sz_2_SnL rfl rfl (by omega) (by omega) (by first | rfl | omega) ?_ | refine q_indexRd Ry rfl el_29_SnL sz_2_SnL rfl rfl (by omega) (by omega) (by first | rfl | omega) ?_ | refine q_indexAddr rfl el_29_SnL sz_2_SnL rfl rfl (by omega) (by omega) ?_
                  first | refine q_ldb rfl ag_2_SnL rfl (by rintro _ rfl; exact H.drew) (by first | exact at0 | exact at1 | exact at2 | exact at3 | exact at4 | exact at5 | exact at6 | exact at7 | exact at8 | exact at9) rfl ?_ | refine q_ld rfl ag_2_SnL rfl (by rintro _ rfl; exact ((R.fld hx rfl (j := 0) rfl))) ?_ | refine q_ld rfl ag_2_SnL rfl (by rintro _ rfl; exact ((Ry.fld hy rfl (j := 0) rfl))) ?_ | refine q_ld rfl ag_2_SnL rfl (by rintro _ rfl; exact (((R.ext0 H.drew.ext).fld hx rfl (j := 0) rfl))) ?_ | refine q_ld rfl ag_2_SnL rfl (by rintro _ rfl; exact (((Ry.ext0 H.drew.ext).fld hy rfl (j := 0) rfl))) ?_ | refine q_ld rfl ag_2_SnL rfl (by rintro _ rfl; exact (((R.ext0 H.drew.ext).fld hx rfl (j := 0) rfl))) ?_ | refine q_ld rfl ag_2_SnL rfl (by rintro _ rfl; exact (((Ry.ext0 H.drew.ext).fld hy rfl (j := 0) rfl))) ?_
                  refine q_add_i64 rfl rfl rfl (by omega) (by omega) ?_
                  refine q_gtr rfl rfl rfl ?_
                  refine q_nil ?_
                  rintro _ rfl
                  replace H := H.drew
                  refine W_cond _ rfl ?_ ?_
                  · intro h7
                    replace h7 := dec_t h7
                    refine W_rseq ?_
                    refine op_assign rfl (.slice _ _ _) rfl ?_
                    refine op_assign rfl (.int _ _) rfl ?_
                    refine op_nil (at_then ?_)
                    refine W_ret (ret_then (ret_block (ret_then (ret_then (ret_block (ret_then (leave2 (v1 := (.slice _ _ _)) (v2 := (.int _ _)) rfl rfl rfl rfl ?_)))))))
                    have h4 : shiftC xs ys = 13 := by
                      rw [hC, if_pos (all_false hat (by unfold mayM; simp only [Bool.and_eq_false_iff, decide_eq_false_iff_not]; omega))]
                    exact ⟨_, by rw [h4], fun _ => rfl, (fun h => by omega), H.ext⟩
                  · intro h7
                    replace h7 := dec_f h7
                    have hgx := hx
                    refine W_skip (at_then ?_)
                    refine W_segz [([0, 1, 2, 3, 4, 5, 6, 7, 8, 9], 10), ([], 11), ([], 12)] (fun z => Ext [] w0 z) [] mixed_SnL (by kernel_rfl) (H.drew.ext) ?_
                    refine seg_cons rfl rfl ?_
                    refine t_move rfl (.slice _ _ _) rfl ?_
                    refine t_move rfl (.slice _ _ _) rfl ?_
                    refine t_move rfl (.int _ _) rfl ?_
                    first | refine t_indexRd R rfl el_29_SnL sz_2_SnL rfl rfl (by omega) (by omega) (by first | rfl | omega) ?_ | refine t_indexRd Ry rfl el_29_SnL sz_2_SnL rfl rfl (by omega) (by omega) (by first | rfl | omega) ?_ | refine t_indexRd R rfl el_29_SnL sz_2_SnL rfl rfl (by omega) (by omega) (by first | rfl | omega) ?_ | refine t_indexRd Ry rfl el_29_SnL sz_2_SnL rfl rfl (by omega) (by omega) (by first | rfl | omega) ?_ | refine t_indexRd R rfl el_29_SnL sz_2_SnL rfl rfl (by omega) (by omega) (by first | rfl | omega) ?_ | refine t_indexRd Ry rfl el_29_SnL sz_2_SnL rfl rfl (by omega) (by omega) (by first | rfl | omega) ?_ | refine t_indexRd R rfl el_29_SnL sz_2_SnL rfl rfl (by omega) (by omega) (by first | rfl | omega) ?_ | refine t_indexRd Ry rfl el_29_SnL sz_2_SnL rfl rfl (by omega) (by omega) (by first | rfl | omega) ?_ | refine t_indexAddr rfl el_29_SnL sz_2_SnL rfl rfl (by omega) (by omega) ?_
                    first | refine t_ldb rfl ag_2_SnL rfl True.intro (by first | exact at0 | exact at1 | exact at2 | exact at3 | exact at4 | exact at5 | exact at6 | exact at7 | exact at8 | exact at9) rfl ?_ | refine t_ld rfl ag_2_SnL rfl (fun _ hx => (R.fld hx rfl (j := 0) rfl)) ?_ | refine t_ld rfl ag_2_SnL rfl (fun _ hx => (Ry.fld hy rfl (j := 0) rfl)) ?_ | refine t_ld rfl ag_2_SnL rfl (fun _ hx => ((R.ext0 H.drew.ext).fld hx rfl (j := 0) rfl)) ?_ | refine t_ld rfl ag_2_SnL rfl (fun _ hx => ((Ry.ext0 H.drew.ext).fld hy rfl (j := 0) rfl)) ?_ | refine t_ld rfl ag_2_SnL rfl (fun _ hx => ((R.ext0 H.drew.ext).fld hx rfl (j := 0) rfl)) ?_ | refine t_ld rfl ag_2_SnL rfl (fun _ hx => ((Ry.ext0 H.drew.ext).fld hy rfl (j := 0) rfl)) ?_ | refine t_ld rfl ag_2_SnL rfl (fun _ hx => ((R.ext0 hx).fld hgx rfl (j := 0) rfl)) ?_ | refine t_ld rfl ag_2_SnL rfl (fun _ hx => ((Ry.ext0 hx).fld hy rfl (j := 0) rfl)) ?_
                    refine t_move rfl (.slice _ _ _) rfl ?_
                    refine t_move rfl (.int _ _) rfl ?_
                    first | refine t_indexRd R rfl el_29_SnL sz_2_SnL rfl rfl (by omega) (by omega) (by first | rfl | omega) ?_ | refine t_indexRd Ry rfl el_29_SnL sz_2_SnL rfl rfl (by omega) (by omega) (by first | rfl | omega) ?_ | refine t_indexRd R rfl el_29_SnL sz_2_SnL rfl rfl (by omega) (by omega) (by first | rfl | omega) ?_ | refine t_indexRd Ry rfl el_29_SnL sz_2_SnL rfl rfl (by omega) (by omega) (by first | rfl | omega) ?_ | refine t_indexRd R rfl el_29_SnL sz_2_SnL rfl rfl (by omega) (by omega) (by first | rfl | omega) ?_ | refine t_indexRd Ry rfl el_29_SnL sz_2_SnL rfl rfl (by omega) (by omega) (by first | rfl | omega) ?_ | refine t_indexRd R rfl el_29_SnL sz_2_SnL rfl rfl (by omega) (by omega) (by first | rfl | omega) ?_ | refine t_indexRd Ry rfl el_29_SnL sz_2_SnL rfl rfl (by omega) (by omega) (by first | rfl | omega) ?_ | refine t_indexAddr rfl el_29_SnL sz_2_SnL rfl rfl (by omega) (by omega) ?_
                    first | refine t_ldb rfl ag_2_SnL rfl True.intro (by first | exact at0 | exact at1 | exact at2 | exact at3 | exact at4 | exact at5 | exact at6 | exact at7 | exact at8 | exact at9) rfl ?_ | refine t_ld rfl ag_2_SnL rfl (fun _ hx => (R.fld hx rfl (j := 0) rfl)) ?_ | refine t_ld rfl ag_2_SnL rfl (fun _ hx => (Ry.fld hy rfl (j := 0) rfl)) ?_ | refine t_ld rfl ag_2_SnL rfl (fun _ hx => ((R.ext0 H.drew.ext).fld hx rfl (j := 0) rfl)) ?_ | refine t_ld rfl ag_2_SnL rfl (fun _ hx => ((Ry.ext0 H.drew.ext).fld hy rfl (j := 0) rfl)) ?_ | refine t_ld rfl ag_2_SnL rfl (fun _ hx => ((R.ext0 H.drew.ext).fld hx rfl (j := 0) rfl)) ?_ | refine t_ld rfl ag_2_SnL rfl (fun _ hx => ((Ry.ext0 H.drew.ext).fld hy rfl (j := 0) rfl)) ?_ | refine t_ld rfl ag_2_SnL rfl (fun _ hx => ((R.ext0 hx).fld hgx rfl (j := 0) rfl)) ?_ | refine t_ld rfl ag_2_SnL rfl (fun _ hx => ((Ry.ext0 hx).fld hy rfl (j := 0) rfl)) ?_
                    refine t_add_i64 rfl rfl rfl (by omega) (by omega) ?_
                    refine t_nil ?_
                    replace H := H.drew
                    refine op_build1 _ (.int _ _) rfl el_29_SnL sz_2_SnL zc_2_SnL rfl (by decide) (by decide) rfl rfl rfl H ?_
                    rintro b86 w - H
                    refine op_nil (at_seg (H.ext) ?_)
                    refine seg_cons rfl rfl ?_
                    refine t_nil ?_
                    refine op_appendb (L := []) rfl el_29_SnL el_29_SnL sz_2_SnL by_2_SnL zc_2_SnL rfl (by decide) rfl rfl H O rfl (by simp [oneCell]) (by omega) ?_
                    rintro a' c' full' w H O
                    refine op_nil (at_seg (H.ext) ?_)
                    refine seg_cons rfl rfl ?_
                    refine t_nil ?_
                    refine op_assign rfl (.slice _ _ _) rfl ?_
                    refine op_nil (at_seg (H.ext) ?_)
                    refine seg_nil ?_
                    refine at_block (at_then ?_)
                    refine W_region ?_
                    refine op_move rfl (.int _ _) rfl ?_
                    refine op_add_i64 rfl rfl rfl (by omega) (by omega) ?_
                    refine op_assign rfl (.int _ _) rfl ?_
                    refine op_nil (at_then ?_)
                    have hO : ((shiftM xs ys).take (i + 1)).map i64v = ((shiftM xs ys).take i).map i64v ++ [.int .i64 (x + y)] := by rw [htk, List.map_append]; rfl
                    exact ⟨⟨i + 1, a', c', full'⟩, rfl, ⟨rfl, rfl, trivial⟩, ⟨by dsimp only; omega, by dsimp only; rw [hO]; exact O, H, all_snoc hat hb3 (mayM_iff.2 ⟨hxy, by omega⟩)⟩, by dsimp only; omega⟩
                · intro h6
                  replace h6 := dec_f h6
                  refine W_exit (exit_then (exit_then (exit_here (at_then ?_))))
                  refine W_rseq ?_
                  refine op_move rfl (.slice _ _ _) rfl ?_
                  refine op_assign rfl (.slice _ _ _) rfl ?_
                  refine op_assign rfl (.int _ _) rfl ?_
                  refine op_nil (at_then ?_)
                  refine W_ret (leave2 (v1 := (.slice _ _ _)) (v2 := (.int _ _)) rfl rfl rfl rfl ?_)
                  obtain rfl : i = xs.length := by omega
                  have h4 : shiftC xs ys = 0 := by
                    rw [hC, if_neg (by rw [all_true fun k x hk hx => hb3 k x (by omega) hx]; decide)]
                  rw [show (shiftM xs ys).take xs.length = shiftM xs ys by rw [← hlen, List.take_length]] at O
                  exact ⟨_, by rw [h4], (fun h => absurd h4 h), (fun _ => Ctx.fresh (L := []) H O), H.ext⟩
end Go.Proofs.YtapphbmlkdhnmaaGreat

/- The accounts, as the reference has them. -/
namespace Go.Proofs.YtapphbmlkdhnmaaGreat
open Go.GV
theorem ag_22_SnM : aggB Tryz.prog 22 = some false := by kernel_rfl
theorem ag_2_SnM : aggB Tryz.prog 2 = some false := by kernel_rfl
theorem by_2_SnM : tbytes Tryz.prog 2 = some 8 := by kernel_rfl
theorem ca_114_SnM : callable Tryz.prog 114 = true := by kernel_rfl
theorem ca_143_SnM : callable Tryz.prog 143 = true := by kernel_rfl
theorem el_22_SnM : elemT Tryz.prog 22 = some 64 := by kernel_rfl
theorem el_29_SnM : elemT Tryz.prog 29 = some 2 := by kernel_rfl
theorem fo_52_0_SnM : fieldO Tryz.prog 52 0 = some 0 := by kernel_rfl
theorem fo_64_0_SnM : fieldO Tryz.prog 64 0 = some 0 := by kernel_rfl
theorem fo_64_1_SnM : fieldO Tryz.prog 64 1 = some 1 := by kernel_rfl
theorem mixed_SnM : Tryz.prog.follows .mixedOrders = true := by kernel_rfl
theorem sz_2_SnM : tsize Tryz.prog 2 = some 1 := by kernel_rfl
theorem sz_64_SnM : tsize Tryz.prog 64 = some 2 := by kernel_rfl
theorem zc_2_SnM : zcells Tryz.prog 2 = some ([.int .i64 0]) := by kernel_rfl
attribute [local irreducible] Wops W Wq Wt

set_option maxRecDepth 20000 in
set_option maxHeartbeats 2000000 in
theorem r17bal_ok (a : Option Addr) (n c : Nat) (acs : List Ac) (w : World) (R : Rd w a 2 encA acs) (hn : acs.length = n) (hm : n ≤ 1000000) :
    Ret Tryz.prog 114 #[.slice a n c] w fun v w' => Fresh w w' 2 1 v ((acs.map Ac.ba).map i64v) := by
  subst hn
  obtain ⟨w0, rfl⟩ : ∃ w0, w0 = w := ⟨_, rfl⟩
  have H := Ctx.start w0 []
  refine ret_of_W (fn := Tryz.f114) Tryz.func114 rfl [.slice a acs.length c] rfl (by kernel_rfl) ?_
  refine W_rseq ?_
  refine op_assign rfl (.slice _ _ _) rfl ?_
  refine op_nil (at_then ?_)
  refine W_rseq ?_
  refine op_assign rfl (.slice _ _ _) rfl ?_
  refine op_nil (at_then ?_)
  refine W_seq ?_
  refine W_rseq ?_
  refine op_assign rfl (.int _ _) rfl ?_
  refine op_nil (at_then ?_)
  refine W_block ?_
  refine W_loop 524280 (α := LSt) (fun t => [(3, .slice t.a t.i t.c), (4, .int .i64 (t.i : Int))]) (fun t w' => t.i ≤ acs.length ∧ OS t.a t.i t.c 1 t.full (((acs.take t.i).map Ac.ba).map i64v) ∧ Ctx w0 [] w' (ent t.a 2 t.full)) (fun t => acs.length - t.i) ⟨0, none, 0, []⟩ rfl ?_ ?_ ?_
  · exact ⟨rfl, rfl, trivial⟩
  · exact ⟨Nat.zero_le _, OS.nil, H⟩
  · rintro ⟨i, a2, c2, full⟩ j w ⟨hi, O, H⟩; dsimp only at hi O H; dsimp only
    refine W_seq ?_
    refine W_rseq ?_
    refine op_move rfl (.int _ _) rfl ?_
    refine op_move rfl (.slice _ _ _) rfl ?_
    refine op_len rfl el_22_SnM rfl ?_
    refine op_lss rfl rfl rfl ?_
    refine op_nil (at_then ?_)
    refine W_cond _ rfl ?_ ?_
    · intro h1
      replace h1 := dec_t h1
      obtain ⟨x, hx⟩ := get_some (l := acs) (i := i) (by omega)
      refine W_skip (at_then ?_)
      refine W_seq ?_
      refine W_block ?_
      refine W_region ?_
      refine op_move rfl (.slice _ _ _) rfl ?_
      refine op_move rfl (.slice _ _ _) rfl ?_
      refine op_move rfl (.int _ _) rfl ?_
      first | refine op_indexRd R rfl el_22_SnM sz_64_SnM rfl rfl (by omega) (by omega) (by first | rfl | omega) ?_ | refine op_indexAddr rfl el_22_SnM sz_64_SnM rfl rfl (by omega) (by omega) ?_
      refine op_fieldAddr rfl fo_64_0_SnM rfl ?_
      first | refine op_ldb rfl ag_2_SnM rfl H (by first | exact at0 | exact at1 | exact at2 | exact at3 | exact at4 | exact at5 | exact at6 | exact at7 | exact at8 | exact at9) rfl ?_ | refine op_ld rfl ag_2_SnM rfl (((R.ext0 H.ext).fld hx rfl (j := 0) rfl)) ?_
      refine op_build1 _ (.int _ _) rfl el_29_SnM sz_2_SnM zc_2_SnM rfl (by decide) (by decide) rfl rfl rfl H ?_
      rintro b17 w - H
      refine op_appendb (L := []) rfl el_29_SnM el_29_SnM sz_2_SnM by_2_SnM zc_2_SnM rfl (by decide) rfl rfl H O rfl (by simp [oneCell]) (by omega) ?_
      rintro a' c' full' w H O
      refine op_assign rfl (.slice _ _ _) rfl ?_
      refine op_nil (at_block (at_then ?_))
      refine W_region ?_
      refine op_move rfl (.int _ _) rfl ?_
      refine op_add_i64 rfl rfl rfl (by omega) (by omega) ?_
      refine op_assign rfl (.int _ _) rfl ?_
      refine op_nil (at_then ?_)
      exact ⟨⟨i + 1, a', c', full'⟩, rfl, ⟨rfl, rfl, trivial⟩, ⟨by dsimp only; omega, by dsimp only; rw [take_map hx, List.map_append]; exact O, H⟩, by dsimp only; omega⟩
    · intro h1
      replace h1 := dec_f h1
      refine W_exit (exit_then (exit_then (exit_here (at_then ?_))))
      refine W_rseq ?_
      refine op_move rfl (.slice _ _ _) rfl ?_
      refine op_assign rfl (.slice _ _ _) rfl ?_
      refine op_nil (at_then ?_)
      refine W_ret (leave1 (v := (.slice _ _ _)) rfl rfl rfl ?_)
      obtain rfl : i = acs.length := by omega
      rw [List.take_length] at O
      exact Ctx.fresh (L := []) H O
set_option maxRecDepth 20000 in
set_option maxHeartbeats 2000000 in
theorem r17rooms_ok {bd : Nat} (a : Option Addr) (n c : Nat) (acs : List Ac) (w : World) (hd : w.heap[bd]? = some (Bl 52 [.slice a n c])) (R : Rd w a 2 encA acs) (hn : acs.length = n) (hm : n ≤ 1000000) (hmay : ∀ x ∈ acs, acMay x = true) :
    Ret Tryz.prog 14 #[ptr bd] w fun v w' => Fresh w w' 2 1 v ((acs.map roomV).map i64v) := by
  subst hn
  obtain ⟨w0, rfl⟩ : ∃ w0, w0 = w := ⟨_, rfl⟩
  have H := Ctx.start w0 []
  refine ret_of_W (fn := Tryz.f14) Tryz.func14 rfl [.pointer (some ⟨bd, 0, none⟩)] rfl (by kernel_rfl) ?_
  refine W_rseq ?_
  refine op_assign rfl (.slice _ _ _) rfl ?_
  refine op_nil (at_then ?_)
  refine W_rseq ?_
  refine op_assign rfl (.slice _ _ _) rfl ?_
  refine op_nil (at_then ?_)
  refine W_seq ?_
  refine W_rseq ?_
  refine op_assign rfl (.int _ _) rfl ?_
  refine op_nil (at_then ?_)
  refine W_block ?_
  refine W_loop 34359738360 (α := LSt) (fun t => [(3, .slice t.a t.i t.c), (4, .int .i64 (t.i : Int))]) (fun t w' => t.i ≤ acs.length ∧ OS t.a t.i t.c 1 t.full (((acs.take t.i).map roomV).map i64v) ∧ Ctx w0 [] w' (ent t.a 2 t.full)) (fun t => acs.length - t.i) ⟨0, none, 0, []⟩ rfl ?_ ?_ ?_
  · exact ⟨rfl, rfl, trivial⟩
  · exact ⟨Nat.zero_le _, OS.nil, H⟩
  · clear H
    rintro ⟨i, a2, c2, full⟩ j w ⟨hi, O, H⟩; dsimp only at hi O H; dsimp only
    refine W_seq ?_
    refine W_rseq ?_
    refine op_move rfl (.int _ _) rfl ?_
    refine op_move rfl (.pointer _) rfl ?_
    refine op_nilCheck rfl rfl ?_
    refine op_fieldAddr rfl fo_52_0_SnM rfl ?_
    first | refine op_ldb rfl ag_22_SnM rfl H (by first | exact at0 | exact at1 | exact at2 | exact at3 | exact at4 | exact at5 | exact at6 | exact at7 | exact at8 | exact at9) rfl ?_ | refine op_ld rfl ag_22_SnM rfl ((H.old0 (by rw [cell_bl hd]; rfl))) ?_
    refine op_len rfl el_22_SnM rfl ?_
    refine op_lss rfl rfl rfl ?_
    refine op_nil (at_then ?_)
    refine W_cond _ rfl ?_ ?_
    · intro h1
      replace h1 := dec_t h1
      obtain ⟨x, hgx⟩ := get_some (l := acs) (i := i) (by omega)
      have hxm := hmay x (List.mem_of_getElem? hgx)
      have hx2 : (0 ≤ x.ba ∧ x.ba ≤ 4503599627370496) ∧ 0 ≤ x.re ∧ x.re ≤ 4503599627370496 := by
        unfold acMay at hxm
        rw [Bool.and_eq_true, mayM_iff, mayM_iff] at hxm
        exact hxm
      have hrv : roomV x = max (x.ba - x.re) 0 := Int.max_comm ..
      refine W_skip (at_then ?_)
      refine W_seq ?_
      refine W_block ?_
      refine W_segz [([0, 1, 2, 3, 4, 5, 6, 7, 8, 9, 10, 11, 12, 13, 14, 15, 16, 17, 18], 19), ([], 20), ([], 21)] (fun z => Ext [] w0 z) [] mixed_SnM (by kernel_rfl) (H.drew.ext) ?_
      refine seg_cons rfl rfl ?_
      refine t_move rfl (.slice _ _ _) rfl ?_
      refine t_move rfl (.pointer _) rfl ?_
      refine t_nilCheck rfl rfl ?_
      refine t_fieldAddr rfl fo_52_0_SnM rfl ?_
      first | refine t_ldb rfl ag_22_SnM rfl True.intro (by first | exact at0 | exact at1 | exact at2 | exact at3 | exact at4 | exact at5 | exact at6 | exact at7 | exact at8 | exact at9) rfl ?_ | refine t_ld rfl ag_22_SnM rfl (fun _ hx => (H.old0 (by rw [cell_bl hd]; rfl))) ?_ | refine t_ld rfl ag_22_SnM rfl (fun _ hx => (by rw [cell_bl (hx.to hd (by simp))]; rfl)) ?_ | refine t_ld rfl ag_22_SnM rfl (fun _ hx => ((R.ext0 hx).fld hgx rfl (j := 0) rfl)) ?_ | refine t_ld rfl ag_22_SnM rfl (fun _ hx => ((R.ext0 hx).fld hgx rfl (j := 1) rfl)) ?_
      refine t_move rfl (.int _ _) rfl ?_
      first | refine t_indexRd R rfl el_22_SnM sz_64_SnM rfl rfl (by omega) (by omega) (by first | rfl | omega) ?_ | refine t_indexAddr rfl el_22_SnM sz_64_SnM rfl rfl (by omega) (by omega) ?_
      refine t_fieldAddr rfl fo_64_0_SnM rfl ?_
      first | refine t_ldb rfl ag_2_SnM rfl True.intro (by first | exact at0 | exact at1 | exact at2 | exact at3 | exact at4 | exact at5 | exact at6 | exact at7 | exact at8 | exact at9) rfl ?_ | refine t_ld rfl ag_2_SnM rfl (fun _ hx => (H.old0 (by rw [cell_bl hd]; rfl))) ?_ | refine t_ld rfl ag_2_SnM rfl (fun _ hx => (by rw [cell_bl (hx.to hd (by simp))]; rfl)) ?_ | refine t_ld rfl ag_2_SnM rfl (fun _ hx => ((R.ext0 hx).fld hgx rfl (j := 0) rfl)) ?_ | refine t_ld rfl ag_2_SnM rfl (fun _ hx => ((R.ext0 hx).fld hgx rfl (j := 1) rfl)) ?_
      refine t_move rfl (.pointer _) rfl ?_
      refine t_nilCheck rfl rfl ?_
      refine t_fieldAddr rfl fo_52_0_SnM rfl ?_
      first | refine t_ldb rfl ag_22_SnM rfl True.intro (by first | exact at0 | exact at1 | exact at2 | exact at3 | exact at4 | exact at5 | exact at6 | exact at7 | exact at8 | exact at9) rfl ?_ | refine t_ld rfl ag_22_SnM rfl (fun _ hx => (H.old0 (by rw [cell_bl hd]; rfl))) ?_ | refine t_ld rfl ag_22_SnM rfl (fun _ hx => (by rw [cell_bl (hx.to hd (by simp))]; rfl)) ?_ | refine t_ld rfl ag_22_SnM rfl (fun _ hx => ((R.ext0 hx).fld hgx rfl (j := 0) rfl)) ?_ | refine t_ld rfl ag_22_SnM rfl (fun _ hx => ((R.ext0 hx).fld hgx rfl (j := 1) rfl)) ?_
      refine t_move rfl (.int _ _) rfl ?_
      first | refine t_indexRd R rfl el_22_SnM sz_64_SnM rfl rfl (by omega) (by omega) (by first | rfl | omega) ?_ | refine t_indexAddr rfl el_22_SnM sz_64_SnM rfl rfl (by omega) (by omega) ?_
      refine t_fieldAddr rfl fo_64_1_SnM rfl ?_
      first | refine t_ldb rfl ag_2_SnM rfl True.intro (by first | exact at0 | exact at1 | exact at2 | exact at3 | exact at4 | exact at5 | exact at6 | exact at7 | exact at8 | exact at9) rfl ?_ | refine t_ld rfl ag_2_SnM rfl (fun _ hx => (H.old0 (by rw [cell_bl hd]; rfl))) ?_ | refine t_ld rfl ag_2_SnM rfl (fun _ hx => (by rw [cell_bl (hx.to hd (by simp))]; rfl)) ?_ | refine t_ld rfl ag_2_SnM rfl (fun _ hx => ((R.ext0 hx).fld hgx rfl (j := 0) rfl)) ?_ | refine t_ld rfl ag_2_SnM rfl (fun _ hx => ((R.ext0 hx).fld hgx rfl (j := 1) rfl)) ?_
      refine t_sub_i64 rfl rfl rfl (by omega) (by omega) ?_
      refine t_max2 rfl rfl rfl ?_
      refine t_nil ?_
      replace H := H.drew
      refine op_build1 _ (.int _ _) rfl el_29_SnM sz_2_SnM zc_2_SnM rfl (by decide) (by decide) rfl rfl rfl H ?_
      rintro b33 w - H
      refine op_nil (at_seg (H.ext) ?_)
      refine seg_cons rfl rfl ?_
      refine t_nil ?_
      refine op_appendb (L := []) rfl el_29_SnM el_29_SnM sz_2_SnM by_2_SnM zc_2_SnM rfl (by decide) rfl rfl H O rfl (by simp [oneCell]) (by omega) ?_
      rintro a' c' full' w H O
      refine op_nil (at_seg (H.ext) ?_)
      refine seg_cons rfl rfl ?_
      refine t_nil ?_
      refine op_assign rfl (.slice _ _ _) rfl ?_
      refine op_nil (at_seg (H.ext) ?_)
      refine seg_nil ?_
      refine at_block (at_then ?_)
      refine W_region ?_
      refine op_move rfl (.int _ _) rfl ?_
      refine op_add_i64 rfl rfl rfl (by omega) (by omega) ?_
      refine op_assign rfl (.int _ _) rfl ?_
      refine op_nil (at_then ?_)
      exact ⟨⟨i + 1, a', c', full'⟩, rfl, ⟨rfl, rfl, trivial⟩, ⟨by dsimp only; omega, by dsimp only; rw [take_map hgx, List.map_append, hrv]; exact O, H⟩, by dsimp only; omega⟩
    · intro h1
      replace h1 := dec_f h1
      refine W_exit (exit_then (exit_then (exit_here (at_then ?_))))
      refine W_rseq ?_
      refine op_move rfl (.slice _ _ _) rfl ?_
      refine op_assign rfl (.slice _ _ _) rfl ?_
      refine op_nil (at_then ?_)
      refine W_ret (leave1 (v := (.slice _ _ _)) rfl rfl rfl ?_)
      obtain rfl : i = acs.length := by omega
      rw [List.take_length] at O
      exact Ctx.fresh (L := []) H O
set_option maxRecDepth 20000 in
set_option maxHeartbeats 4000000 in
theorem r17shift_ok {bd : Nat} (a b : Option Addr) (c m d : Nat) (full : List Value) (acs : List Ac) (ys : List Int) (w : World) (hd : w.heap[bd]? = some (Bl 52 [.slice a acs.length c])) (O : OS a acs.length c 2 full (acs.flatMap encA))
    (hb : ∀ x ∈ ent a 64 full, w.heap[x.1]? = some x.2 ∧ x.1 ≠ bd) (hn : acs.length ≤ 1000) (Ry : Rd w b 1 I1 ys) (hm : ys.length = m) (hm2 : m ≤ 1000) :
    Ret Tryz.prog 74 #[ptr bd, .slice b m d] w fun v w' => v = .int .i64 (shiftC (acs.map Ac.ba) ys) ∧ ∃ full', OS a acs.length c 2 full' ((shA acs ys).flatMap encA) ∧ (∀ x ∈ ent a 64 full', w'.heap[x.1]? = some x.2) ∧ Ext ((ent a 64 full).map (·.1)) w w' := by
  obtain ⟨w0, rfl⟩ : ∃ w0, w0 = w := ⟨_, rfl⟩
  have R : Rd w0 a 2 encA acs := OS.rd O (fun x hx => (hb x hx).1) (fun _ _ => rfl) (by omega)
  obtain ⟨code, hcode⟩ : ∃ code, code = shiftC (acs.map Ac.ba) ys := ⟨_, rfl⟩
  obtain ⟨zs, hzs⟩ : ∃ zs, zs = shZ acs ys := ⟨_, rfl⟩
  have hzl : zs.length ≤ acs.length := by rw [hzs]; exact shZ_le acs ys
  rw [← shA_of, ← hzs, ← hcode]
  refine ret_of_W (fn := Tryz.f74) Tryz.func74 rfl [.pointer (some ⟨bd, 0, none⟩), .slice b m d] rfl (by kernel_rfl) ?_
  refine W_rseq ?_
  refine op_assign rfl (.int _ _) rfl ?_
  refine op_nil (at_then ?_)
  refine W_rseq ?_
  refine op_move rfl (.pointer _) rfl ?_
  refine op_nilCheck rfl rfl ?_
  refine op_fieldAddr rfl fo_52_0_SnM rfl ?_
  first | refine op_ldb rfl ag_22_SnM rfl H (by first | exact at0 | exact at1 | exact at2 | exact at3 | exact at4 | exact at5 | exact at6 | exact at7 | exact at8 | exact at9) rfl ?_ | refine op_ld rfl ag_22_SnM rfl ((by rw [cell_bl hd]; rfl)) ?_
  refine op_call rfl ca_114_SnM (r17bal_ok a acs.length c acs _ R rfl (by omega)) rfl ?_
  rintro v w F
  obtain ⟨a3, n3, c3, f3, rfl, O3, hb3⟩ := F.ex
  have hl3 := O3.llen
  rw [List.length_map, List.length_map] at hl3
  refine op_move rfl (.slice _ _ _) rfl ?_
  refine op_call rfl ca_143_SnM (r16shift_ok a3 b n3 c3 m d (acs.map Ac.ba) ys _ (O3.rd1 fun x hx => (hb3 x hx).1) (by rw [List.length_map]; omega) (by omega) (Ry.ext0 F.ext) hm hm2) rfl ?_
  rintro v w ⟨v', rfl, hv1, hv2, hx15⟩
  rw [← hcode]
  obtain ⟨a4, n4, c4, rfl, hn4, R4, hbz⟩ : ∃ a4 n4 c4, v' = .slice a4 n4 c4 ∧ zs.length = n4 ∧ Rd w a4 1 I1 zs ∧ (zs ≠ [] → w0.heap.size ≤ (adr a4).block) := shZ_rd hzs F.ext hv1 hv2
  refine op_move rfl (.tuple _) rfl ?_
  refine op_extract rfl rfl rfl ?_
  refine op_extract rfl rfl rfl ?_
  refine op_assign rfl (.slice _ _ _) rfl ?_
  refine op_assign rfl (.int _ _) rfl ?_
  refine op_nil (at_then ?_)
  refine W_seq ?_
  refine W_rseq ?_
  refine op_assign rfl (.int _ _) rfl ?_
  refine op_nil (at_then ?_)
  refine W_block ?_
  subst hn4
  obtain ⟨w1, rfl⟩ : ∃ z, z = w := ⟨_, rfl⟩
  have hx1 := F.ext.trans hx15
  have hb1 : ∀ x ∈ ent a 64 full, w1.heap[x.1]? = some x.2 := fun x hx => hx1.to (hb x hx).1 (by simp)
  obtain ⟨ids, hids⟩ : ∃ ids, ids = (ent a 64 full).map (·.1) := ⟨_, rfl⟩
  have hidl : ∀ y ∈ ids, y < w0.heap.size ∧ y ≠ bd := fun y hy => by
    rw [hids] at hy
    obtain ⟨x, hx, rfl⟩ := List.mem_map.1 hy
    exact ⟨heap_lt (hb x hx).1, (hb x hx).2⟩
  have H : Ctx w1 ids w1 (ent a 64 full) := ⟨Ext.refl _ _, hb1, ent_nd, fun x hx => .inl (by rw [hids]; exact List.mem_map_of_mem (f := (·.1)) hx)⟩
  have hd1 := hx1.to hd (by simp)
  rw [← hids]
  refine W_loop 34359476352 (α := HSt) (fun t => [(7, .int .i64 (t.i : Int))]) (fun t w' => t.i ≤ zs.length ∧ OS a acs.length c 2 t.full ((acsZ acs (fun i => zs.getD i 0) t.i).flatMap encA) ∧ Ctx w1 ids w' (ent a 64 t.full)) (fun t => zs.length - t.i) ⟨0, full⟩ rfl ?_ ?_ ?_
  · exact ⟨rfl, trivial⟩
  · exact ⟨Nat.zero_le _, by dsimp only; rw [acsZ_zero]; exact O, H⟩
  · clear H
    rintro ⟨i, fu⟩ j w ⟨hi, O, H⟩; dsimp only at hi O H; dsimp only
    refine W_seq ?_
    refine W_rseq ?_
    refine op_move rfl (.int _ _) rfl ?_
    refine op_move rfl (.slice _ _ _) rfl ?_
    refine op_len rfl el_29_SnM rfl ?_
    refine op_lss rfl rfl rfl ?_
    refine op_nil (at_then ?_)
    refine W_cond _ rfl ?_ ?_
    · intro h1
      replace h1 := dec_t h1
      obtain ⟨z, hz⟩ := get_some (l := zs) (i := i) (by omega)
      have hzne : zs ≠ [] := fun h => by rw [h] at hz; cases hz
      have hz0 : zs.getD i 0 = z := getD_of hz
      obtain ⟨q, rfl⟩ := O.form (by omega)
      have hil : i < acs.length := by omega
      obtain ⟨ac, hac⟩ := get_some hil
      have hOl := O.len
      have hqn := O.le
      have hzb : (adr a4).block ∉ ids := fun h => by have := hidl _ h; have := hbz hzne; omega
      refine W_skip (at_then ?_)
      refine W_seq ?_
      refine W_block ?_
      refine W_tail 11 mixed_SnM (by kernel_rfl) rfl rfl ?_
      refine q_move rfl (.pointer _) rfl ?_
      refine q_nilCheck rfl rfl ?_
      refine q_fieldAddr rfl fo_52_0_SnM rfl ?_
      first | refine q_ldb rfl ag_22_SnM rfl (by rintro _ rfl; exact H.drew) (by first | exact at0 | exact at1 | exact at2 | exact at3 | exact at4 | exact at5 | exact at6 | exact at7 | exact at8 | exact at9) rfl ?_ | refine q_ld rfl ag_22_SnM rfl (by rintro _ rfl; exact ((by rw [cell_bl hd]; rfl))) ?_ | refine q_ld rfl ag_22_SnM rfl (by rintro _ rfl; exact (((R4.ext H.drew.ext hzb).fld hz rfl (j := 0) rfl))) ?_ | refine q_ld rfl ag_22_SnM rfl (by rintro _ rfl; exact ((H.drew.old (cell_bl hd1 _) (fun h => (hidl _ h).2 rfl)))) ?_
      refine q_move rfl (.int _ _) rfl ?_
      refine q_move rfl (.slice _ _ _) rfl ?_
      refine q_move rfl (.int _ _) rfl ?_
      first | refine q_indexRd R4 rfl el_29_SnM sz_2_SnM rfl rfl (by omega) (by omega) (by first | rfl | omega) ?_ | refine q_indexAddr rfl el_29_SnM sz_2_SnM rfl rfl (by omega) (by omega) ?_
      first | refine q_ldb rfl ag_2_SnM rfl (by rintro _ rfl; exact H.drew) (by first | exact at0 | exact at1 | exact at2 | exact at3 | exact at4 | exact at5 | exact at6 | exact at7 | exact at8 | exact at9) rfl ?_ | refine q_ld rfl ag_2_SnM rfl (by rintro _ rfl; exact ((by rw [cell_bl hd]; rfl))) ?_ | refine q_ld rfl ag_2_SnM rfl (by rintro _ rfl; exact (((R4.ext H.drew.ext hzb).fld hz rfl (j := 0) rfl))) ?_ | refine q_ld rfl ag_2_SnM rfl (by rintro _ rfl; exact ((H.drew.old (cell_bl hd1 _) (fun h => (hidl _ h).2 rfl)))) ?_
      first | refine q_indexRd R4 rfl el_22_SnM sz_64_SnM rfl rfl (by omega) (by omega) (by first | rfl | omega) ?_ | refine q_indexAddr rfl el_22_SnM sz_64_SnM rfl rfl (by omega) (by omega) ?_
      refine q_fieldAddr rfl fo_64_0_SnM rfl ?_
      refine q_nil ?_
      replace H := H.drew
      refine op_stb (.int _ _) rfl sz_2_SnM rfl rfl rfl H at0 (by omega) ?_
      rintro w H
      refine op_nil (at_block (at_then ?_))
      refine W_region ?_
      refine op_move rfl (.int _ _) rfl ?_
      refine op_add_i64 rfl rfl rfl (by omega) (by omega) ?_
      refine op_assign rfl (.int _ _) rfl ?_
      refine op_nil (at_then ?_)
      rw [show 0 + ((i : Int)).toNat * 2 + 0 = i * 2 + 0 by omega] at H
      have O1 := OS.setf O (y := acZ acs (fun i => zs.getD i 0) (i + 1) i) (j := 0) (v := .int .i64 z) (fun _ => rfl) (acsZ_get hil) (by decide) (by unfold acZ encA; dsimp only; rw [if_pos (by omega), if_neg (by omega), hz0]; rfl)
      rw [acsZ_set] at O1
      exact ⟨⟨i + 1, _⟩, rfl, ⟨rfl, trivial⟩, ⟨by dsimp only; omega, O1, H⟩, by dsimp only; omega⟩
    · intro h1
      replace h1 := dec_f h1
      refine W_exit (exit_then (exit_then (exit_here (at_then ?_))))
      refine W_rseq ?_
      refine op_move rfl (.int _ _) rfl ?_
      refine op_assign rfl (.int _ _) rfl ?_
      refine op_nil (at_then ?_)
      refine W_ret (leave1 (v := (.int _ _)) rfl rfl rfl ?_)
      obtain rfl : i = zs.length := by omega
      exact ⟨rfl, fu, O, fun x hx => H.blk x hx, (hx1.mono (by simp)).trans H.ext⟩
end Go.Proofs.YtapphbmlkdhnmaaGreat

/- Equality of structs whose fields are numbers and flags. It holds for every program. -/
namespace Go.GV
open Go

def notAgg : TypeDesc → Bool
  | .struct _ => false
  | .array _ _ => false
  | _ => true
def plainF (P : Program) : List Field → Nat → List Bool → Bool
  | [], _, [] => true
  | f :: fs, i, k :: ks => (f.name != "_" && (f.offset == i && (match P.underlying f.type, k with | some (.int _), true => true | some .bool, false => true | _, _ => false))) && plainF P fs (i + 1) ks
  | _, _, _ => false
/-- Both are numbers of one kind, or both flags. -/
def likeV : Bool → Value → Value → Prop
  | true, .int k _, .int k' _ => k = k'
  | false, .bool _, .bool _ => True
  | _, _, _ => False
def likeL : List Bool → List Value → List Value → Prop
  | [], [], [] => True
  | k :: ks, x :: xs, y :: ys => likeV k x y ∧ likeL ks xs ys
  | _, _, _ => False

section
variable {P : Program}
theorem run_partI {t : TypeId} {u : TypeDesc} {cs : Array Value} {i : Nat} {v : Value} (w : World) (hu : P.underlying t = some u) (hs : notAgg u = true) (hc : cs[i]? = some v) : (part t cs i).run P w = .ok v w := by
  cases u <;> simp_all [part, isAgg, run_under hu, notAgg]
theorem run_eqFields (d : Nat) (X Y : Array Value) (w : World) : ∀ (fs : List Field) (i : Nat) (ks : List Bool) (xs ys : List Value), plainF P fs i ks = true → likeL ks xs ys → (∀ j v, xs[j]? = some v → X[i + j]? = some v) → (∀ j v, ys[j]? = some v → Y[i + j]? = some v) →
    ∃ r : Bool, (Op.eqFields (d + 1) X Y fs).run P w = .ok r w ∧ (r = true ↔ xs = ys)
  | [], i, ks, xs, ys, hF, hL, _, _ => by
    cases ks with
    | cons k ks => cases hF
    | nil =>
      cases xs with
      | cons x xs => cases hL
      | nil =>
        cases ys with
        | cons y ys => cases hL
        | nil => exact ⟨true, by simp [Op.eqFields], by simp⟩
  | f :: fs, i, ks, xs, ys, hF, hL, hX, hY => by
    cases ks with
    | nil => cases hF
    | cons k ks =>
      cases xs with
      | nil => cases hL
      | cons x xs =>
        cases ys with
        | nil => cases hL
        | cons y ys =>
          obtain ⟨hv, hL⟩ := hL
          simp only [plainF, Bool.and_eq_true, bne_iff_ne, ne_eq, beq_iff_eq] at hF
          obtain ⟨⟨hn, ho, hu⟩, hF⟩ := hF
          obtain ⟨r, hr, hri⟩ := run_eqFields d X Y w fs (i + 1) ks xs ys hF hL (fun j v hj => by rw [Nat.add_assoc, Nat.add_comm 1]; exact hX (j + 1) v hj) (fun j v hj => by rw [Nat.add_assoc, Nat.add_comm 1]; exact hY (j + 1) v hj)
          have hx0 := hX 0 x rfl
          have hy0 := hY 0 y rfl
          rw [Nat.add_zero, ← ho] at hx0 hy0
          obtain ⟨q, hq, hqi⟩ : ∃ q : Bool, (∀ w, (Op.equalIn (d + 1) f.type x y).run P w = .ok q w) ∧ (q = true ↔ x = y) := by
            split at hu
            · rename_i k' hk
              cases x <;> cases y <;> (try exact hv.elim)
              rename_i k1 a k2 b
              obtain rfl : k1 = k2 := hv
              exact ⟨a == b, fun w => run_equalIn_int w d f.type _ _ a b hk, by simp⟩
            · rename_i hk
              cases x <;> cases y <;> (try exact hv.elim)
              rename_i a b
              exact ⟨a == b, fun w => run_equalIn_bool w d f.type a b hk, by simp⟩
            · cases hu
          have hu2 : ∃ u, P.underlying f.type = some u ∧ notAgg u = true := by
            split at hu
            · rename_i h1; exact ⟨_, h1, rfl⟩
            · rename_i h1; exact ⟨_, h1, rfl⟩
            · cases hu
          obtain ⟨u, hu3, hu4⟩ := hu2
          have hp1 := run_partI w hu3 hu4 hx0
          have hp2 := run_partI w hu3 hu4 hy0
          cases q with
          | false =>
            refine ⟨false, ?_, ?_⟩
            · simp [Op.eqFields, hn, hp1, hp2, hq]
            · have : ¬ x = y := fun h => by have := hqi.2 h; cases this
              simp [this]
          | true =>
            refine ⟨r, ?_, ?_⟩
            · simp [Op.eqFields, hn, hp1, hp2, hq, hr]
            · have : x = y := hqi.1 rfl
              simp [this, hri]
/-- What the type must be: a struct of such fields. -/
def plainS (P : Program) (t : TypeId) (ks : List Bool) : Bool :=
  (match P.underlying t with | some (.struct _) => true | _ => false) && (!P.stoodInHeld t && (!P.eqGuardType P.depth t && plainF P (P.fieldsOf t).toList 0 ks))
theorem run_equalS {t : TypeId} {ks : List Bool} {xs ys : List Value} (w : World) (h : plainS P t ks = true) (hL : likeL ks xs ys) : ∃ r : Bool, (Op.equalIn 10000 t (.agg xs.toArray) (.agg ys.toArray)).run P w = .ok r w ∧ (r = true ↔ xs = ys) := by
  unfold plainS at h
  simp only [Bool.and_eq_true, Bool.not_eq_true'] at h
  obtain ⟨h1, h2, h3, h4⟩ := h
  have ht : P.underlying t = some (.struct (P.fieldsOf t)) := by
    unfold Program.fieldsOf
    split at h1
    · rename_i h5; rw [h5]
    · cases h1
  obtain ⟨r, hr, hri⟩ := run_eqFields (P := P) 9998 xs.toArray ys.toArray w _ 0 ks xs ys h4 hL (fun j v hv => by rw [Nat.zero_add]; simpa using hv) (fun j v hv => by rw [Nat.zero_add]; simpa using hv)
  exact ⟨r, by rw [run_equalIn_struct w 9999 t _ _ ht h2]; exact hr, hri⟩
end
section
variable {P : Program} {r : Option Nat} {ops rest : List Oper} {Q : Exit → Env → World → Prop} {e : Env} {w : World} {C : World → Prop} {K : Env → Prop}
  {dst : Option Tmp} {ty : TypeId} {pos : String} {af : Array Edge} {g : Option (Nat × Bool)} {t t2 : TypeId} {x y : Operand}
theorem run_neS {ks : List Bool} {xs ys : List Value} {b : Bool} (h : plainS P t ks = true) (hx : ev e x = .agg xs.toArray) (hy : ev e y = .agg ys.toArray) (hL : likeL ks xs ys) (hb : b = true ↔ xs = ys) (w : World) :
    (execOp (ev e) ⟨dst, .binOp .neq t x y t2, ty, pos, af, g⟩).run P w = .ok (.value (.bool (!b))) w := by
  obtain ⟨r, hr, hri⟩ := run_equalS w h hL
  have hrb : r = b := by rw [Bool.eq_iff_iff, hri, hb]
  have hg : (eqGuard .neq t x y (.agg xs.toArray) (.agg ys.toArray)).run P w = .ok () w := run_eqGuard_agg w .neq t x y _ _ (by
    unfold plainS at h; simp only [Bool.and_eq_true, Bool.not_eq_true'] at h; exact h.2.2.1)
  subst hrb
  simp [execOp, hx, hy, hg, run_neq_struct, hr]
theorem q_neS {ks : List Bool} {xs ys : List Value} (b : Bool) (hg : wants ⟨dst, .binOp .neq t x y t2, ty, pos, af, g⟩ ops e = true) (h : plainS P t ks = true) (hx : ev e x = .agg xs.toArray) (hy : ev e y = .agg ys.toArray) (hL : likeL ks xs ys) (hb : b = true ↔ xs = ys)
    (hk : Wq P ops C K rest (put e dst (.bool (!b)))) : Wq P ops C K (⟨dst, .binOp .neq t x y t2, ty, pos, af, g⟩ :: rest) e := q_val hg (fun w _ => run_neS h hx hy hL hb w) hk
end
end Go.GV

/- The accounts of the reference: Of; the laws' comparisons. -/
namespace Go.Proofs.YtapphbmlkdhnmaaGreat
open Go.GV
theorem ag_64_SnN : aggB Tryz.prog 64 = some true := by kernel_rfl
theorem el_22_SnN : elemT Tryz.prog 22 = some 64 := by kernel_rfl
theorem mixed_SnN : Tryz.prog.follows .mixedOrders = true := by kernel_rfl
theorem sz_64_SnN : tsize Tryz.prog 64 = some 2 := by kernel_rfl
attribute [local irreducible] Wops W Wq Wt

theorem encA_inj (x y : Ac) : decide (x = y) = true ↔ encA x = encA y := by
  obtain ⟨a, b⟩ := x
  obtain ⟨c, d⟩ := y
  simp [encA]
theorem encD_inj (x y : Du) : decide (x = y) = true ↔ encD x = encD y := by
  obtain ⟨a, b, c, d, e, f, g⟩ := x
  obtain ⟨a', b', c', d', e', f', g'⟩ := y
  simp [encD]
theorem list_eq {α : Type} {xs ys : List α} (hl : xs.length = ys.length) (h : ∀ (k : Nat) (x y : α), k < xs.length → xs[k]? = some x → ys[k]? = some y → x = y) : xs = ys := by
  refine List.ext_getElem? fun i => ?_
  rcases Nat.lt_or_ge i xs.length with h7 | h7
  · obtain ⟨x, hx⟩ := get_some (l := xs) (i := i) h7
    obtain ⟨y, hy⟩ := get_some (l := ys) (i := i) (by omega)
    rw [hx, hy, h i x y h7 hx hy]
  · rw [List.getElem?_eq_none (by omega), List.getElem?_eq_none (by omega)]
set_option maxRecDepth 20000 in
theorem same17_ok (a b : Option Addr) (n c m d : Nat) (xs ys : List Ac) (w : World) (R : Rd w a 2 encA xs) (hn : xs.length = n) (hn2 : n ≤ 1000000) (Ry : Rd w b 2 encA ys) (hm : ys.length = m) (hm2 : m ≤ 1000000) :
    Ret Tryz.prog 15 #[.slice a n c, .slice b m d] w fun v w' => v = .bool (decide (xs = ys)) ∧ Ext [] w w' := by
  subst hn hm
  obtain ⟨w0, rfl⟩ : ∃ w0, w0 = w := ⟨_, rfl⟩
  have H := Ctx.start w0 []
  refine ret_of_W (fn := Tryz.f15) Tryz.func15 rfl [.slice a xs.length c, .slice b ys.length d] rfl (by kernel_rfl) ?_
  refine W_rseq ?_
  refine op_assign rfl (.bool _) rfl ?_
  refine op_nil (at_then ?_)
  refine W_seq ?_
  refine W_rseq ?_
  refine op_move rfl (.slice _ _ _) rfl ?_
  refine op_len rfl el_22_SnN rfl ?_
  refine op_move rfl (.slice _ _ _) rfl ?_
  refine op_len rfl el_22_SnN rfl ?_
  refine op_neq rfl rfl rfl ?_
  refine op_nil (at_then ?_)
  refine W_cond _ rfl ?_ ?_
  · intro h1
    replace h1 := ndec_t h1
    refine W_rseq ?_
    refine op_assign rfl (.bool _) rfl ?_
    refine op_nil (at_then ?_)
    refine W_ret (ret_then (leave1 (v := (.bool _)) rfl rfl rfl ?_))
    exact ⟨congrArg Value.bool (decide_eq_false fun h => by rw [h] at h1; simp at h1).symm, H.ext⟩
  · intro h1
    replace h1 := ndec_f h1
    have hle : xs.length = ys.length := by omega
    refine W_skip (at_then ?_)
    refine W_seq ?_
    refine W_rseq ?_
    refine op_assign rfl (.int _ _) rfl ?_
    refine op_nil (at_then ?_)
    refine W_block ?_
    refine W_loop 67106864 (α := Nat) (fun i => [(5, .int .i64 (i : Int))]) (fun i w' => i ≤ xs.length ∧ Ctx w0 [] w' [] ∧ ∀ (k : Nat) (x y : Ac), k < i → xs[k]? = some x → ys[k]? = some y → x = y) (fun i => xs.length - i) 0 rfl ?_ ?_ ?_
    · exact ⟨rfl, trivial⟩
    · exact ⟨Nat.zero_le _, H, fun k x y h => absurd h (Nat.not_lt_zero _)⟩
    · clear H
      rintro i j w ⟨hi, H, hb⟩
      refine W_seq ?_
      refine W_rseq ?_
      refine op_move rfl (.int _ _) rfl ?_
      refine op_move rfl (.slice _ _ _) rfl ?_
      refine op_len rfl el_22_SnN rfl ?_
      refine op_lss rfl rfl rfl ?_
      refine op_nil (at_then ?_)
      refine W_cond _ rfl ?_ ?_
      · intro h2
        replace h2 := dec_t h2
        obtain ⟨x, hx⟩ := get_some (l := xs) (i := i) (by omega)
        obtain ⟨y, hy⟩ := get_some (l := ys) (i := i) (by omega)
        refine W_skip (at_then ?_)
        refine W_seq ?_
        refine W_block ?_
        refine W_qseq (fun x => x = _) mixed_SnN (by kernel_rfl) rfl ?_
        refine q_move rfl (.slice _ _ _) rfl ?_
        refine q_move rfl (.int _ _) rfl ?_
        first | refine q_indexRd R rfl el_22_SnN sz_64_SnN rfl rfl (by omega) (by omega) (by first | rfl | omega) ?_ | refine q_indexRd Ry rfl el_22_SnN sz_64_SnN rfl rfl (by omega) (by omega) (by first | rfl | omega) ?_ | refine q_indexAddr rfl el_22_SnN sz_64_SnN rfl rfl (by omega) (by omega) ?_
        first | refine q_ldN _ rfl ag_64_SnN sz_64_SnN rfl rfl (by rintro _ rfl; exact ((R.ext0 H.drew.ext).row hx rfl)) ?_ | refine q_ldN _ rfl ag_64_SnN sz_64_SnN rfl rfl (by rintro _ rfl; exact ((Ry.ext0 H.drew.ext).row hy rfl)) ?_ | refine q_ldbN rfl ag_64_SnN sz_64_SnN rfl (by rintro _ rfl; exact H.drew) (by first | exact at0 | exact at1 | exact at2 | exact at3 | exact at4 | exact at5 | exact at6 | exact at7 | exact at8 | exact at9) rfl ?_
        refine q_move rfl (.slice _ _ _) rfl ?_
        refine q_move rfl (.int _ _) rfl ?_
        first | refine q_indexRd R rfl el_22_SnN sz_64_SnN rfl rfl (by omega) (by omega) (by first | rfl | omega) ?_ | refine q_indexRd Ry rfl el_22_SnN sz_64_SnN rfl rfl (by omega) (by omega) (by first | rfl | omega) ?_ | refine q_indexAddr rfl el_22_SnN sz_64_SnN rfl rfl (by omega) (by omega) ?_
        first | refine q_ldN _ rfl ag_64_SnN sz_64_SnN rfl rfl (by rintro _ rfl; exact ((R.ext0 H.drew.ext).row hx rfl)) ?_ | refine q_ldN _ rfl ag_64_SnN sz_64_SnN rfl rfl (by rintro _ rfl; exact ((Ry.ext0 H.drew.ext).row hy rfl)) ?_ | refine q_ldbN rfl ag_64_SnN sz_64_SnN rfl (by rintro _ rfl; exact H.drew) (by first | exact at0 | exact at1 | exact at2 | exact at3 | exact at4 | exact at5 | exact at6 | exact at7 | exact at8 | exact at9) rfl ?_
        refine q_neS (ks := [true, true]) (xs := encA x) (ys := encA y) (decide (x = y)) rfl (by kernel_rfl) rfl rfl ⟨rfl, rfl, trivial⟩ (encA_inj x y) ?_
        refine q_nil ?_
        rintro _ rfl
        replace H := H.drew
        refine W_cond _ rfl ?_ ?_
        · intro h3
          refine W_rseq ?_
          refine op_assign rfl (.bool _) rfl ?_
          refine op_nil (at_then ?_)
          refine W_ret (ret_block (ret_then (ret_then (ret_block (ret_then (leave1 (v := (.bool _)) rfl rfl rfl ?_))))))
          have hne : ¬ x = y := by simpa using h3
          exact ⟨congrArg Value.bool (decide_eq_false fun h => by subst h; rw [hx] at hy; injection hy with hy; exact hne hy).symm, H.ext⟩
        · intro h3
          refine W_skip (at_block (at_then ?_))
          refine W_region ?_
          refine op_move rfl (.int _ _) rfl ?_
          refine op_add_i64 rfl rfl rfl (by omega) (by omega) ?_
          refine op_assign rfl (.int _ _) rfl ?_
          refine op_nil (at_then ?_)
          have heq : x = y := by simpa using h3
          refine ⟨i + 1, rfl, ⟨rfl, trivial⟩, ⟨by omega, H, fun k x' y' hk hx' hy' => ?_⟩, by omega⟩
          rcases Nat.lt_or_ge k i with h7 | h7
          · exact hb k x' y' h7 hx' hy'
          · obtain rfl : k = i := by omega
            rw [hx] at hx'; rw [hy] at hy'
            cases hx'; cases hy'
            exact heq
      · intro h2
        replace h2 := dec_f h2
        refine W_exit (exit_then (exit_then (exit_here (at_then ?_))))
        refine W_rseq ?_
        refine op_assign rfl (.bool _) rfl ?_
        refine op_nil (at_then ?_)
        refine W_ret (leave1 (v := (.bool _)) rfl rfl rfl ?_)
        obtain rfl : i = xs.length := by omega
        exact ⟨congrArg Value.bool (decide_eq_true (list_eq hle hb)).symm, H.ext⟩
end Go.Proofs.YtapphbmlkdhnmaaGreat

/- The accounts of the reference: Of; the dues, compared. -/
namespace Go.Proofs.YtapphbmlkdhnmaaGreat
open Go.GV
theorem ag_22_SnO : aggB Tryz.prog 22 = some false := by kernel_rfl
theorem ag_2_SnO : aggB Tryz.prog 2 = some false := by kernel_rfl
theorem ag_62_SnO : aggB Tryz.prog 62 = some true := by kernel_rfl
theorem by_64_SnO : tbytes Tryz.prog 64 = some 16 := by kernel_rfl
theorem ca_114_SnO : callable Tryz.prog 114 = true := by kernel_rfl
theorem ca_75_SnO : callable Tryz.prog 75 = true := by kernel_rfl
theorem ca_77_SnO : callable Tryz.prog 77 = true := by kernel_rfl
theorem el_22_SnO : elemT Tryz.prog 22 = some 64 := by kernel_rfl
theorem el_23_SnO : elemT Tryz.prog 23 = some 62 := by kernel_rfl
theorem fo_52_0_SnO : fieldO Tryz.prog 52 0 = some 0 := by kernel_rfl
theorem fo_64_0_SnO : fieldO Tryz.prog 64 0 = some 0 := by kernel_rfl
theorem fo_64_1_SnO : fieldO Tryz.prog 64 1 = some 1 := by kernel_rfl
theorem mixed_SnO : Tryz.prog.follows .mixedOrders = true := by kernel_rfl
theorem pl_52_SnO : placesB Tryz.prog 52 = some [(0, 1)] := by kernel_rfl
theorem sz_22_SnO : tsize Tryz.prog 22 = some 1 := by kernel_rfl
theorem sz_62_SnO : tsize Tryz.prog 62 = some 7 := by kernel_rfl
theorem sz_64_SnO : tsize Tryz.prog 64 = some 2 := by kernel_rfl
theorem zc_52_SnO : zcells Tryz.prog 52 = some ([.slice none 0 0]) := by kernel_rfl
theorem zc_64_SnO : zcells Tryz.prog 64 = some ([.int .i64 0, .int .i64 0]) := by kernel_rfl
attribute [local irreducible] Wops W Wq Wt

set_option maxRecDepth 20000 in
theorem same18_ok (a b : Option Addr) (n c m d : Nat) (xs ys : List Du) (w : World) (R : Rd w a 7 encD xs) (hn : xs.length = n) (hn2 : n ≤ 1000000) (Ry : Rd w b 7 encD ys) (hm : ys.length = m) (hm2 : m ≤ 1000000) :
    Ret Tryz.prog 17 #[.slice a n c, .slice b m d] w fun v w' => v = .bool (decide (xs = ys)) ∧ Ext [] w w' := by
  subst hn hm
  obtain ⟨w0, rfl⟩ : ∃ w0, w0 = w := ⟨_, rfl⟩
  have H := Ctx.start w0 []
  refine ret_of_W (fn := Tryz.f17) Tryz.func17 rfl [.slice a xs.length c, .slice b ys.length d] rfl (by kernel_rfl) ?_
  refine W_rseq ?_
  refine op_assign rfl (.bool _) rfl ?_
  refine op_nil (at_then ?_)
  refine W_seq ?_
  refine W_rseq ?_
  refine op_move rfl (.slice _ _ _) rfl ?_
  refine op_len rfl el_23_SnO rfl ?_
  refine op_move rfl (.slice _ _ _) rfl ?_
  refine op_len rfl el_23_SnO rfl ?_
  refine op_neq rfl rfl rfl ?_
  refine op_nil (at_then ?_)
  refine W_cond _ rfl ?_ ?_
  · intro h1
    replace h1 := ndec_t h1
    refine W_rseq ?_
    refine op_assign rfl (.bool _) rfl ?_
    refine op_nil (at_then ?_)
    refine W_ret (ret_then (leave1 (v := (.bool _)) rfl rfl rfl ?_))
    exact ⟨congrArg Value.bool (decide_eq_false fun h => by rw [h] at h1; simp at h1).symm, H.ext⟩
  · intro h1
    replace h1 := ndec_f h1
    have hle : xs.length = ys.length := by omega
    refine W_skip (at_then ?_)
    refine W_seq ?_
    refine W_rseq ?_
    refine op_assign rfl (.int _ _) rfl ?_
    refine op_nil (at_then ?_)
    refine W_block ?_
    refine W_loop 67106864 (α := Nat) (fun i => [(5, .int .i64 (i : Int))]) (fun i w' => i ≤ xs.length ∧ Ctx w0 [] w' [] ∧ ∀ (k : Nat) (x y : Du), k < i → xs[k]? = some x → ys[k]? = some y → x = y) (fun i => xs.length - i) 0 rfl ?_ ?_ ?_
    · exact ⟨rfl, trivial⟩
    · exact ⟨Nat.zero_le _, H, fun k x y h => absurd h (Nat.not_lt_zero _)⟩
    · clear H
      rintro i j w ⟨hi, H, hb⟩
      refine W_seq ?_
      refine W_rseq ?_
      refine op_move rfl (.int _ _) rfl ?_
      refine op_move rfl (.slice _ _ _) rfl ?_
      refine op_len rfl el_23_SnO rfl ?_
      refine op_lss rfl rfl rfl ?_
      refine op_nil (at_then ?_)
      refine W_cond _ rfl ?_ ?_
      · intro h2
        replace h2 := dec_t h2
        obtain ⟨x, hx⟩ := get_some (l := xs) (i := i) (by omega)
        obtain ⟨y, hy⟩ := get_some (l := ys) (i := i) (by omega)
        refine W_skip (at_then ?_)
        refine W_seq ?_
        refine W_block ?_
        refine W_qseq (fun x => x = _) mixed_SnO (by kernel_rfl) rfl ?_
        refine q_move rfl (.slice _ _ _) rfl ?_
        refine q_move rfl (.int _ _) rfl ?_
        first | refine q_indexRd R rfl el_23_SnO sz_62_SnO rfl rfl (by omega) (by omega) (by first | rfl | omega) ?_ | refine q_indexRd Ry rfl el_23_SnO sz_62_SnO rfl rfl (by omega) (by omega) (by first | rfl | omega) ?_ | refine q_indexAddr rfl el_23_SnO sz_62_SnO rfl rfl (by omega) (by omega) ?_
        first | refine q_ldN _ rfl ag_62_SnO sz_62_SnO rfl rfl (by rintro _ rfl; exact ((R.ext0 H.drew.ext).row hx rfl)) ?_ | refine q_ldN _ rfl ag_62_SnO sz_62_SnO rfl rfl (by rintro _ rfl; exact ((Ry.ext0 H.drew.ext).row hy rfl)) ?_ | refine q_ldbN rfl ag_62_SnO sz_62_SnO rfl (by rintro _ rfl; exact H.drew) (by first | exact at0 | exact at1 | exact at2 | exact at3 | exact at4 | exact at5 | exact at6 | exact at7 | exact at8 | exact at9) rfl ?_
        refine q_move rfl (.slice _ _ _) rfl ?_
        refine q_move rfl (.int _ _) rfl ?_
        first | refine q_indexRd R rfl el_23_SnO sz_62_SnO rfl rfl (by omega) (by omega) (by first | rfl | omega) ?_ | refine q_indexRd Ry rfl el_23_SnO sz_62_SnO rfl rfl (by omega) (by omega) (by first | rfl | omega) ?_ | refine q_indexAddr rfl el_23_SnO sz_62_SnO rfl rfl (by omega) (by omega) ?_
        first | refine q_ldN _ rfl ag_62_SnO sz_62_SnO rfl rfl (by rintro _ rfl; exact ((R.ext0 H.drew.ext).row hx rfl)) ?_ | refine q_ldN _ rfl ag_62_SnO sz_62_SnO rfl rfl (by rintro _ rfl; exact ((Ry.ext0 H.drew.ext).row hy rfl)) ?_ | refine q_ldbN rfl ag_62_SnO sz_62_SnO rfl (by rintro _ rfl; exact H.drew) (by first | exact at0 | exact at1 | exact at2 | exact at3 | exact at4 | exact at5 | exact at6 | exact at7 | exact at8 | exact at9) rfl ?_
        refine q_neS (ks := [true, true, true, true, true, true, false]) (xs := encD x) (ys := encD y) (decide (x = y)) rfl (by kernel_rfl) rfl rfl ⟨rfl, rfl, rfl, rfl, rfl, rfl, True.intro, True.intro⟩ (encD_inj x y) ?_
        refine q_nil ?_
        rintro _ rfl
        replace H := H.drew
        refine W_cond _ rfl ?_ ?_
        · intro h3
          refine W_rseq ?_
          refine op_assign rfl (.bool _) rfl ?_
          refine op_nil (at_then ?_)
          refine W_ret (ret_block (ret_then (ret_then (ret_block (ret_then (leave1 (v := (.bool _)) rfl rfl rfl ?_))))))
          have hne : ¬ x = y := by simpa using h3
          exact ⟨congrArg Value.bool (decide_eq_false fun h => by subst h; rw [hx] at hy; injection hy with hy; exact hne hy).symm, H.ext⟩
        · intro h3
          refine W_skip (at_block (at_then ?_))
          refine W_region ?_
          refine op_move rfl (.int _ _) rfl ?_
          refine op_add_i64 rfl rfl rfl (by omega) (by omega) ?_
          refine op_assign rfl (.int _ _) rfl ?_
          refine op_nil (at_then ?_)
          have heq : x = y := by simpa using h3
          refine ⟨i + 1, rfl, ⟨rfl, trivial⟩, ⟨by omega, H, fun k x' y' hk hx' hy' => ?_⟩, by omega⟩
          rcases Nat.lt_or_ge k i with h7 | h7
          · exact hb k x' y' h7 hx' hy'
          · obtain rfl : k = i := by omega
            rw [hx] at hx'; rw [hy] at hy'
            cases hx'; cases hy'
            exact heq
      · intro h2
        replace h2 := dec_f h2
        refine W_exit (exit_then (exit_then (exit_here (at_then ?_))))
        refine W_rseq ?_
        refine op_assign rfl (.bool _) rfl ?_
        refine op_nil (at_then ?_)
        refine W_ret (leave1 (v := (.bool _)) rfl rfl rfl ?_)
        obtain rfl : i = xs.length := by omega
        exact ⟨congrArg Value.bool (decide_eq_true (list_eq hle hb)).symm, H.ext⟩
set_option maxRecDepth 20000 in
set_option maxHeartbeats 4000000 in
theorem r17of_ok (a : Option Addr) (n c : Nat) (acs : List Ac) (w : World) (R : Rd w a 2 encA acs) (hn : acs.length = n) (hm : n ≤ 1000000000) :
    Ret Tryz.prog 55 #[.slice a n c] w fun v w' => ∃ p, v = .tuple #[p, .int .i64 (aofC acs)] ∧ (aofC acs ≠ 0 → p = .pointer none) ∧ (aofC acs = 0 → ∃ bd a' c' full, p = ptr bd ∧ w'.heap[bd]? = some (Bl 52 [.slice a' acs.length c']) ∧ OS a' acs.length c' 2 full (acs.flatMap encA) ∧
      (∀ x ∈ ent a' 64 full, w'.heap[x.1]? = some x.2 ∧ w.heap.size ≤ x.1 ∧ x.1 ≠ bd) ∧ w.heap.size ≤ bd) ∧ Ext [] w w' := by
  subst hn
  obtain ⟨w0, rfl⟩ : ∃ w0, w0 = w := ⟨_, rfl⟩
  refine ret_of_W (fn := Tryz.f55) Tryz.func55 rfl [.slice a acs.length c] rfl (by kernel_rfl) ?_
  refine W_rseq ?_
  refine op_assign rfl (.pointer _) rfl ?_
  refine op_assign rfl (.int _ _) rfl ?_
  refine op_nil (at_then ?_)
  refine W_seq ?_
  refine W_rseq ?_
  refine op_move rfl (.slice _ _ _) rfl ?_
  refine op_len rfl el_22_SnO rfl ?_
  refine op_gtr rfl rfl rfl ?_
  refine op_nil (at_then ?_)
  refine W_cond _ rfl ?_ ?_
  · intro h1
    replace h1 := dec_t h1
    refine W_rseq ?_
    refine op_assign rfl (.pointer _) rfl ?_
    refine op_assign rfl (.int _ _) rfl ?_
    refine op_nil (at_then ?_)
    refine W_ret (ret_then (leave2 (v1 := (.pointer _)) (v2 := (.int _ _)) rfl rfl rfl rfl ?_))
    have h1' : aofC acs = 6 := by unfold aofC; rw [if_pos (by omega)]
    exact ⟨_, by rw [h1'], fun _ => rfl, (fun h => by omega), Ext.refl _ _⟩
  · intro h1
    replace h1 := dec_f h1
    have h1' : ¬ 16 < acs.length := by omega
    refine W_skip (at_then ?_)
    refine W_seq ?_
    refine W_rseq ?_
    refine op_assign rfl (.int _ _) rfl ?_
    refine op_nil (at_then ?_)
    refine W_block ?_
    refine W_loop 8589932572 (α := Nat) (fun i => [(4, .int .i64 (i : Int))]) (fun i w' => i ≤ acs.length ∧ w0 = w' ∧ (∀ (k : Nat) (x : Ac), k < i → acs[k]? = some x → acMay x = true)) (fun i => acs.length - i) 0 rfl ?_ ?_ ?_
    · exact ⟨rfl, trivial⟩
    · exact ⟨Nat.zero_le _, rfl, (fun k x h => absurd h (Nat.not_lt_zero _))⟩
    · rintro i j w ⟨hi, rfl, hall⟩
      refine W_seq ?_
      refine W_rseq ?_
      refine op_move rfl (.int _ _) rfl ?_
      refine op_move rfl (.slice _ _ _) rfl ?_
      refine op_len rfl el_22_SnO rfl ?_
      refine op_lss rfl rfl rfl ?_
      refine op_nil (at_then ?_)
      refine W_cond _ rfl ?_ ?_
      · intro h2
        replace h2 := dec_t h2
        obtain ⟨x, hx⟩ := get_some (l := acs) (i := i) (by omega)
        refine W_skip (at_then ?_)
        refine W_seq ?_
        refine W_block ?_
        refine W_rseq (Wops_join (α := Unit) 8589803520 (fun _ => [(32, .bool (!acMay x))]) (fun _ w' => w' = w0) rfl ?_ ?_)
        · refine op_move rfl (.slice _ _ _) rfl ?_
          refine op_move rfl (.int _ _) rfl ?_
          first | refine op_indexRd R rfl el_22_SnO sz_64_SnO rfl rfl (by omega) (by omega) (by first | rfl | omega) ?_ | refine op_indexAddr rfl el_22_SnO sz_64_SnO rfl rfl (by omega) (by omega) ?_
          refine op_fieldAddr rfl fo_64_0_SnO rfl ?_
          first | refine op_ldb rfl ag_2_SnO rfl H (by first | exact at0 | exact at1 | exact at2 | exact at3 | exact at4 | exact at5 | exact at6 | exact at7 | exact at8 | exact at9) rfl ?_ | refine op_ld rfl ag_2_SnO rfl ((R.fld hx rfl (j := 0) rfl)) ?_ | refine op_ld rfl ag_2_SnO rfl ((R.fld hx rfl (j := 1) rfl)) ?_
          refine op_call rfl ca_75_SnO (rmay16_ok x.ba _) rfl ?_
          rintro v w ⟨rfl, rfl⟩
          refine op_not rfl rfl ?_
          refine op_move rfl (.bool _) rfl ?_
          refine Wops_split 24 rfl ?_ ?_
          · intro h1
            replace h1 := nvar_t h1
            refine op_skip rfl ?_
            refine op_skip rfl ?_
            refine op_skip rfl ?_
            refine op_skip rfl ?_
            refine op_skip rfl ?_
            refine op_skip rfl ?_
            refine op_skip rfl ?_
            refine op_pick1 rfl rfl (.bool _) rfl ?_
            refine op_nil ?_
            exact ⟨rfl, (), rfl, ⟨congrArg Value.bool (by unfold acMay; rw [Bool.eq_iff_iff]; simp_all; try omega), trivial⟩, rfl⟩
          · intro h2
            replace h2 := nvar_f h2
            refine op_move rfl (.slice _ _ _) rfl ?_
            refine op_move rfl (.int _ _) rfl ?_
            first | refine op_indexRd R rfl el_22_SnO sz_64_SnO rfl rfl (by omega) (by omega) (by first | rfl | omega) ?_ | refine op_indexAddr rfl el_22_SnO sz_64_SnO rfl rfl (by omega) (by omega) ?_
            refine op_fieldAddr rfl fo_64_1_SnO rfl ?_
            first | refine op_ldb rfl ag_2_SnO rfl H (by first | exact at0 | exact at1 | exact at2 | exact at3 | exact at4 | exact at5 | exact at6 | exact at7 | exact at8 | exact at9) rfl ?_ | refine op_ld rfl ag_2_SnO rfl ((R.fld hx rfl (j := 0) rfl)) ?_ | refine op_ld rfl ag_2_SnO rfl ((R.fld hx rfl (j := 1) rfl)) ?_
            refine op_call rfl ca_75_SnO (rmay16_ok x.re _) rfl ?_
            rintro v w ⟨rfl, rfl⟩
            refine op_not rfl rfl ?_
            refine op_pick0 rfl rfl (.bool _) rfl ?_
            refine op_nil ?_
            exact ⟨rfl, (), rfl, ⟨congrArg Value.bool (by unfold acMay; rw [Bool.eq_iff_iff]; simp_all; try omega), trivial⟩, rfl⟩
        rintro - j32 w hw
        subst w
        refine W_cond _ rfl ?_ ?_
        · intro h3
          replace h3 := nvar_t h3
          refine W_rseq ?_
          refine op_assign rfl (.pointer _) rfl ?_
          refine op_assign rfl (.int _ _) rfl ?_
          refine op_nil (at_then ?_)
          refine W_ret (ret_block (ret_then (ret_then (ret_block (ret_then (leave2 (v1 := (.pointer _)) (v2 := (.int _ _)) rfl rfl rfl rfl ?_))))))
          have h3' : aofC acs = 1 := by unfold aofC; rw [if_neg h1', if_pos (all_false hx (by simpa using h3))]
          exact ⟨_, by rw [h3'], fun _ => rfl, (fun h => by omega), Ext.refl _ _⟩
        · intro h3
          replace h3 := nvar_f h3
          refine W_skip (at_block (at_then ?_))
          refine W_region ?_
          refine op_move rfl (.int _ _) rfl ?_
          refine op_add_i64 rfl rfl rfl (by omega) (by omega) ?_
          refine op_assign rfl (.int _ _) rfl ?_
          refine op_nil (at_then ?_)
          refine ⟨i + 1, rfl, ⟨rfl, trivial⟩, ⟨by omega, rfl, (fun k y hk hy => ?_)⟩, by omega⟩
          rcases Nat.lt_or_ge k i with h7 | h7
          · exact hall k y h7 hy
          · obtain rfl : k = i := by omega
            rw [hx] at hy
            cases hy
            simpa using h3
      · intro h2
        replace h2 := dec_f h2
        obtain rfl : i = acs.length := by omega
        have hal : acs.all acMay = true := all_true fun k x hk hx => hall k x hk hx
        have H := Ctx.start w0 []
        obtain ⟨tt, htt⟩ : ∃ tt, tt = totM (acs.map Ac.ba) := ⟨_, rfl⟩
        have hC : aofC acs = tt.2 := by unfold aofC; rw [if_neg h1', if_neg (by rw [hal]; decide), htt]
        rw [hC]
        refine W_exit (exit_then (exit_then (exit_here (at_then ?_))))
        refine W_rseq ?_
        refine op_move rfl (.slice _ _ _) rfl ?_
        refine op_call rfl ca_114_SnO (r17bal_ok a acs.length c acs _ R rfl (by omega)) rfl ?_
        rintro v w F4
        obtain ⟨a4, n4, c4, f4, rfl, O4, hb4⟩ := F4.ex
        replace H := H.call F4.ext
        have hl4 := O4.llen
        rw [List.length_map, List.length_map] at hl4
        refine op_call rfl ca_77_SnO (r16sum_ok a4 n4 c4 (acs.map Ac.ba) _ (O4.rd1 fun x hx => (hb4 x hx).1) (by rw [List.length_map]; omega) (by omega)) rfl ?_
        rintro v w ⟨rfl, rfl⟩
        rw [← htt]
        refine op_move rfl (.tuple _) rfl ?_
        refine op_extract rfl rfl rfl ?_
        refine op_extract rfl rfl rfl ?_
        refine op_assign rfl (.int _ _) rfl ?_
        refine op_assign rfl (.int _ _) rfl ?_
        refine op_nil (at_then ?_)
        refine W_seq ?_
        refine W_rseq ?_
        refine op_move rfl (.int _ _) rfl ?_
        refine op_neq rfl rfl rfl ?_
        refine op_nil (at_then ?_)
        refine W_cond _ rfl ?_ ?_
        · intro h5
          replace h5 := ndec_t h5
          refine W_rseq ?_
          refine op_move rfl (.int _ _) rfl ?_
          refine op_assign rfl (.pointer _) rfl ?_
          refine op_assign rfl (.int _ _) rfl ?_
          refine op_nil (at_then ?_)
          refine W_ret (ret_then (leave2 (v1 := (.pointer _)) (v2 := (.int _ _)) rfl rfl rfl rfl ?_))
          exact ⟨_, rfl, fun _ => rfl, (fun h => absurd h h5), H.ext⟩
        · intro h5
          replace h5 := ndec_f h5
          refine W_skip (at_then ?_)
          refine W_rseq ?_
          refine op_buildS [.slice none 0 0] rfl pl_52_SnO zc_52_SnO (by kernel_rfl) ?_
          refine op_box rfl [.slice none 0 0] (.agg _) rfl rfl H ?_
          rintro b43 w - H
          refine op_assign rfl (.pointer _) rfl ?_
          refine op_nil (at_then ?_)
          refine W_rseq ?_
          refine op_move rfl (.pointer _) rfl ?_
          refine op_move rfl (.pointer _) rfl ?_
          refine op_nilCheck rfl rfl ?_
          refine op_fieldAddr rfl fo_52_0_SnO rfl ?_
          first | refine op_ldb rfl ag_22_SnO rfl H (by first | exact at0 | exact at1 | exact at2 | exact at3 | exact at4 | exact at5 | exact at6 | exact at7 | exact at8 | exact at9) rfl ?_ | refine op_ld rfl ag_22_SnO rfl ((R.fld hx rfl (j := 0) rfl)) ?_ | refine op_ld rfl ag_22_SnO rfl ((R.fld hx rfl (j := 1) rfl)) ?_
          refine op_move rfl (.slice _ _ _) rfl ?_
          refine op_append (L := [_]) (a := none) (n := 0) (c := 0) (full := []) (l := []) rfl el_22_SnO el_22_SnO sz_64_SnO by_64_SnO zc_64_SnO rfl (by decide) (acs.flatMap encA) rfl rfl H OS.nil (encA_len acs) (encA_ones acs) ((R.ext0 H.ext).app (fun _ _ => rfl) (by omega)) (by omega) ?_
          rintro a7 c7 full7 w H O
          rw [show 0 + acs.length = acs.length from Nat.zero_add _]
          refine op_nilCheck rfl rfl ?_
          refine op_fieldAddr rfl fo_52_0_SnO rfl ?_
          refine op_stb (.slice _ _ _) rfl sz_22_SnO rfl rfl rfl H (by first | exact at0 | exact at1 | exact at2 | exact at3 | exact at4 | exact at5 | exact at6 | exact at7 | exact at8 | exact at9) (by first | decide | (simp; done) | (simp; omega)) ?_
          rintro w H
          refine op_nil (at_then ?_)
          refine W_rseq ?_
          refine op_move rfl (.pointer _) rfl ?_
          refine op_assign rfl (.pointer _) rfl ?_
          refine op_assign rfl (.int _ _) rfl ?_
          refine op_nil (at_then ?_)
          refine W_ret (leave2 (v1 := (.pointer _)) (v2 := (.int _ _)) rfl rfl rfl rfl ?_)
          have h5' : tt.2 = 0 := by omega
          rw [List.nil_append, Nat.zero_add] at O
          refine ⟨_, by rw [h5'], (fun h => absurd h5' h), (fun _ => ⟨b43, a7, c7, full7, rfl, H.get at0, O, fun x hx => ?_, ?_⟩), H.ext⟩
          · have hm := List.mem_cons_of_mem (b43, Bl 52 [.slice a7 acs.length c7]) hx
            refine ⟨H.blk x hm, (H.own x hm).elim (fun h => by cases h) id, fun h => ?_⟩
            exact (List.pairwise_cons.1 H.nd).1 x hx h.symm
          · exact (H.own (b43, _) (List.mem_cons_self ..)).elim (fun h => by cases h) id
end Go.Proofs.YtapphbmlkdhnmaaGreat

/- The dues of the reference: Of. -/
namespace Go.Proofs.YtapphbmlkdhnmaaGreat
open Go.GV
theorem ag_2_SnP : aggB Tryz.prog 2 = some false := by kernel_rfl
theorem ag_3_SnP : aggB Tryz.prog 3 = some false := by kernel_rfl
theorem by_2_SnP : tbytes Tryz.prog 2 = some 8 := by kernel_rfl
theorem ca_75_SnP : callable Tryz.prog 75 = true := by kernel_rfl
theorem el_23_SnP : elemT Tryz.prog 23 = some 62 := by kernel_rfl
theorem el_29_SnP : elemT Tryz.prog 29 = some 2 := by kernel_rfl
theorem fo_62_1_SnP : fieldO Tryz.prog 62 1 = some 1 := by kernel_rfl
theorem fo_62_2_SnP : fieldO Tryz.prog 62 2 = some 2 := by kernel_rfl
theorem fo_62_3_SnP : fieldO Tryz.prog 62 3 = some 3 := by kernel_rfl
theorem fo_62_4_SnP : fieldO Tryz.prog 62 4 = some 4 := by kernel_rfl
theorem fo_62_5_SnP : fieldO Tryz.prog 62 5 = some 5 := by kernel_rfl
theorem sz_2_SnP : tsize Tryz.prog 2 = some 1 := by kernel_rfl
theorem sz_62_SnP : tsize Tryz.prog 62 = some 7 := by kernel_rfl
theorem zc_2_SnP : zcells Tryz.prog 2 = some ([.int .i64 0]) := by kernel_rfl
attribute [local irreducible] Wops W Wq Wt

set_option maxRecDepth 20000 in
set_option maxHeartbeats 4000000 in
theorem r18may_ok (d : Du) (w : World) : Ret Tryz.prog 76 #[dueV d] w fun v w' => v = .bool (mayD d) ∧ Ext [] w w' := by
  obtain ⟨w0, rfl⟩ : ∃ w0, w0 = w := ⟨_, rfl⟩
  have H := Ctx.start w0 []
  refine ret_of_W (fn := Tryz.f76) Tryz.func76 rfl [dueV d] rfl (by kernel_rfl) ?_
  refine W_rseq ?_
  refine op_box rfl (encD d) (.agg _) rfl rfl H ?_
  rintro b1 w - H
  refine op_assign rfl (.bool _) rfl ?_
  refine op_nil (at_then ?_)
  refine W_rseq (Wops_join (α := Unit) 536870904 (fun _ => [(3, .bool (bankB d.fr && (bankB d.to && !decide (d.fr = d.to))))]) (fun _ w' => Ctx w0 [] w' [(b1, Bl 62 (encD d))]) rfl ?_ ?_)
  · refine op_fieldAddr rfl fo_62_1_SnP rfl ?_
    refine op_ldb rfl ag_3_SnP rfl H (by first | exact at0 | exact at1 | exact at2 | exact at3 | exact at4 | exact at5 | exact at6 | exact at7 | exact at8 | exact at9) rfl ?_
    refine op_geq rfl rfl rfl ?_
    refine op_move rfl (.bool _) rfl ?_
    refine Wops_split 7 rfl ?_ ?_
    · intro h1
      replace h1 := dec_t h1
      refine op_fieldAddr rfl fo_62_1_SnP rfl ?_
      refine op_ldb rfl ag_3_SnP rfl H (by first | exact at0 | exact at1 | exact at2 | exact at3 | exact at4 | exact at5 | exact at6 | exact at7 | exact at8 | exact at9) rfl ?_
      refine op_lss rfl rfl rfl ?_
      refine op_pick1 rfl rfl (.bool _) rfl ?_
      refine op_move rfl (.bool _) rfl ?_
      refine Wops_split 12 rfl ?_ ?_
      · intro h2
        replace h2 := dec_t h2
        refine op_fieldAddr rfl fo_62_2_SnP rfl ?_
        refine op_ldb rfl ag_3_SnP rfl H (by first | exact at0 | exact at1 | exact at2 | exact at3 | exact at4 | exact at5 | exact at6 | exact at7 | exact at8 | exact at9) rfl ?_
        refine op_geq rfl rfl rfl ?_
        refine op_pick1 rfl rfl (.bool _) rfl ?_
        refine op_move rfl (.bool _) rfl ?_
        refine Wops_split 17 rfl ?_ ?_
        · intro h3
          replace h3 := dec_t h3
          refine op_fieldAddr rfl fo_62_2_SnP rfl ?_
          refine op_ldb rfl ag_3_SnP rfl H (by first | exact at0 | exact at1 | exact at2 | exact at3 | exact at4 | exact at5 | exact at6 | exact at7 | exact at8 | exact at9) rfl ?_
          refine op_lss rfl rfl rfl ?_
          refine op_pick1 rfl rfl (.bool _) rfl ?_
          refine op_move rfl (.bool _) rfl ?_
          refine Wops_split 22 rfl ?_ ?_
          · intro h4
            replace h4 := dec_t h4
            refine op_fieldAddr rfl fo_62_1_SnP rfl ?_
            refine op_ldb rfl ag_3_SnP rfl H (by first | exact at0 | exact at1 | exact at2 | exact at3 | exact at4 | exact at5 | exact at6 | exact at7 | exact at8 | exact at9) rfl ?_
            refine op_fieldAddr rfl fo_62_2_SnP rfl ?_
            refine op_ldb rfl ag_3_SnP rfl H (by first | exact at0 | exact at1 | exact at2 | exact at3 | exact at4 | exact at5 | exact at6 | exact at7 | exact at8 | exact at9) rfl ?_
            refine op_neq rfl rfl rfl ?_
            refine op_pick1 rfl rfl (.bool _) rfl ?_
            refine op_assign rfl (.bool _) rfl ?_
            refine op_nil ?_
            exact ⟨rfl, (), rfl, ⟨congrArg Value.bool (by unfold bankB; rw [Bool.eq_iff_iff]; simp_all; try omega), trivial⟩, H⟩
          · intro h5
            replace h5 := dec_f h5
            refine op_skip rfl ?_
            refine op_skip rfl ?_
            refine op_skip rfl ?_
            refine op_skip rfl ?_
            refine op_skip rfl ?_
            refine op_pick0 rfl rfl (.bool _) rfl ?_
            refine op_assign rfl (.bool _) rfl ?_
            refine op_nil ?_
            exact ⟨rfl, (), rfl, ⟨congrArg Value.bool (by unfold bankB; rw [Bool.eq_iff_iff]; simp_all; try omega), trivial⟩, H⟩
        · intro h6
          replace h6 := dec_f h6
          refine op_skip rfl ?_
          refine op_skip rfl ?_
          refine op_skip rfl ?_
          refine op_pick0 rfl rfl (.bool _) rfl ?_
          refine op_move rfl (.bool _) rfl ?_
          refine op_skip rfl ?_
          refine op_skip rfl ?_
          refine op_skip rfl ?_
          refine op_skip rfl ?_
          refine op_skip rfl ?_
          refine op_pick0 rfl rfl (.bool _) rfl ?_
          refine op_assign rfl (.bool _) rfl ?_
          refine op_nil ?_
          exact ⟨rfl, (), rfl, ⟨congrArg Value.bool (by unfold bankB; rw [Bool.eq_iff_iff]; simp_all; try omega), trivial⟩, H⟩
      · intro h7
        replace h7 := dec_f h7
        refine op_skip rfl ?_
        refine op_skip rfl ?_
        refine op_skip rfl ?_
        refine op_pick0 rfl rfl (.bool _) rfl ?_
        refine op_move rfl (.bool _) rfl ?_
        refine op_skip rfl ?_
        refine op_skip rfl ?_
        refine op_skip rfl ?_
        refine op_pick0 rfl rfl (.bool _) rfl ?_
        refine op_move rfl (.bool _) rfl ?_
        refine op_skip rfl ?_
        refine op_skip rfl ?_
        refine op_skip rfl ?_
        refine op_skip rfl ?_
        refine op_skip rfl ?_
        refine op_pick0 rfl rfl (.bool _) rfl ?_
        refine op_assign rfl (.bool _) rfl ?_
        refine op_nil ?_
        exact ⟨rfl, (), rfl, ⟨congrArg Value.bool (by unfold bankB; rw [Bool.eq_iff_iff]; simp_all; try omega), trivial⟩, H⟩
    · intro h8
      replace h8 := dec_f h8
      refine op_skip rfl ?_
      refine op_skip rfl ?_
      refine op_skip rfl ?_
      refine op_pick0 rfl rfl (.bool _) rfl ?_
      refine op_move rfl (.bool _) rfl ?_
      refine op_skip rfl ?_
      refine op_skip rfl ?_
      refine op_skip rfl ?_
      refine op_pick0 rfl rfl (.bool _) rfl ?_
      refine op_move rfl (.bool _) rfl ?_
      refine op_skip rfl ?_
      refine op_skip rfl ?_
      refine op_skip rfl ?_
      refine op_pick0 rfl rfl (.bool _) rfl ?_
      refine op_move rfl (.bool _) rfl ?_
      refine op_skip rfl ?_
      refine op_skip rfl ?_
      refine op_skip rfl ?_
      refine op_skip rfl ?_
      refine op_skip rfl ?_
      refine op_pick0 rfl rfl (.bool _) rfl ?_
      refine op_assign rfl (.bool _) rfl ?_
      refine op_nil ?_
      exact ⟨rfl, (), rfl, ⟨congrArg Value.bool (by unfold bankB; rw [Bool.eq_iff_iff]; simp_all; try omega), trivial⟩, H⟩
  rintro - j3 w H
  refine W_rseq ?_
  refine op_move rfl (.bool _) rfl ?_
  refine op_move rfl (.bool _) rfl ?_
  refine Wops_split 30 rfl ?_ ?_
  · intro h9
    refine op_fieldAddr rfl fo_62_3_SnP rfl ?_
    refine op_ldb rfl ag_2_SnP rfl H (by first | exact at0 | exact at1 | exact at2 | exact at3 | exact at4 | exact at5 | exact at6 | exact at7 | exact at8 | exact at9) rfl ?_
    refine op_geq rfl rfl rfl ?_
    refine op_pick1 rfl rfl (.bool _) rfl ?_
    refine op_move rfl (.bool _) rfl ?_
    refine Wops_split 35 rfl ?_ ?_
    · intro h10
      replace h10 := dec_t h10
      refine op_fieldAddr rfl fo_62_3_SnP rfl ?_
      refine op_ldb rfl ag_2_SnP rfl H (by first | exact at0 | exact at1 | exact at2 | exact at3 | exact at4 | exact at5 | exact at6 | exact at7 | exact at8 | exact at9) rfl ?_
      refine op_call rfl ca_75_SnP (rmay16_ok d.am _) rfl ?_
      rintro v w ⟨rfl, rfl⟩
      refine op_pick1 rfl rfl (.bool _) rfl ?_
      refine op_move rfl (.bool _) rfl ?_
      refine Wops_split 40 rfl ?_ ?_
      · intro h11
        refine op_fieldAddr rfl fo_62_4_SnP rfl ?_
        refine op_ldb rfl ag_2_SnP rfl H (by first | exact at0 | exact at1 | exact at2 | exact at3 | exact at4 | exact at5 | exact at6 | exact at7 | exact at8 | exact at9) rfl ?_
        refine op_geq rfl rfl rfl ?_
        refine op_pick1 rfl rfl (.bool _) rfl ?_
        refine op_move rfl (.bool _) rfl ?_
        refine Wops_split 45 rfl ?_ ?_
        · intro h12
          replace h12 := dec_t h12
          refine op_fieldAddr rfl fo_62_4_SnP rfl ?_
          refine op_ldb rfl ag_2_SnP rfl H (by first | exact at0 | exact at1 | exact at2 | exact at3 | exact at4 | exact at5 | exact at6 | exact at7 | exact at8 | exact at9) rfl ?_
          refine op_leq rfl rfl rfl ?_
          refine op_pick1 rfl rfl (.bool _) rfl ?_
          refine op_move rfl (.bool _) rfl ?_
          refine Wops_split 50 rfl ?_ ?_
          · intro h13
            replace h13 := dec_t h13
            refine op_fieldAddr rfl fo_62_5_SnP rfl ?_
            refine op_ldb rfl ag_2_SnP rfl H (by first | exact at0 | exact at1 | exact at2 | exact at3 | exact at4 | exact at5 | exact at6 | exact at7 | exact at8 | exact at9) rfl ?_
            refine op_geq rfl rfl rfl ?_
            refine op_pick1 rfl rfl (.bool _) rfl ?_
            refine op_assign rfl (.bool _) rfl ?_
            refine op_nil (at_then ?_)
            refine W_ret (leave1 (v := (.bool _)) rfl rfl rfl ?_)
            exact ⟨congrArg Value.bool (by unfold mayD; generalize (bankB d.fr && (bankB d.to && !decide (d.fr = d.to))) = B at *; rw [Bool.eq_iff_iff]; simp_all; try omega), H.ext⟩
          · intro h14
            replace h14 := dec_f h14
            refine op_skip rfl ?_
            refine op_skip rfl ?_
            refine op_skip rfl ?_
            refine op_pick0 rfl rfl (.bool _) rfl ?_
            refine op_assign rfl (.bool _) rfl ?_
            refine op_nil (at_then ?_)
            refine W_ret (leave1 (v := (.bool _)) rfl rfl rfl ?_)
            exact ⟨congrArg Value.bool (by unfold mayD; generalize (bankB d.fr && (bankB d.to && !decide (d.fr = d.to))) = B at *; rw [Bool.eq_iff_iff]; simp_all; try omega), H.ext⟩
        · intro h15
          replace h15 := dec_f h15
          refine op_skip rfl ?_
          refine op_skip rfl ?_
          refine op_skip rfl ?_
          refine op_pick0 rfl rfl (.bool _) rfl ?_
          refine op_move rfl (.bool _) rfl ?_
          refine op_skip rfl ?_
          refine op_skip rfl ?_
          refine op_skip rfl ?_
          refine op_pick0 rfl rfl (.bool _) rfl ?_
          refine op_assign rfl (.bool _) rfl ?_
          refine op_nil (at_then ?_)
          refine W_ret (leave1 (v := (.bool _)) rfl rfl rfl ?_)
          exact ⟨congrArg Value.bool (by unfold mayD; generalize (bankB d.fr && (bankB d.to && !decide (d.fr = d.to))) = B at *; rw [Bool.eq_iff_iff]; simp_all; try omega), H.ext⟩
      · intro h16
        refine op_skip rfl ?_
        refine op_skip rfl ?_
        refine op_skip rfl ?_
        refine op_pick0 rfl rfl (.bool _) rfl ?_
        refine op_move rfl (.bool _) rfl ?_
        refine op_skip rfl ?_
        refine op_skip rfl ?_
        refine op_skip rfl ?_
        refine op_pick0 rfl rfl (.bool _) rfl ?_
        refine op_move rfl (.bool _) rfl ?_
        refine op_skip rfl ?_
        refine op_skip rfl ?_
        refine op_skip rfl ?_
        refine op_pick0 rfl rfl (.bool _) rfl ?_
        refine op_assign rfl (.bool _) rfl ?_
        refine op_nil (at_then ?_)
        refine W_ret (leave1 (v := (.bool _)) rfl rfl rfl ?_)
        exact ⟨congrArg Value.bool (by unfold mayD; generalize (bankB d.fr && (bankB d.to && !decide (d.fr = d.to))) = B at *; rw [Bool.eq_iff_iff]; simp_all; try omega), H.ext⟩
    · intro h17
      replace h17 := dec_f h17
      refine op_skip rfl ?_
      refine op_skip rfl ?_
      refine op_skip rfl ?_
      refine op_pick0 rfl rfl (.bool _) rfl ?_
      refine op_move rfl (.bool _) rfl ?_
      refine op_skip rfl ?_
      refine op_skip rfl ?_
      refine op_skip rfl ?_
      refine op_pick0 rfl rfl (.bool _) rfl ?_
      refine op_move rfl (.bool _) rfl ?_
      refine op_skip rfl ?_
      refine op_skip rfl ?_
      refine op_skip rfl ?_
      refine op_pick0 rfl rfl (.bool _) rfl ?_
      refine op_move rfl (.bool _) rfl ?_
      refine op_skip rfl ?_
      refine op_skip rfl ?_
      refine op_skip rfl ?_
      refine op_pick0 rfl rfl (.bool _) rfl ?_
      refine op_assign rfl (.bool _) rfl ?_
      refine op_nil (at_then ?_)
      refine W_ret (leave1 (v := (.bool _)) rfl rfl rfl ?_)
      exact ⟨congrArg Value.bool (by unfold mayD; generalize (bankB d.fr && (bankB d.to && !decide (d.fr = d.to))) = B at *; rw [Bool.eq_iff_iff]; simp_all; try omega), H.ext⟩
  · intro h18
    refine op_skip rfl ?_
    refine op_skip rfl ?_
    refine op_skip rfl ?_
    refine op_pick0 rfl rfl (.bool _) rfl ?_
    refine op_move rfl (.bool _) rfl ?_
    refine op_skip rfl ?_
    refine op_skip rfl ?_
    refine op_skip rfl ?_
    refine op_pick0 rfl rfl (.bool _) rfl ?_
    refine op_move rfl (.bool _) rfl ?_
    refine op_skip rfl ?_
    refine op_skip rfl ?_
    refine op_skip rfl ?_
    refine op_pick0 rfl rfl (.bool _) rfl ?_
    refine op_move rfl (.bool _) rfl ?_
    refine op_skip rfl ?_
    refine op_skip rfl ?_
    refine op_skip rfl ?_
    refine op_pick0 rfl rfl (.bool _) rfl ?_
    refine op_move rfl (.bool _) rfl ?_
    refine op_skip rfl ?_
    refine op_skip rfl ?_
    refine op_skip rfl ?_
    refine op_pick0 rfl rfl (.bool _) rfl ?_
    refine op_assign rfl (.bool _) rfl ?_
    refine op_nil (at_then ?_)
    refine W_ret (leave1 (v := (.bool _)) rfl rfl rfl ?_)
    exact ⟨congrArg Value.bool (by unfold mayD; generalize (bankB d.fr && (bankB d.to && !decide (d.fr = d.to))) = B at *; rw [Bool.eq_iff_iff]; simp_all; try omega), H.ext⟩
set_option maxRecDepth 20000 in
set_option maxHeartbeats 2000000 in
theorem r18am_ok (a : Option Addr) (n c : Nat) (ds : List Du) (w : World) (R : Rd w a 7 encD ds) (hn : ds.length = n) (hm : n ≤ 1000000) :
    Ret Tryz.prog 115 #[.slice a n c] w fun v w' => Fresh w w' 2 1 v ((ds.map Du.am).map i64v) := by
  subst hn
  obtain ⟨w0, rfl⟩ : ∃ w0, w0 = w := ⟨_, rfl⟩
  have H := Ctx.start w0 []
  refine ret_of_W (fn := Tryz.f115) Tryz.func115 rfl [.slice a ds.length c] rfl (by kernel_rfl) ?_
  refine W_rseq ?_
  refine op_assign rfl (.slice _ _ _) rfl ?_
  refine op_nil (at_then ?_)
  refine W_rseq ?_
  refine op_assign rfl (.slice _ _ _) rfl ?_
  refine op_nil (at_then ?_)
  refine W_seq ?_
  refine W_rseq ?_
  refine op_assign rfl (.int _ _) rfl ?_
  refine op_nil (at_then ?_)
  refine W_block ?_
  refine W_loop 524280 (α := LSt) (fun t => [(3, .slice t.a t.i t.c), (4, .int .i64 (t.i : Int))]) (fun t w' => t.i ≤ ds.length ∧ OS t.a t.i t.c 1 t.full (((ds.take t.i).map Du.am).map i64v) ∧ Ctx w0 [] w' (ent t.a 2 t.full)) (fun t => ds.length - t.i) ⟨0, none, 0, []⟩ rfl ?_ ?_ ?_
  · exact ⟨rfl, rfl, trivial⟩
  · exact ⟨Nat.zero_le _, OS.nil, H⟩
  · rintro ⟨i, a2, c2, full⟩ j w ⟨hi, O, H⟩; dsimp only at hi O H; dsimp only
    refine W_seq ?_
    refine W_rseq ?_
    refine op_move rfl (.int _ _) rfl ?_
    refine op_move rfl (.slice _ _ _) rfl ?_
    refine op_len rfl el_23_SnP rfl ?_
    refine op_lss rfl rfl rfl ?_
    refine op_nil (at_then ?_)
    refine W_cond _ rfl ?_ ?_
    · intro h1
      replace h1 := dec_t h1
      obtain ⟨x, hx⟩ := get_some (l := ds) (i := i) (by omega)
      refine W_skip (at_then ?_)
      refine W_seq ?_
      refine W_block ?_
      refine W_region ?_
      refine op_move rfl (.slice _ _ _) rfl ?_
      refine op_move rfl (.slice _ _ _) rfl ?_
      refine op_move rfl (.int _ _) rfl ?_
      first | refine op_indexRd R rfl el_23_SnP sz_62_SnP rfl rfl (by omega) (by omega) (by first | rfl | omega) ?_ | refine op_indexAddr rfl el_23_SnP sz_62_SnP rfl rfl (by omega) (by omega) ?_
      refine op_fieldAddr rfl fo_62_3_SnP rfl ?_
      first | refine op_ldb rfl ag_2_SnP rfl H (by first | exact at0 | exact at1 | exact at2 | exact at3 | exact at4 | exact at5 | exact at6 | exact at7 | exact at8 | exact at9) rfl ?_ | refine op_ld rfl ag_2_SnP rfl (((R.ext0 H.ext).fld hx rfl (j := 3) rfl)) ?_
      refine op_build1 _ (.int _ _) rfl el_29_SnP sz_2_SnP zc_2_SnP rfl (by decide) (by decide) rfl rfl rfl H ?_
      rintro b17 w - H
      refine op_appendb (L := []) rfl el_29_SnP el_29_SnP sz_2_SnP by_2_SnP zc_2_SnP rfl (by decide) rfl rfl H O rfl (by simp [oneCell]) (by omega) ?_
      rintro a' c' full' w H O
      refine op_assign rfl (.slice _ _ _) rfl ?_
      refine op_nil (at_block (at_then ?_))
      refine W_region ?_
      refine op_move rfl (.int _ _) rfl ?_
      refine op_add_i64 rfl rfl rfl (by omega) (by omega) ?_
      refine op_assign rfl (.int _ _) rfl ?_
      refine op_nil (at_then ?_)
      exact ⟨⟨i + 1, a', c', full'⟩, rfl, ⟨rfl, rfl, trivial⟩, ⟨by dsimp only; omega, by dsimp only; rw [take_map hx, List.map_append]; exact O, H⟩, by dsimp only; omega⟩
    · intro h1
      replace h1 := dec_f h1
      refine W_exit (exit_then (exit_then (exit_here (at_then ?_))))
      refine W_rseq ?_
      refine op_move rfl (.slice _ _ _) rfl ?_
      refine op_assign rfl (.slice _ _ _) rfl ?_
      refine op_nil (at_then ?_)
      refine W_ret (leave1 (v := (.slice _ _ _)) rfl rfl rfl ?_)
      obtain rfl : i = ds.length := by omega
      rw [List.take_length] at O
      exact Ctx.fresh (L := []) H O
end Go.Proofs.YtapphbmlkdhnmaaGreat
