/- What the laws' own functions do: amounts that are the same; orders that place. -/
import Derived.Test.YtogaoppnoibgdaaCyI
namespace Go.Proofs.Ytogaoppnoibgdaa
open Go.GV
attribute [local irreducible] Wops W Wq

theorem amounts_ok (a b : Option Addr) (c c' : Nat) (xs ys : List Int) (w : World) (R : Rd w a 1 I64 xs) (R' : Rd w b 1 I64 ys) (hm : xs.length ≤ 9223372036854775807) :
    Ret Try.prog 14 #[.slice a xs.length c, .slice b ys.length c'] w fun v w' => v = .bool (decide (xs = ys)) ∧ Ext [] w w' := by
  obtain ⟨w0, rfl⟩ : ∃ w0, w0 = w := ⟨_, rfl⟩
  have H := Ctx.start w0 []
  refine ret_of_W (fn := Try.f14) Try.func14 rfl [.slice a xs.length c, .slice b ys.length c'] rfl (by kernel_rfl) ?_
  refine W_rseq ?_
  refine op_assign rfl (.bool _) rfl ?_
  refine op_nil (at_then ?_)
  refine W_seq ?_
  refine W_rseq ?_
  refine op_move rfl (.slice _ _ _) rfl ?_
  refine op_len rfl el_29 rfl ?_
  refine op_move rfl (.slice _ _ _) rfl ?_
  refine op_len rfl el_29 rfl ?_
  refine op_neq rfl rfl rfl ?_
  refine op_nil (at_then ?_)
  refine W_cond _ rfl ?_ ?_
  · intro h1
    replace h1 := ndec_t h1
    refine W_rseq ?_
    refine op_assign rfl (.bool _) rfl ?_
    refine op_nil (at_then ?_)
    refine W_ret (ret_then (leave1 (v := (.bool _)) rfl rfl rfl ?_))
    refine ⟨congrArg Value.bool ?_, H.ext⟩
    rw [decide_eq_false]
    rintro rfl
    exact h1 rfl
  · intro h1
    replace h1 := ndec_f h1
    have hl : xs.length = ys.length := by omega
    refine W_skip (at_then ?_)
    refine W_seq ?_
    refine W_rseq ?_
    refine op_assign rfl (.int _ _) rfl ?_
    refine op_nil (at_then ?_)
    refine W_block ?_
    refine W_loop 67106864 (α := Nat) (fun k => [(5, .int .i64 k)]) (fun k w' => k ≤ xs.length ∧ Ctx w0 [] w' [] ∧ xs.take k = ys.take k) (fun k => xs.length - k) 0 rfl ?_ ?_ ?_
    · exact ⟨rfl, trivial⟩
    · exact ⟨Nat.zero_le _, H, rfl⟩
    · rintro k j w ⟨hk, H, hn⟩
      refine W_seq ?_
      refine W_rseq ?_
      refine op_move rfl (.int _ _) rfl ?_
      refine op_move rfl (.slice _ _ _) rfl ?_
      refine op_len rfl el_29 rfl ?_
      refine op_lss rfl rfl rfl ?_
      refine op_nil (at_then ?_)
      refine W_cond _ rfl ?_ ?_
      · intro h2
        replace h2 := dec_t h2
        obtain ⟨x, hx⟩ := get_some (l := xs) (i := k) (by omega)
        obtain ⟨y, hy⟩ := get_some (l := ys) (i := k) (by omega)
        refine W_skip (at_then ?_)
        refine W_seq ?_
        refine W_block ?_
        refine W_qseq (fun x => x = _) mixed (by kernel_rfl) rfl ?_
        refine q_move rfl (.slice _ _ _) rfl ?_
        refine q_move rfl (.int _ _) rfl ?_
        refine q_indexRd R rfl el_29 sz_2 rfl rfl (by omega) (by omega) rfl ?_
        first | refine q_ldb rfl ag_2 rfl (by rintro _ rfl; exact H.drew) (by first | exact at0 | exact at1 | exact at2 | exact at3 | exact at4 | exact at5 | exact at6 | exact at7 | exact at8 | exact at9) rfl ?_ | refine q_ld rfl ag_2 rfl (by rintro _ rfl; exact ((R.ext0 H.ext).one (f := fun x => .int .i64 x) hx)) ?_ | refine q_ld rfl ag_2 rfl (by rintro _ rfl; exact ((R'.ext0 H.ext).one (f := fun x => .int .i64 x) hy)) ?_
        refine q_move rfl (.slice _ _ _) rfl ?_
        refine q_move rfl (.int _ _) rfl ?_
        refine q_indexRd R' rfl el_29 sz_2 rfl rfl (by omega) (by omega) rfl ?_
        first | refine q_ldb rfl ag_2 rfl (by rintro _ rfl; exact H.drew) (by first | exact at0 | exact at1 | exact at2 | exact at3 | exact at4 | exact at5 | exact at6 | exact at7 | exact at8 | exact at9) rfl ?_ | refine q_ld rfl ag_2 rfl (by rintro _ rfl; exact ((R.ext0 H.ext).one (f := fun x => .int .i64 x) hx)) ?_ | refine q_ld rfl ag_2 rfl (by rintro _ rfl; exact ((R'.ext0 H.ext).one (f := fun x => .int .i64 x) hy)) ?_
        refine q_neq rfl rfl rfl ?_
        refine q_nil ?_
        rintro _ rfl
        replace H := H.drew
        refine W_cond _ rfl ?_ ?_
        · intro h3
          replace h3 := ndec_t h3
          refine W_rseq ?_
          refine op_assign rfl (.bool _) rfl ?_
          refine op_nil (at_then ?_)
          refine W_ret (ret_block (ret_then (ret_then (ret_block (ret_then (leave1 (v := (.bool _)) rfl rfl rfl ?_))))))
          refine ⟨congrArg Value.bool ?_, H.ext⟩
          rw [decide_eq_false]
          rintro rfl
          rw [hx] at hy
          injection hy with hy
          exact h3 hy
        · intro h3
          replace h3 := ndec_f h3
          refine W_skip (at_block (at_then ?_))
          refine W_region ?_
          refine op_move rfl (.int _ _) rfl ?_
          refine op_add_i64 rfl rfl rfl (by omega) (by omega) ?_
          refine op_assign rfl (.int _ _) rfl ?_
          refine op_nil (at_then ?_)
          refine ⟨k + 1, rfl, ⟨by simp [put], trivial⟩, ⟨by omega, H, ?_⟩, by omega⟩
          rw [take_snoc hx, take_snoc hy, hn, h3]
      · intro h2
        replace h2 := dec_f h2
        refine W_exit (exit_then (exit_then (exit_here (at_then ?_))))
        refine W_rseq ?_
        refine op_assign rfl (.bool _) rfl ?_
        refine op_nil (at_then ?_)
        refine W_ret (leave1 (v := (.bool _)) rfl rfl rfl ?_)
        rw [List.take_of_length_le (by omega), List.take_of_length_le (by omega)] at hn
        refine ⟨congrArg Value.bool ?_, H.ext⟩
        rw [decide_eq_true hn]


theorem due_ok (i f t x : Int) (w : World) : Ret Try.prog 19 #[.int .u64 i, .int .i64 f, .int .i64 t, .int .i64 x] w fun v w' => v = .agg (Due.mk i f t x 1 0 false).enc.toArray ∧ Ext [] w w' := by
  obtain ⟨w0, rfl⟩ : ∃ w0, w0 = w := ⟨_, rfl⟩
  have H := Ctx.start w0 []
  refine ret_of_W (fn := Try.f19) Try.func19 rfl [.int .u64 i, .int .i64 f, .int .i64 t, .int .i64 x] rfl (by kernel_rfl) ?_
  refine W_rseq ?_
  refine op_alloc rfl zc_41 H ?_
  rintro b8 w - H
  refine op_nil (at_then ?_)
  refine W_rseq ?_
  refine op_move rfl (.int _ _) rfl ?_
  refine op_move rfl (.int _ _) rfl ?_
  refine op_move rfl (.int _ _) rfl ?_
  refine op_move rfl (.int _ _) rfl ?_
  refine op_buildS (Due.mk i f t x 1 0 false).enc rfl pl_41 zc_41 (by kernel_rfl) ?_
  refine op_stb0 rfl sz_41 rfl rfl rfl (by simp [oneCell, Due.enc]) H at0 rfl ?_
  rintro w H
  refine op_nil (at_then ?_)
  refine W_ret (leave1b rfl rfl rfl ag_41 sz_41 H (by first | exact at0 | exact at1 | exact at2 | exact at3 | exact at4 | exact at5 | exact at6 | exact at7 | exact at8 | exact at9) rfl ?_)
  exact ⟨rfl, H.ext⟩

end Go.Proofs.Ytogaoppnoibgdaa
