/- What cycles.Find does. -/
import Derived.Test.YtogaoppnoibgdaaCyH
namespace Go.Proofs.Ytogaoppnoibgdaa
open Go.GV
attribute [local irreducible] Wops W Wq

def FindPost (l : List Due) (w : World) (v : Value) (w' : World) : Prop :=
  (allD l = true ∧ ∃ s, ∃ r : List Int, ringB l r = true ∧ v = .tuple #[s, .bool true] ∧ Fresh w w' 3 1 s (r.map iv)) ∨
  (v = .tuple #[.slice none 0 0, .bool false] ∧ Ext [] w w' ∧ (allD l = true → ∃ D, Topo l D ∧ ∀ q, q < 16 → q ∈ D))

theorem all_facts {l : List Due} (h : allD l = true) : l.length ≤ 64 ∧ ∀ d ∈ l, 0 ≤ d.fr ∧ d.fr < 16 ∧ 0 ≤ d.to ∧ d.to < 16 ∧ d.fr ≠ d.to := by
  simp only [allD, Bool.and_eq_true, decide_eq_true_eq, List.all_eq_true] at h
  refine ⟨h.1, fun d hd => ?_⟩
  have hf := h.2 d hd
  simp only [Due.fine, bankB, Bool.and_eq_true, Bool.not_eq_true', decide_eq_false_iff_not, decide_eq_true_eq] at hf
  exact ⟨hf.2.1.1, hf.2.1.2, hf.2.2.1.1, hf.2.2.1.2, hf.1⟩

set_option maxHeartbeats 2000000 in
theorem find_ok (a : Option Addr) (c : Nat) (l : List Due) (w : World) (R : Rd w a 7 Due.enc l) (hm : l.length ≤ 9223372036854775807) :
    Ret Try.prog 15 #[.slice a l.length c] w fun v w' => FindPost l w v w' := by
  obtain ⟨w0, rfl⟩ : ∃ w0, w0 = w := ⟨_, rfl⟩
  have H := Ctx.start w0 []
  refine ret_of_W (fn := Try.f15) Try.func15 rfl [.slice a l.length c] rfl (by kernel_rfl) ?_
  refine W_rseq ?_
  refine op_box rfl _ (.slice _ _ _) rfl rfl H ?_
  rintro b1 w - H
  refine op_assign rfl (.slice _ _ _) rfl ?_
  refine op_assign rfl (.bool _) rfl ?_
  refine op_nil (at_then ?_)
  refine W_seq ?_
  refine W_rseq ?_
  refine op_ldb rfl ag_22 rfl H (by first | exact at0 | exact at1 | exact at2 | exact at3 | exact at4 | exact at5 | exact at6 | exact at7 | exact at8 | exact at9) rfl ?_
  refine op_call rfl ca_20 (all_ok a c l _ (R.ext0 H.ext) hm) rfl ?_
  rintro v w ⟨rfl, hx⟩; replace H := H.call hx
  refine op_not rfl rfl ?_
  refine op_nil (at_then ?_)
  refine W_cond _ rfl ?_ ?_
  · intro h1
    replace h1 := nvar_t h1
    refine W_rseq ?_
    refine op_assign rfl (.slice _ _ _) rfl ?_
    refine op_assign rfl (.bool _) rfl ?_
    refine op_nil (at_then ?_)
    refine W_ret (ret_then (leave2 (v1 := (.slice _ _ _)) (v2 := (.bool _)) rfl rfl rfl rfl ?_))
    exact .inr ⟨rfl, H.ext, fun h => by rw [h1] at h; cases h⟩
  · intro h1
    replace h1 := nvar_f h1
    obtain ⟨h64, F⟩ := all_facts h1
    refine W_skip (at_then ?_)
    refine W_rseq ?_
    refine op_alloc rfl zc_47 H ?_
    rintro b4 w - H
    refine op_nil (at_then ?_)
    refine W_rseq ?_
    refine op_alloc rfl zc_23 H ?_
    rintro b5 w - H
    refine op_nil (at_then ?_)
    refine W_rseq ?_
    refine op_alloc rfl zc_48 H ?_
    rintro b6 w - H
    refine op_nil (at_then ?_)
    refine W_rseq ?_
    refine op_makeFuncL rfl [.pointer _, .pointer _, .pointer _, .pointer _] rfl ?_
    refine op_stb (.func _ _ _) rfl sz_48 rfl rfl rfl H (by first | exact at0 | exact at1 | exact at2 | exact at3 | exact at4 | exact at5 | exact at6 | exact at7 | exact at8 | exact at9) (by first | decide | (simp; done) | (simp; omega)) ?_
    rintro w H
    refine op_nil (at_then ?_)
    refine W_seq ?_
    refine W_rseq ?_
    refine op_move rfl (.int _ _) rfl ?_
    refine op_nil (at_then ?_)
    refine W_block ?_
    replace H : Ctx w0 [] w (FB a c l b1 b4 b5 b6 [] none 0 [] []) := H.perm (List.reverse_perm _).symm
    refine W_loop 8380812 (α := Nat × List Nat × Option Addr × Nat × List Value) (fun x => [(13, .int .i64 x.1)]) (fun x w' => x.1 ≤ 16 ∧ Ctx w0 [] w' (FB a c l b1 b4 b5 b6 x.2.1 x.2.2.1 x.2.2.2.1 [] x.2.2.2.2) ∧ OS x.2.2.1 0 x.2.2.2.1 1 x.2.2.2.2 [] ∧ Topo l x.2.1 ∧ ∀ q, q < x.1 → q ∈ x.2.1) (fun x => 16 - x.1) (0, [], none, 0, []) rfl ?_ ?_ ?_
    · exact ⟨rfl, trivial⟩
    · exact ⟨Nat.zero_le _, H, OS.nil, trivial, fun q h => absurd h (Nat.not_lt_zero _)⟩
    · rintro ⟨k, D, aw, cw, full⟩ j w ⟨hk, H, O, hT, hall⟩
      dsimp only at hk H O hT hall
      dsimp only
      refine W_rseq ?_
      refine op_lss rfl rfl rfl ?_
      refine op_nil (at_then ?_)
      refine W_seq ?_
      refine W_cond _ rfl ?_ ?_
      · intro h2
        replace h2 := dec_t h2
        have hcl := from_ok a c l b1 b4 b5 b6 h64 F 16 w D [] [] aw cw full k rfl (fun w' hx => R.ext0 (H.ext.then hx (fun y hy => by
          obtain ⟨z, hz, rfl⟩ := List.mem_map.1 hy
          exact H.own z hz))) (Ctx.lend (L2 := []) H.app_nil) O ⟨rfl, fun i d h => by simp at h⟩ (Path.nil _) (by omega) hT
        refine W_skip (at_then ?_)
        refine W_seq ?_
        refine W_block ?_
        refine W_rseq ?_
        refine op_move rfl (.int _ _) rfl ?_
        refine op_assign rfl (.int _ _) rfl ?_
        refine op_nil (at_then ?_)
        refine W_rseq ?_
        refine op_ldb rfl ag_48 rfl H (by first | exact at0 | exact at1 | exact at2 | exact at3 | exact at4 | exact at5 | exact at6 | exact at7 | exact at8 | exact at9) rfl ?_
        refine op_move rfl (.int _ _) rfl ?_
        refine op_calld rfl rfl ca_24 hcl rfl ?_
        rintro v w ⟨D2, way2, a2, c2, full2, av, nv, cv, fv, rfl, P⟩
        have H2 := (Ctx.back (L2 := []) H.app_nil P.ctx).nil_app
        refine op_assign rfl (.slice _ _ _) rfl ?_
        refine op_nil (at_then ?_)
        refine W_rseq ?_
        refine op_move rfl (.slice _ _ _) rfl ?_
        refine op_neqnil rfl el_23 rfl ?_
        refine op_nil (at_then ?_)
        refine W_cond _ rfl ?_ ?_
        · intro h5
          refine W_rseq ?_
          refine op_move rfl (.slice _ _ _) rfl ?_
          refine op_assign rfl (.slice _ _ _) rfl ?_
          refine op_assign rfl (.bool _) rfl ?_
          refine op_nil (at_then ?_)
          refine W_ret (ret_block (ret_then (ret_then (ret_block (ret_then (leave2 (v1 := (.slice _ _ _)) (v2 := (.bool _)) rfl rfl rfl rfl ?_))))))
          rcases P.out with ⟨rfl, _⟩ | ⟨_, r, hr, hnr, hOr⟩
          · cases h5
          · exact .inl ⟨h1, _, r, hr, rfl, H2.fresh hOr⟩
        · intro h5
          rcases P.out with ⟨rfl, rfl, rfl, rfl, hbt⟩ | ⟨hso, _⟩
          · rw [show ent none 3 fv = [] from rfl, List.append_nil] at H2
            refine W_skip (at_block (at_then ?_))
            refine W_region ?_
            refine op_add_i64 rfl rfl rfl (by omega) (by omega) ?_
            refine op_move rfl (.int _ _) rfl ?_
            refine op_nil (at_then ?_)
            refine ⟨(k + 1, D2, a2, c2, full2), rfl, ⟨rfl, trivial⟩, ⟨by omega, H2, P.os, P.topo, fun q hq => ?_⟩, by dsimp only; omega⟩
            by_cases hqk : q = k
            · subst hqk; exact hbt
            · exact P.sub q (hall q (by dsimp only at hq; omega))
          · rw [hso] at h5; cases h5
      · intro h2
        replace h2 := dec_f h2
        have hke : k = 16 := by omega
        subst hke
        refine W_exit (exit_then (exit_then (exit_here (at_then ?_))))
        refine W_rseq ?_
        refine op_assign rfl (.slice _ _ _) rfl ?_
        refine op_assign rfl (.bool _) rfl ?_
        refine op_nil (at_then ?_)
        refine W_ret (leave2 (v1 := (.slice _ _ _)) (v2 := (.bool _)) rfl rfl rfl rfl ?_)
        exact .inr ⟨rfl, H.ext, fun _ => ⟨D, hT, hall⟩⟩

end Go.Proofs.Ytogaoppnoibgdaa
