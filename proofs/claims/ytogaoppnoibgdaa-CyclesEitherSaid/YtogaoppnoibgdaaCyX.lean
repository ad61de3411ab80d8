/- CyclesEither: for every input the law answers true, and turns nothing. -/
import Derived.Test.YtogaoppnoibgdaaCyR
import Derived.Test.YtogaoppnoibgdaaCyW
namespace Go.Proofs.Ytogaoppnoibgdaa
open Go.GV Go.ChangeShapes Go.WideShapes

set_option maxRecDepth 100000 in
theorem either_lifted (os : Os) (started : os.Started) (H : Type) (enc : TypeId × Value → H) :
    ReturnsInHanded {} Try.checked os 4 .any (Rows.cyclesEitherSpec.pre6 enc Try.prog Try.f4 Rows.cyclesEitherRow.domain false) (Rows.cyclesEitherSpec.post enc Try.prog Try.f4 false true false false) := by
  refine returnsInHanded_of_change (C := Try.checked) own started (by kernel_rfl) Try.func4
    (ChangeSpec.witness6 (enc := enc) (C := Try.checked) false ⟨#[], #[.slice none 0 0], []⟩ 8 (by kernel_rfl) (by kernel_rfl) (by kernel_rfl) (by kernel_rfl)) ?_
  intro W base args ds gs before hval0 hW hcnd _
  have hval : ∀ (j : Nat) t v, Try.f4.params[j]? = some t → args[j]? = some v → Value.okWide Try.prog W .any base t v := hval0
  have hW' := hW
  obtain ⟨p, q, hA0, hV, rfl, hfz, hnd⟩ := hW
  have hA : DataW.TrodAll enc Try.prog W 0 (fun _ => true) true Try.f4.params.toList args.toList ds p := hA0
  rw [Try.params4] at hA hval
  obtain ⟨v0, d0, rfl, rfl, h0⟩ := trodAll_one hA
  obtain ⟨a, c, l, rfl, R, _, hc, _⟩ := rd_of_T Try.underlying22 dueCells (by decide) dec_due (okWide_slice Try.underlying22 (hval 0 _ v0 rfl rfl)) h0
  refine (either_ok a c l W R (by unfold maxLen at hc; omega)).calls.mono ?_
  rintro e W' ⟨v, rfl, rfl, hx⟩
  exact ⟨_, rfl, law_post laidOut rfl (by kernel_rfl) rfl Try.underlying4 (fun ds h => match ds, h with | [_], _ => rfl) hW' hx⟩

theorem either_holds : Rows.CyclesEitherSaid :=
  OpenClaim.holds_of_wide 4 Try.f4 rfl rfl rfl rfl rfl rfl rfl ⟨rfl, rfl, rfl, rfl, rfl⟩ rfl rfl rfl rfl rfl (by kernel_rfl) Try.func4 (by kernel_rfl)
    (of_decide_eq_true (by kernel_rfl)) (by unfold Func.isWrapper; rw [if_neg (of_decide_eq_false (by kernel_rfl))]; exact ⟨rfl, rfl⟩)
    (fun os started H enc _ => either_lifted os started H enc)
#print axioms either_holds

end Go.Proofs.Ytogaoppnoibgdaa
