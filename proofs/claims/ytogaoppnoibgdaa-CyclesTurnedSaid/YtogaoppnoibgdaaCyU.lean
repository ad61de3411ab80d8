/- CyclesTurned: for every input the law answers true, and turns nothing. -/
import Derived.Test.YtogaoppnoibgdaaCyR
import Derived.Test.YtogaoppnoibgdaaCyT
namespace Go.Proofs.Ytogaoppnoibgdaa
open Go.GV Go.ChangeShapes Go.WideShapes

set_option maxRecDepth 100000 in
theorem turned_lifted (os : Os) (started : os.Started) (H : Type) (enc : TypeId × Value → H) :
    ReturnsInHanded {} Try.checked os 5 .any (Rows.cyclesTurnedSpec.pre6 enc Try.prog Try.f5 Rows.cyclesTurnedRow.domain false) (Rows.cyclesTurnedSpec.post enc Try.prog Try.f5 false true false false) := by
  refine returnsInHanded_of_change (C := Try.checked) own started (by kernel_rfl) Try.func5
    (ChangeSpec.witness6 (enc := enc) (C := Try.checked) false ⟨#[], #[.slice none 0 0, .int .u8 0], []⟩ 8 (by kernel_rfl) (by kernel_rfl) (by kernel_rfl) (by kernel_rfl)) ?_
  intro W base args ds gs before hval0 hW hcnd _
  have hval : ∀ (j : Nat) t v, Try.f5.params[j]? = some t → args[j]? = some v → Value.okWide Try.prog W .any base t v := hval0
  have hW' := hW
  obtain ⟨p, q, hA0, hV, rfl, hfz, hnd⟩ := hW
  have hA : DataW.TrodAll enc Try.prog W 0 (fun _ => true) true Try.f5.params.toList args.toList ds p := hA0
  rw [Try.params5] at hA hval
  obtain ⟨v0, v1, d0, d1, p0, p1, rfl, rfl, rfl, h0, h1⟩ := trodAll_two hA
  obtain ⟨a, c, l, rfl, R, _, hc, _⟩ := rd_of_T Try.underlying22 dueCells (by decide) dec_due (okWide_slice Try.underlying22 (hval 0 _ v0 rfl rfl)) h0
  obtain ⟨by', rfl, _, _, wb⟩ := open_int Try.underlying5 (hval 1 _ v1 rfl rfl) h1
  have hb := wf_bounds wb
  simp only [IntKind.min, IntKind.max, IntKind.signed, IntKind.bits] at hb
  refine (turned_ok a c l by' W R (by unfold maxLen at hc; omega) (by simpa using hb.1) (by simpa using hb.2)).calls.mono ?_
  rintro e W' ⟨v, rfl, rfl, hx⟩
  exact ⟨_, rfl, law_post laidOut rfl (by kernel_rfl) rfl Try.underlying4 (fun ds h => match ds, h with | [_, _], _ => rfl) hW' hx⟩

theorem turned_holds : Rows.CyclesTurnedSaid :=
  OpenClaim.holds_of_wide 5 Try.f5 rfl rfl rfl rfl rfl rfl rfl ⟨rfl, rfl, rfl, rfl, rfl⟩ rfl rfl rfl rfl rfl (by kernel_rfl) Try.func5 (by kernel_rfl)
    (of_decide_eq_true (by kernel_rfl)) (by unfold Func.isWrapper; rw [if_neg (of_decide_eq_false (by kernel_rfl))]; exact ⟨rfl, rfl⟩)
    (fun os started H enc _ => turned_lifted os started H enc)
#print axioms turned_holds

end Go.Proofs.Ytogaoppnoibgdaa
