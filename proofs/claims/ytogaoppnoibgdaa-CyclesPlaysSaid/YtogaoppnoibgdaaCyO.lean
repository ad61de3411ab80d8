/- CyclesPlays: for every input the law answers true, and turns nothing. -/
import Derived.Test.YtogaoppnoibgdaaCyR
namespace Go.Proofs.Ytogaoppnoibgdaa
open Go.GV Go.ChangeShapes Go.WideShapes

set_option maxRecDepth 100000 in
theorem plays_lifted (os : Os) (started : os.Started) (H : Type) (enc : TypeId × Value → H) :
    ReturnsInHanded {} Try.checked os 3 .any (Rows.cyclesPlaysSpec.pre6 enc Try.prog Try.f3 Rows.cyclesPlaysRow.domain false) (Rows.cyclesPlaysSpec.post enc Try.prog Try.f3 false true false false) := by
  refine returnsInHanded_of_change (C := Try.checked) own started (by kernel_rfl) Try.func3
    (ChangeSpec.witness6 (enc := enc) (C := Try.checked) false ⟨#[], #[.slice none 0 0, .int .i64 0, .slice none 0 0], []⟩ 8 (by kernel_rfl) (by kernel_rfl) (by kernel_rfl) (by kernel_rfl)) ?_
  intro W base args ds gs before hval0 hW hcnd _
  have hval : ∀ (j : Nat) t v, Try.f3.params[j]? = some t → args[j]? = some v → Value.okWide Try.prog W .any base t v := hval0
  have hW' := hW
  obtain ⟨p, q, hA0, hV, rfl, hfz, hnd⟩ := hW
  have hA : DataW.TrodAll enc Try.prog W 0 (fun _ => true) true Try.f3.params.toList args.toList ds p := hA0
  rw [Try.params3] at hA hval
  obtain ⟨v0, v1, v2, d0, d1, d2, p0, p1, p2, rfl, rfl, rfl, h0, h1, h2⟩ := trodAll_three hA
  obtain ⟨a, c, l, rfl, R, _, hc, _⟩ := rd_of_T Try.underlying22 dueCells (by decide) dec_due (okWide_slice Try.underlying22 (hval 0 _ v0 rfl rfl)) h0
  obtain ⟨banks, rfl, _⟩ := open_int Try.underlying3 (hval 1 _ v1 rfl rfl) h1
  obtain ⟨b, c', way, rfl, R', _, hc', _⟩ := rd_of_T Try.underlying23 intCells (by decide) (dec_int Try.underlying3) (okWide_slice Try.underlying23 (hval 2 _ v2 rfl rfl)) h2
  refine (plays_ok a b c c' l banks way W R R' (by unfold maxLen at hc; omega) (by unfold maxLen at hc'; omega)).calls.mono ?_
  rintro e W' ⟨v, rfl, rfl, hx⟩
  exact ⟨_, rfl, law_post laidOut rfl (by kernel_rfl) rfl Try.underlying4 (fun ds h => match ds, h with | [_, _, _], _ => rfl) hW' hx⟩

theorem plays_holds : Rows.CyclesPlaysSaid :=
  OpenClaim.holds_of_wide 3 Try.f3 rfl rfl rfl rfl rfl rfl rfl ⟨rfl, rfl, rfl, rfl, rfl⟩ rfl rfl rfl rfl rfl (by kernel_rfl) Try.func3 (by kernel_rfl)
    (of_decide_eq_true (by kernel_rfl)) (by unfold Func.isWrapper; rw [if_neg (of_decide_eq_false (by kernel_rfl))]; exact ⟨rfl, rfl⟩)
    (fun os started H enc _ => plays_lifted os started H enc)
#print axioms plays_holds

end Go.Proofs.Ytogaoppnoibgdaa
