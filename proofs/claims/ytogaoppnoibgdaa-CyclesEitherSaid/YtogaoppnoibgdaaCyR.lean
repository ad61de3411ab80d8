/- What the form reads of this seat's arguments. -/
import Derived.Test.YtogaoppnoibgdaaCyN
import Derived.Test.YtogaoppnoibgdaaGVRow
import Derived.Test.YtogaoppnoibgdaaRows
namespace Go.Proofs.Ytogaoppnoibgdaa
open Go.GV Go.ChangeShapes Go.WideShapes

theorem own : ownKnob Try.prog.godebug = none := by kernel_rfl
theorem laidOut : laidOutB Try.prog = true := by kernel_rfl
theorem dueStruct : ∃ fs, Try.prog.underlying 41 = some (.struct fs) ∧ (List.range 7).map (fun i => fs[i]?.map fun f => (f.type, f.offset)) = [some (39, 0), some (3, 1), some (3, 2), some (2, 3), some (2, 4), some (2, 5), some (4, 6)] := ⟨_, Try.underlying41, by kernel_rfl⟩
theorem dueCells : Try.prog.cellsOf 41 = 7 := by kernel_rfl
theorem intCells : Try.prog.cellsOf 3 = 1 := by kernel_rfl

theorem dec_due {H : Type} {enc : TypeId × Value → H} {w : World} {base : Nat} {spare : Nat → Bool} {held : Bool} : ∀ n cs y, DataW.trod enc Try.prog w base spare held n 41 cs = some y → ∃ d : Due, cs = d.enc ∧ True := by
  intro n cs y h
  obtain ⟨fs, ht, hf⟩ := dueStruct
  have hl := trod_slen ht h
  rw [dueCells] at hl
  simp only [List.range, List.range.loop, List.map_cons, List.map_nil, List.cons.injEq, and_true] at hf
  obtain ⟨f0, f1, f2, f3, f4, f5, f6⟩ := hf
  obtain ⟨a, ha, _⟩ := fld_int ht h 0 0 f0 Try.underlying39
  obtain ⟨b, hb, _⟩ := fld_int ht h 1 1 f1 Try.underlying3
  obtain ⟨c, hc, _⟩ := fld_int ht h 2 2 f2 Try.underlying3
  obtain ⟨d, hd, _⟩ := fld_int ht h 3 3 f3 Try.underlying2
  obtain ⟨e, he, _⟩ := fld_int ht h 4 4 f4 Try.underlying2
  obtain ⟨f, hf, _⟩ := fld_int ht h 5 5 f5 Try.underlying2
  obtain ⟨g, hg⟩ := fld_bool ht h 6 6 f6 Try.underlying4
  refine ⟨⟨a, b, c, d, e, f, g⟩, ?_, trivial⟩
  match cs, hl with
  | [_, _, _, _, _, _, _], _ =>
    simp at ha hb hc hd he hf hg
    simp [Due.enc, ha, hb, hc, hd, he, hf, hg]

end Go.Proofs.Ytogaoppnoibgdaa
