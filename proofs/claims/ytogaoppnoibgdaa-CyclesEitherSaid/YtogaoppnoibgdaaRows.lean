/-
  No cell of these rows narrows 'for every input' (looked for: loops, veiled, ifaces, maps, wideKeys, modest, calm, conditions, laid).
  DERIVED. THE GIVEN ROWS OF THIS SEAT. 3 by the template 'for every input the law returns true; each argument reads behind the call as it read before'; 0 by the template 'total and deterministic' (their statements: YtogaoppnoibgdaaTotals.lean).
  GIVEN WITH THE SEED: the statements are not yours to turn. If you find one false, say at which input.
  Laid BY PROGRAM, IN A SANDBOX (cutbox-rows.mjs): the forced cells as the released guide's own fill.sh prints them over the translation 894210aadd381cfb… (all of the seat's roots in one cut). By AI agents, Wed Nov 11 2026. No macro, syntax, notation, axiom, sorry.
-/
import Derived.Test.YtogaoppnoibgdaaChecked
import GoSem.Claim
import GoSem.ClaimJoined
import GoSem.ClaimMapViews
import Derived.JoinedTies
import Derived.KernelRfl
namespace Go.Proofs.Ytogaoppnoibgdaa
/- THE CELL 'sum', in the pinned program and in every row, IS THE sha256 OF THE DUMP (.gsa) THAT YtogaoppnoibgdaaProg.lean LOADS. Nothing in Lean hashes anything: it is a label: what it is worth is what the hold of that sum in a sandbox is worth. -/
noncomputable def Try.pinned : Pinned := { name := "ytogaoppnoibgdaa", sum := "894210aadd381cfb27efca39232a4e05d7f48eee9c81ffd39de4cdfd3079aadc", checked := Try.checked }
namespace Rows
def none {H : Type} : Left H := { results := [], args := [] }

/-- 'gabletlaw29.CyclesPlays': WHATEVER THE INPUT: true; the input reads as it did. -/
def cyclesPlaysSpec : ChangeSpec := { name := "cyclesPlays", fn := fun _ => fun
  | [d1, d2, d3] => { results := [.lit (.bool true)], args := [d1, d2, d3] }
  | _ => none }
def cyclesPlaysRow : OpenClaim := { program := "ytogaoppnoibgdaa", sum := "894210aadd381cfb27efca39232a4e05d7f48eee9c81ffd39de4cdfd3079aadc", func := "gablet/gabletlaw29.CyclesPlays", spec := "cyclesPlays", unfollowed := true, recurses := true, apart := false }
def CyclesPlaysSaid : Prop := cyclesPlaysRow.holds Try.pinned (OpenSpec.ofChange cyclesPlaysSpec)

/-- ITS FALSE NEIGHBOUR: 'it returns false'. Refute it at one input. -/
def cyclesPlaysWrong : ChangeSpec := { name := "cyclesPlays", fn := fun _ => fun
  | [d1, d2, d3] => { results := [.lit (.bool false)], args := [d1, d2, d3] }
  | _ => none }
def CyclesPlaysWrongFalsely : Prop := cyclesPlaysRow.holds Try.pinned (OpenSpec.ofChange cyclesPlaysWrong)

/-- 'gabletlaw29.CyclesEither': WHATEVER THE INPUT: true; the input reads as it did. -/
def cyclesEitherSpec : ChangeSpec := { name := "cyclesEither", fn := fun _ => fun
  | [d] => { results := [.lit (.bool true)], args := [d] }
  | _ => none }
def cyclesEitherRow : OpenClaim := { program := "ytogaoppnoibgdaa", sum := "894210aadd381cfb27efca39232a4e05d7f48eee9c81ffd39de4cdfd3079aadc", func := "gablet/gabletlaw29.CyclesEither", spec := "cyclesEither", unfollowed := true, recurses := true, apart := false }
def CyclesEitherSaid : Prop := cyclesEitherRow.holds Try.pinned (OpenSpec.ofChange cyclesEitherSpec)

/-- ITS FALSE NEIGHBOUR: 'it returns false'. Refute it at one input. -/
def cyclesEitherWrong : ChangeSpec := { name := "cyclesEither", fn := fun _ => fun
  | [d] => { results := [.lit (.bool false)], args := [d] }
  | _ => none }
def CyclesEitherWrongFalsely : Prop := cyclesEitherRow.holds Try.pinned (OpenSpec.ofChange cyclesEitherWrong)

/-- 'gabletlaw29.CyclesTurned': WHATEVER THE INPUT: true; the input reads as it did. -/
def cyclesTurnedSpec : ChangeSpec := { name := "cyclesTurned", fn := fun _ => fun
  | [d1, d2] => { results := [.lit (.bool true)], args := [d1, d2] }
  | _ => none }
def cyclesTurnedRow : OpenClaim := { program := "ytogaoppnoibgdaa", sum := "894210aadd381cfb27efca39232a4e05d7f48eee9c81ffd39de4cdfd3079aadc", func := "gablet/gabletlaw29.CyclesTurned", spec := "cyclesTurned", unfollowed := true, recurses := true, apart := false }
def CyclesTurnedSaid : Prop := cyclesTurnedRow.holds Try.pinned (OpenSpec.ofChange cyclesTurnedSpec)

/-- ITS FALSE NEIGHBOUR: 'it returns false'. Refute it at one input. -/
def cyclesTurnedWrong : ChangeSpec := { name := "cyclesTurned", fn := fun _ => fun
  | [d1, d2] => { results := [.lit (.bool false)], args := [d1, d2] }
  | _ => none }
def CyclesTurnedWrongFalsely : Prop := cyclesTurnedRow.holds Try.pinned (OpenSpec.ofChange cyclesTurnedWrong)

/- THE SECOND FORM. 'bulk': how many values and letters a reading holds, each counted each time it is reached (what is shared counts as often as it is met; a slice's spare places count too). A statement '..UptoSaid' is the law's where the arguments, and the package variables that the reading takes, are together of bulk at most 1048576: NARROWER than '..Said'. Prove '..Said' where nothing that the law and all that it calls make is longer than what came in: it says more and counts as full. Else prove '..UptoSaid'. A law counts once. -/
mutual
def uptoBulk {H : Type} : DataW H → Nat
  | .lit (.string bytes) => bytes.length + 1
  | .lit _ => 1
  | .nil => 1
  | .ptr d => uptoBulk d + 1
  | .slice elems spare => uptoBulkAll elems + uptoBulkAll spare + 1
  | .agg parts => uptoBulkAll parts + 1
  | .iface _ d => uptoBulk d + 1
  | .map entries => uptoBulkEntries entries + 1
  | .held _ => 1
def uptoBulkAll {H : Type} : List (DataW H) → Nat
  | [] => 0
  | d :: r => uptoBulk d + uptoBulkAll r
def uptoBulkEntries {H : Type} : List (Lit × DataW H) → Nat
  | [] => 0
  | x :: r => uptoBulkEntry x + uptoBulkEntries r
def uptoBulkEntry {H : Type} : Lit × DataW H → Nat
  | (.string bytes, d) => bytes.length + uptoBulk d + 1
  | (_, d) => uptoBulk d + 1
 end
def uptoSmall : (H : Type) → List (DataW H) → Bool := fun _ ds => decide (uptoBulkAll ds ≤ 1048576)
def OpenSpec.upto (s : _root_.Go.ChangeSpec) : _root_.Go.OpenSpec := { _root_.Go.OpenSpec.ofChange s with cond := some uptoSmall }

/-- 'gabletlaw29.CyclesPlays', WHERE WHAT IT READS IS OF BULK AT MOST 1048576: true; the input reads as it did. -/
def cyclesPlaysUptoRow : OpenClaim := { program := "ytogaoppnoibgdaa", sum := "894210aadd381cfb27efca39232a4e05d7f48eee9c81ffd39de4cdfd3079aadc", func := "gablet/gabletlaw29.CyclesPlays", spec := "cyclesPlays", unfollowed := true, recurses := true, apart := false, narrowed := true }
def CyclesPlaysUptoSaid : Prop := cyclesPlaysUptoRow.holds Try.pinned (OpenSpec.upto cyclesPlaysSpec)

/-- 'gabletlaw29.CyclesEither', WHERE WHAT IT READS IS OF BULK AT MOST 1048576: true; the input reads as it did. -/
def cyclesEitherUptoRow : OpenClaim := { program := "ytogaoppnoibgdaa", sum := "894210aadd381cfb27efca39232a4e05d7f48eee9c81ffd39de4cdfd3079aadc", func := "gablet/gabletlaw29.CyclesEither", spec := "cyclesEither", unfollowed := true, recurses := true, apart := false, narrowed := true }
def CyclesEitherUptoSaid : Prop := cyclesEitherUptoRow.holds Try.pinned (OpenSpec.upto cyclesEitherSpec)

/-- 'gabletlaw29.CyclesTurned', WHERE WHAT IT READS IS OF BULK AT MOST 1048576: true; the input reads as it did. -/
def cyclesTurnedUptoRow : OpenClaim := { program := "ytogaoppnoibgdaa", sum := "894210aadd381cfb27efca39232a4e05d7f48eee9c81ffd39de4cdfd3079aadc", func := "gablet/gabletlaw29.CyclesTurned", spec := "cyclesTurned", unfollowed := true, recurses := true, apart := false, narrowed := true }
def CyclesTurnedUptoSaid : Prop := cyclesTurnedUptoRow.holds Try.pinned (OpenSpec.upto cyclesTurnedSpec)

end Rows
end Go.Proofs.Ytogaoppnoibgdaa
