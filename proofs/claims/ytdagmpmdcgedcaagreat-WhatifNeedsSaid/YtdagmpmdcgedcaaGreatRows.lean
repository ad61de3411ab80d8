/-
  No cell of these rows narrows 'for every input' (looked for: loops, veiled, ifaces, maps, wideKeys, modest, calm, conditions, laid).
  DERIVED. THE GIVEN ROWS OF THIS SEAT. 12 by the template 'for every input the law returns true; each argument reads behind the call as it read before'; 0 by the template 'total and deterministic' (their statements: YtdagmpmdcgedcaaGreatTotals.lean).
  GIVEN WITH THE SEED: the statements are not yours to turn. If you find one false, say at which input.
  Laid BY PROGRAM, IN A SANDBOX (cutbox-rows.mjs): the forced cells as the released guide's own fill.sh prints them over the translation e950a74388d566ef… (all of the seat's roots in one cut). By AI agents, Wed Nov 11 2026. No macro, syntax, notation, axiom, sorry.
-/
import Derived.Test.YtdagmpmdcgedcaaGreatChecked
import GoSem.Claim
import GoSem.ClaimJoined
import GoSem.ClaimMapViews
import Derived.JoinedTies
import Derived.KernelRfl
namespace Go.Proofs.YtdagmpmdcgedcaaGreat
/- THE CELL 'sum', in the pinned program and in every row, IS THE sha256 OF THE DUMP (.gsa) THAT YtdagmpmdcgedcaaGreatProg.lean LOADS. Nothing in Lean hashes anything: it is a label: what it is worth is what the hold of that sum in a sandbox is worth. -/
noncomputable def Tryz.pinned : Pinned := { name := "ytdagmpmdcgedcaagreat", sum := "e950a74388d566efa6458fe4fdf4b9d2c620d596af9a44f9c006c9f2658c1c17", checked := Tryz.checked }
namespace Rows
def none {H : Type} : Left H := { results := [], args := [] }

/-- 'gabletlaw22.LedgerSums': WHATEVER THE INPUT: true; the input reads as it did. -/
def ledgerSumsSpec : ChangeSpec := { name := "ledgerSums", fn := fun _ => fun
  | [d] => { results := [.lit (.bool true)], args := [d] }
  | _ => none }
def ledgerSumsRow : OpenClaim := { program := "ytdagmpmdcgedcaagreat", sum := "e950a74388d566efa6458fe4fdf4b9d2c620d596af9a44f9c006c9f2658c1c17", func := "gablet/gabletlaw22.LedgerSums", spec := "ledgerSums", unfollowed := true, recurses := true, apart := false }
def LedgerSumsSaid : Prop := ledgerSumsRow.holds Tryz.pinned (OpenSpec.ofChange ledgerSumsSpec)

/-- ITS FALSE NEIGHBOUR: 'it returns false'. Refute it at one input. -/
def ledgerSumsWrong : ChangeSpec := { name := "ledgerSums", fn := fun _ => fun
  | [d] => { results := [.lit (.bool false)], args := [d] }
  | _ => none }
def LedgerSumsWrongFalsely : Prop := ledgerSumsRow.holds Tryz.pinned (OpenSpec.ofChange ledgerSumsWrong)

/-- 'gabletlaw22.LedgerBest': WHATEVER THE INPUT: true; the input reads as it did. -/
def ledgerBestSpec : ChangeSpec := { name := "ledgerBest", fn := fun _ => fun
  | [d1, d2, d3] => { results := [.lit (.bool true)], args := [d1, d2, d3] }
  | _ => none }
def ledgerBestRow : OpenClaim := { program := "ytdagmpmdcgedcaagreat", sum := "e950a74388d566efa6458fe4fdf4b9d2c620d596af9a44f9c006c9f2658c1c17", func := "gablet/gabletlaw22.LedgerBest", spec := "ledgerBest", unfollowed := true, recurses := true, apart := false }
def LedgerBestSaid : Prop := ledgerBestRow.holds Tryz.pinned (OpenSpec.ofChange ledgerBestSpec)

/-- ITS FALSE NEIGHBOUR: 'it returns false'. Refute it at one input. -/
def ledgerBestWrong : ChangeSpec := { name := "ledgerBest", fn := fun _ => fun
  | [d1, d2, d3] => { results := [.lit (.bool false)], args := [d1, d2, d3] }
  | _ => none }
def LedgerBestWrongFalsely : Prop := ledgerBestRow.holds Tryz.pinned (OpenSpec.ofChange ledgerBestWrong)

/-- 'gabletlaw22.LedgerNil': WHATEVER THE INPUT: true; the input reads as it did. -/
def ledgerNilSpec : ChangeSpec := { name := "ledgerNil", fn := fun _ => fun
  | [d] => { results := [.lit (.bool true)], args := [d] }
  | _ => none }
def ledgerNilRow : OpenClaim := { program := "ytdagmpmdcgedcaagreat", sum := "e950a74388d566efa6458fe4fdf4b9d2c620d596af9a44f9c006c9f2658c1c17", func := "gablet/gabletlaw22.LedgerNil", spec := "ledgerNil", unfollowed := true, recurses := true, apart := false }
def LedgerNilSaid : Prop := ledgerNilRow.holds Tryz.pinned (OpenSpec.ofChange ledgerNilSpec)

/-- ITS FALSE NEIGHBOUR: 'it returns false'. Refute it at one input. -/
def ledgerNilWrong : ChangeSpec := { name := "ledgerNil", fn := fun _ => fun
  | [d] => { results := [.lit (.bool false)], args := [d] }
  | _ => none }
def LedgerNilWrongFalsely : Prop := ledgerNilRow.holds Tryz.pinned (OpenSpec.ofChange ledgerNilWrong)

/-- 'gabletlaw22.LedgerTwice': WHATEVER THE INPUT: true; the input reads as it did. -/
def ledgerTwiceSpec : ChangeSpec := { name := "ledgerTwice", fn := fun _ => fun
  | [d1, d2] => { results := [.lit (.bool true)], args := [d1, d2] }
  | _ => none }
def ledgerTwiceRow : OpenClaim := { program := "ytdagmpmdcgedcaagreat", sum := "e950a74388d566efa6458fe4fdf4b9d2c620d596af9a44f9c006c9f2658c1c17", func := "gablet/gabletlaw22.LedgerTwice", spec := "ledgerTwice", unfollowed := true, recurses := true, apart := false }
def LedgerTwiceSaid : Prop := ledgerTwiceRow.holds Tryz.pinned (OpenSpec.ofChange ledgerTwiceSpec)

/-- ITS FALSE NEIGHBOUR: 'it returns false'. Refute it at one input. -/
def ledgerTwiceWrong : ChangeSpec := { name := "ledgerTwice", fn := fun _ => fun
  | [d1, d2] => { results := [.lit (.bool false)], args := [d1, d2] }
  | _ => none }
def LedgerTwiceWrongFalsely : Prop := ledgerTwiceRow.holds Tryz.pinned (OpenSpec.ofChange ledgerTwiceWrong)

/-- 'gabletlaw22.LedgerApart': WHATEVER THE INPUT: true; the input reads as it did. -/
def ledgerApartSpec : ChangeSpec := { name := "ledgerApart", fn := fun _ => fun
  | [d1, d2, d3] => { results := [.lit (.bool true)], args := [d1, d2, d3] }
  | _ => none }
def ledgerApartRow : OpenClaim := { program := "ytdagmpmdcgedcaagreat", sum := "e950a74388d566efa6458fe4fdf4b9d2c620d596af9a44f9c006c9f2658c1c17", func := "gablet/gabletlaw22.LedgerApart", spec := "ledgerApart", unfollowed := true, recurses := true, apart := false }
def LedgerApartSaid : Prop := ledgerApartRow.holds Tryz.pinned (OpenSpec.ofChange ledgerApartSpec)

/-- ITS FALSE NEIGHBOUR: 'it returns false'. Refute it at one input. -/
def ledgerApartWrong : ChangeSpec := { name := "ledgerApart", fn := fun _ => fun
  | [d1, d2, d3] => { results := [.lit (.bool false)], args := [d1, d2, d3] }
  | _ => none }
def LedgerApartWrongFalsely : Prop := ledgerApartRow.holds Tryz.pinned (OpenSpec.ofChange ledgerApartWrong)

/-- 'gabletlaw22.LedgerDays': WHATEVER THE INPUT: true; the input reads as it did. -/
def ledgerDaysSpec : ChangeSpec := { name := "ledgerDays", fn := fun _ => fun
  | [d1, d2] => { results := [.lit (.bool true)], args := [d1, d2] }
  | _ => none }
def ledgerDaysRow : OpenClaim := { program := "ytdagmpmdcgedcaagreat", sum := "e950a74388d566efa6458fe4fdf4b9d2c620d596af9a44f9c006c9f2658c1c17", func := "gablet/gabletlaw22.LedgerDays", spec := "ledgerDays", unfollowed := true, recurses := true, apart := false }
def LedgerDaysSaid : Prop := ledgerDaysRow.holds Tryz.pinned (OpenSpec.ofChange ledgerDaysSpec)

/-- ITS FALSE NEIGHBOUR: 'it returns false'. Refute it at one input. -/
def ledgerDaysWrong : ChangeSpec := { name := "ledgerDays", fn := fun _ => fun
  | [d1, d2] => { results := [.lit (.bool false)], args := [d1, d2] }
  | _ => none }
def LedgerDaysWrongFalsely : Prop := ledgerDaysRow.holds Tryz.pinned (OpenSpec.ofChange ledgerDaysWrong)

/-- 'gabletlaw22.LedgerPlays': WHATEVER THE INPUT: true; the input reads as it did. -/
def ledgerPlaysSpec : ChangeSpec := { name := "ledgerPlays", fn := fun _ => fun
  | [d1, d2, d3] => { results := [.lit (.bool true)], args := [d1, d2, d3] }
  | _ => none }
def ledgerPlaysRow : OpenClaim := { program := "ytdagmpmdcgedcaagreat", sum := "e950a74388d566efa6458fe4fdf4b9d2c620d596af9a44f9c006c9f2658c1c17", func := "gablet/gabletlaw22.LedgerPlays", spec := "ledgerPlays", unfollowed := true, recurses := true, apart := false }
def LedgerPlaysSaid : Prop := ledgerPlaysRow.holds Tryz.pinned (OpenSpec.ofChange ledgerPlaysSpec)

/-- ITS FALSE NEIGHBOUR: 'it returns false'. Refute it at one input. -/
def ledgerPlaysWrong : ChangeSpec := { name := "ledgerPlays", fn := fun _ => fun
  | [d1, d2, d3] => { results := [.lit (.bool false)], args := [d1, d2, d3] }
  | _ => none }
def LedgerPlaysWrongFalsely : Prop := ledgerPlaysRow.holds Tryz.pinned (OpenSpec.ofChange ledgerPlaysWrong)

/-- 'gabletlaw30.WhatifTries': WHATEVER THE INPUT: true; the input reads as it did. -/
def whatifTriesSpec : ChangeSpec := { name := "whatifTries", fn := fun _ => fun
  | [d1, d2] => { results := [.lit (.bool true)], args := [d1, d2] }
  | _ => none }
def whatifTriesRow : OpenClaim := { program := "ytdagmpmdcgedcaagreat", sum := "e950a74388d566efa6458fe4fdf4b9d2c620d596af9a44f9c006c9f2658c1c17", func := "gablet/gabletlaw30.WhatifTries", spec := "whatifTries", unfollowed := true, recurses := true, apart := false }
def WhatifTriesSaid : Prop := whatifTriesRow.holds Tryz.pinned (OpenSpec.ofChange whatifTriesSpec)

/-- ITS FALSE NEIGHBOUR: 'it returns false'. Refute it at one input. -/
def whatifTriesWrong : ChangeSpec := { name := "whatifTries", fn := fun _ => fun
  | [d1, d2] => { results := [.lit (.bool false)], args := [d1, d2] }
  | _ => none }
def WhatifTriesWrongFalsely : Prop := whatifTriesRow.holds Tryz.pinned (OpenSpec.ofChange whatifTriesWrong)

/-- 'gabletlaw30.WhatifNeeds': WHATEVER THE INPUT: true; the input reads as it did. -/
def whatifNeedsSpec : ChangeSpec := { name := "whatifNeeds", fn := fun _ => fun
  | [d1, d2, d3] => { results := [.lit (.bool true)], args := [d1, d2, d3] }
  | _ => none }
def whatifNeedsRow : OpenClaim := { program := "ytdagmpmdcgedcaagreat", sum := "e950a74388d566efa6458fe4fdf4b9d2c620d596af9a44f9c006c9f2658c1c17", func := "gablet/gabletlaw30.WhatifNeeds", spec := "whatifNeeds", unfollowed := true, recurses := true, apart := false }
def WhatifNeedsSaid : Prop := whatifNeedsRow.holds Tryz.pinned (OpenSpec.ofChange whatifNeedsSpec)

/-- ITS FALSE NEIGHBOUR: 'it returns false'. Refute it at one input. -/
def whatifNeedsWrong : ChangeSpec := { name := "whatifNeeds", fn := fun _ => fun
  | [d1, d2, d3] => { results := [.lit (.bool false)], args := [d1, d2, d3] }
  | _ => none }
def WhatifNeedsWrongFalsely : Prop := whatifNeedsRow.holds Tryz.pinned (OpenSpec.ofChange whatifNeedsWrong)

/-- 'gabletlaw30.WhatifPays': WHATEVER THE INPUT: true; the input reads as it did. -/
def whatifPaysSpec : ChangeSpec := { name := "whatifPays", fn := fun _ => fun
  | [d] => { results := [.lit (.bool true)], args := [d] }
  | _ => none }
def whatifPaysRow : OpenClaim := { program := "ytdagmpmdcgedcaagreat", sum := "e950a74388d566efa6458fe4fdf4b9d2c620d596af9a44f9c006c9f2658c1c17", func := "gablet/gabletlaw30.WhatifPays", spec := "whatifPays", unfollowed := true, recurses := true, apart := false }
def WhatifPaysSaid : Prop := whatifPaysRow.holds Tryz.pinned (OpenSpec.ofChange whatifPaysSpec)

/-- ITS FALSE NEIGHBOUR: 'it returns false'. Refute it at one input. -/
def whatifPaysWrong : ChangeSpec := { name := "whatifPays", fn := fun _ => fun
  | [d] => { results := [.lit (.bool false)], args := [d] }
  | _ => none }
def WhatifPaysWrongFalsely : Prop := whatifPaysRow.holds Tryz.pinned (OpenSpec.ofChange whatifPaysWrong)

/-- 'gabletlaw30.WhatifNil': WHATEVER THE INPUT: true; the input reads as it did. -/
def whatifNilSpec : ChangeSpec := { name := "whatifNil", fn := fun _ => fun
  | [d] => { results := [.lit (.bool true)], args := [d] }
  | _ => none }
def whatifNilRow : OpenClaim := { program := "ytdagmpmdcgedcaagreat", sum := "e950a74388d566efa6458fe4fdf4b9d2c620d596af9a44f9c006c9f2658c1c17", func := "gablet/gabletlaw30.WhatifNil", spec := "whatifNil", unfollowed := true, recurses := true, apart := false }
def WhatifNilSaid : Prop := whatifNilRow.holds Tryz.pinned (OpenSpec.ofChange whatifNilSpec)

/-- ITS FALSE NEIGHBOUR: 'it returns false'. Refute it at one input. -/
def whatifNilWrong : ChangeSpec := { name := "whatifNil", fn := fun _ => fun
  | [d] => { results := [.lit (.bool false)], args := [d] }
  | _ => none }
def WhatifNilWrongFalsely : Prop := whatifNilRow.holds Tryz.pinned (OpenSpec.ofChange whatifNilWrong)

/-- 'gabletlaw29.CyclesGone': WHATEVER THE INPUT: true; the input reads as it did. -/
def cyclesGoneSpec : ChangeSpec := { name := "cyclesGone", fn := fun _ => fun
  | [d] => { results := [.lit (.bool true)], args := [d] }
  | _ => none }
def cyclesGoneRow : OpenClaim := { program := "ytdagmpmdcgedcaagreat", sum := "e950a74388d566efa6458fe4fdf4b9d2c620d596af9a44f9c006c9f2658c1c17", func := "gablet/gabletlaw29.CyclesGone", spec := "cyclesGone", unfollowed := true, recurses := true, apart := false }
def CyclesGoneSaid : Prop := cyclesGoneRow.holds Tryz.pinned (OpenSpec.ofChange cyclesGoneSpec)

/-- ITS FALSE NEIGHBOUR: 'it returns false'. Refute it at one input. -/
def cyclesGoneWrong : ChangeSpec := { name := "cyclesGone", fn := fun _ => fun
  | [d] => { results := [.lit (.bool false)], args := [d] }
  | _ => none }
def CyclesGoneWrongFalsely : Prop := cyclesGoneRow.holds Tryz.pinned (OpenSpec.ofChange cyclesGoneWrong)

/- THE SECOND FORM. 'bulk': how many values and letters a reading holds, each counted each time it is reached (what is shared counts as often as it is met; a slice's spare places count too). A statement '..UptoSaid' is the law's where the arguments, and the package variables that the reading takes, are together of bulk at most 1048576: NARROWER than '..Said'. Prove '..Said' where nothing that the law and all that it calls make is longer than what came in: it says more and counts as full. Else prove '..UptoSaid'. A law counts once. -/
mutual
def uptoBulk {H : Type} : DataW H → Nat
  | .lit (.string bytes) => bytes.length + 1
  | .lit _ => 1
  | .nil => 1
  | .ptr d => uptoBulk d + 1
  | .slice elems spare => uptoBulkAll elems + uptoBulkAll spare + 1
  | .agg parts => uptoBulkAll parts + 1
  | .iface _ d => uptoBulk d + 1
  | .map entries => uptoBulkEntries entries + 1
  | .held _ => 1
def uptoBulkAll {H : Type} : List (DataW H) → Nat
  | [] => 0
  | d :: r => uptoBulk d + uptoBulkAll r
def uptoBulkEntries {H : Type} : List (Lit × DataW H) → Nat
  | [] => 0
  | x :: r => uptoBulkEntry x + uptoBulkEntries r
def uptoBulkEntry {H : Type} : Lit × DataW H → Nat
  | (.string bytes, d) => bytes.length + uptoBulk d + 1
  | (_, d) => uptoBulk d + 1
 end
def uptoSmall : (H : Type) → List (DataW H) → Bool := fun _ ds => decide (uptoBulkAll ds ≤ 1048576)
def OpenSpec.upto (s : _root_.Go.ChangeSpec) : _root_.Go.OpenSpec := { _root_.Go.OpenSpec.ofChange s with cond := some uptoSmall }

/-- 'gabletlaw22.LedgerSums', WHERE WHAT IT READS IS OF BULK AT MOST 1048576: true; the input reads as it did. -/
def ledgerSumsUptoRow : OpenClaim := { program := "ytdagmpmdcgedcaagreat", sum := "e950a74388d566efa6458fe4fdf4b9d2c620d596af9a44f9c006c9f2658c1c17", func := "gablet/gabletlaw22.LedgerSums", spec := "ledgerSums", unfollowed := true, recurses := true, apart := false, narrowed := true }
def LedgerSumsUptoSaid : Prop := ledgerSumsUptoRow.holds Tryz.pinned (OpenSpec.upto ledgerSumsSpec)

/-- 'gabletlaw22.LedgerBest', WHERE WHAT IT READS IS OF BULK AT MOST 1048576: true; the input reads as it did. -/
def ledgerBestUptoRow : OpenClaim := { program := "ytdagmpmdcgedcaagreat", sum := "e950a74388d566efa6458fe4fdf4b9d2c620d596af9a44f9c006c9f2658c1c17", func := "gablet/gabletlaw22.LedgerBest", spec := "ledgerBest", unfollowed := true, recurses := true, apart := false, narrowed := true }
def LedgerBestUptoSaid : Prop := ledgerBestUptoRow.holds Tryz.pinned (OpenSpec.upto ledgerBestSpec)

/-- 'gabletlaw22.LedgerNil', WHERE WHAT IT READS IS OF BULK AT MOST 1048576: true; the input reads as it did. -/
def ledgerNilUptoRow : OpenClaim := { program := "ytdagmpmdcgedcaagreat", sum := "e950a74388d566efa6458fe4fdf4b9d2c620d596af9a44f9c006c9f2658c1c17", func := "gablet/gabletlaw22.LedgerNil", spec := "ledgerNil", unfollowed := true, recurses := true, apart := false, narrowed := true }
def LedgerNilUptoSaid : Prop := ledgerNilUptoRow.holds Tryz.pinned (OpenSpec.upto ledgerNilSpec)

/-- 'gabletlaw22.LedgerTwice', WHERE WHAT IT READS IS OF BULK AT MOST 1048576: true; the input reads as it did. -/
def ledgerTwiceUptoRow : OpenClaim := { program := "ytdagmpmdcgedcaagreat", sum := "e950a74388d566efa6458fe4fdf4b9d2c620d596af9a44f9c006c9f2658c1c17", func := "gablet/gabletlaw22.LedgerTwice", spec := "ledgerTwice", unfollowed := true, recurses := true, apart := false, narrowed := true }
def LedgerTwiceUptoSaid : Prop := ledgerTwiceUptoRow.holds Tryz.pinned (OpenSpec.upto ledgerTwiceSpec)

/-- 'gabletlaw22.LedgerApart', WHERE WHAT IT READS IS OF BULK AT MOST 1048576: true; the input reads as it did. -/
def ledgerApartUptoRow : OpenClaim := { program := "ytdagmpmdcgedcaagreat", sum := "e950a74388d566efa6458fe4fdf4b9d2c620d596af9a44f9c006c9f2658c1c17", func := "gablet/gabletlaw22.LedgerApart", spec := "ledgerApart", unfollowed := true, recurses := true, apart := false, narrowed := true }
def LedgerApartUptoSaid : Prop := ledgerApartUptoRow.holds Tryz.pinned (OpenSpec.upto ledgerApartSpec)

/-- 'gabletlaw22.LedgerDays', WHERE WHAT IT READS IS OF BULK AT MOST 1048576: true; the input reads as it did. -/
def ledgerDaysUptoRow : OpenClaim := { program := "ytdagmpmdcgedcaagreat", sum := "e950a74388d566efa6458fe4fdf4b9d2c620d596af9a44f9c006c9f2658c1c17", func := "gablet/gabletlaw22.LedgerDays", spec := "ledgerDays", unfollowed := true, recurses := true, apart := false, narrowed := true }
def LedgerDaysUptoSaid : Prop := ledgerDaysUptoRow.holds Tryz.pinned (OpenSpec.upto ledgerDaysSpec)

/-- 'gabletlaw22.LedgerPlays', WHERE WHAT IT READS IS OF BULK AT MOST 1048576: true; the input reads as it did. -/
def ledgerPlaysUptoRow : OpenClaim := { program := "ytdagmpmdcgedcaagreat", sum := "e950a74388d566efa6458fe4fdf4b9d2c620d596af9a44f9c006c9f2658c1c17", func := "gablet/gabletlaw22.LedgerPlays", spec := "ledgerPlays", unfollowed := true, recurses := true, apart := false, narrowed := true }
def LedgerPlaysUptoSaid : Prop := ledgerPlaysUptoRow.holds Tryz.pinned (OpenSpec.upto ledgerPlaysSpec)

/-- 'gabletlaw30.WhatifTries', WHERE WHAT IT READS IS OF BULK AT MOST 1048576: true; the input reads as it did. -/
def whatifTriesUptoRow : OpenClaim := { program := "ytdagmpmdcgedcaagreat", sum := "e950a74388d566efa6458fe4fdf4b9d2c620d596af9a44f9c006c9f2658c1c17", func := "gablet/gabletlaw30.WhatifTries", spec := "whatifTries", unfollowed := true, recurses := true, apart := false, narrowed := true }
def WhatifTriesUptoSaid : Prop := whatifTriesUptoRow.holds Tryz.pinned (OpenSpec.upto whatifTriesSpec)

/-- 'gabletlaw30.WhatifNeeds', WHERE WHAT IT READS IS OF BULK AT MOST 1048576: true; the input reads as it did. -/
def whatifNeedsUptoRow : OpenClaim := { program := "ytdagmpmdcgedcaagreat", sum := "e950a74388d566efa6458fe4fdf4b9d2c620d596af9a44f9c006c9f2658c1c17", func := "gablet/gabletlaw30.WhatifNeeds", spec := "whatifNeeds", unfollowed := true, recurses := true, apart := false, narrowed := true }
def WhatifNeedsUptoSaid : Prop := whatifNeedsUptoRow.holds Tryz.pinned (OpenSpec.upto whatifNeedsSpec)

/-- 'gabletlaw30.WhatifPays', WHERE WHAT IT READS IS OF BULK AT MOST 1048576: true; the input reads as it did. -/
def whatifPaysUptoRow : OpenClaim := { program := "ytdagmpmdcgedcaagreat", sum := "e950a74388d566efa6458fe4fdf4b9d2c620d596af9a44f9c006c9f2658c1c17", func := "gablet/gabletlaw30.WhatifPays", spec := "whatifPays", unfollowed := true, recurses := true, apart := false, narrowed := true }
def WhatifPaysUptoSaid : Prop := whatifPaysUptoRow.holds Tryz.pinned (OpenSpec.upto whatifPaysSpec)

/-- 'gabletlaw30.WhatifNil', WHERE WHAT IT READS IS OF BULK AT MOST 1048576: true; the input reads as it did. -/
def whatifNilUptoRow : OpenClaim := { program := "ytdagmpmdcgedcaagreat", sum := "e950a74388d566efa6458fe4fdf4b9d2c620d596af9a44f9c006c9f2658c1c17", func := "gablet/gabletlaw30.WhatifNil", spec := "whatifNil", unfollowed := true, recurses := true, apart := false, narrowed := true }
def WhatifNilUptoSaid : Prop := whatifNilUptoRow.holds Tryz.pinned (OpenSpec.upto whatifNilSpec)

/-- 'gabletlaw29.CyclesGone', WHERE WHAT IT READS IS OF BULK AT MOST 1048576: true; the input reads as it did. -/
def cyclesGoneUptoRow : OpenClaim := { program := "ytdagmpmdcgedcaagreat", sum := "e950a74388d566efa6458fe4fdf4b9d2c620d596af9a44f9c006c9f2658c1c17", func := "gablet/gabletlaw29.CyclesGone", spec := "cyclesGone", unfollowed := true, recurses := true, apart := false, narrowed := true }
def CyclesGoneUptoSaid : Prop := cyclesGoneUptoRow.holds Tryz.pinned (OpenSpec.upto cyclesGoneSpec)

end Rows
end Go.Proofs.YtdagmpmdcgedcaaGreat
