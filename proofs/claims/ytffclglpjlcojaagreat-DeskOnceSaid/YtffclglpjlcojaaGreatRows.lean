/-
  No cell of these rows narrows 'for every input' (looked for: loops, veiled, ifaces, maps, wideKeys, modest, calm, conditions, laid).
  DERIVED. THE GIVEN ROWS OF THIS SEAT. 3 by the template 'for every input the law returns true; each argument reads behind the call as it read before'; 0 by the template 'total and deterministic' (their statements: YtffclglpjlcojaaGreatTotals.lean).
  GIVEN WITH THE SEED: the statements are not yours to turn. If you find one false, say at which input.
  Laid BY PROGRAM, IN A SANDBOX (cutbox-rows.mjs): the forced cells as the released guide's own fill.sh prints them over the translation 6e6991090516d34a… (all of the seat's roots in one cut). By AI agents, Wed Nov 11 2026. No macro, syntax, notation, axiom, sorry.
-/
import Derived.Test.YtffclglpjlcojaaGreatChecked
import GoSem.Claim
import GoSem.ClaimJoined
import GoSem.ClaimMapViews
import Derived.JoinedTies
import Derived.KernelRfl
namespace Go.Proofs.YtffclglpjlcojaaGreat
/- THE CELL 'sum', in the pinned program and in every row, IS THE sha256 OF THE DUMP (.gsa) THAT YtffclglpjlcojaaGreatProg.lean LOADS. Nothing in Lean hashes anything: it is a label: what it is worth is what the hold of that sum in a sandbox is worth. -/
noncomputable def Tryz.pinned : Pinned := { name := "ytffclglpjlcojaagreat", sum := "6e6991090516d34aedec7c9d35e53f37f12787ef757664bf711c13b8b657ef91", checked := Tryz.checked }
namespace Rows
def none {H : Type} : Left H := { results := [], args := [] }

/-- 'gabletlaw22.LedgerApart': WHATEVER THE INPUT: true; the input reads as it did. -/
def ledgerApartSpec : ChangeSpec := { name := "ledgerApart", fn := fun _ => fun
  | [d1, d2, d3] => { results := [.lit (.bool true)], args := [d1, d2, d3] }
  | _ => none }
def ledgerApartRow : OpenClaim := { program := "ytffclglpjlcojaagreat", sum := "6e6991090516d34aedec7c9d35e53f37f12787ef757664bf711c13b8b657ef91", func := "gablet/gabletlaw22.LedgerApart", spec := "ledgerApart", unfollowed := true, recurses := true, plainKeys := false, apart := false }
def LedgerApartSaid : Prop := ledgerApartRow.holds Tryz.pinned (OpenSpec.ofChange ledgerApartSpec)

/-- ITS FALSE NEIGHBOUR: 'it returns false'. Refute it at one input. -/
def ledgerApartWrong : ChangeSpec := { name := "ledgerApart", fn := fun _ => fun
  | [d1, d2, d3] => { results := [.lit (.bool false)], args := [d1, d2, d3] }
  | _ => none }
def LedgerApartWrongFalsely : Prop := ledgerApartRow.holds Tryz.pinned (OpenSpec.ofChange ledgerApartWrong)

/-- 'gabletlaw25.DeskOnce': WHATEVER THE INPUT: true; the input reads as it did. -/
def deskOnceSpec : ChangeSpec := { name := "deskOnce", fn := fun _ => fun
  | [d1, d2] => { results := [.lit (.bool true)], args := [d1, d2] }
  | _ => none }
def deskOnceRow : OpenClaim := { program := "ytffclglpjlcojaagreat", sum := "6e6991090516d34aedec7c9d35e53f37f12787ef757664bf711c13b8b657ef91", func := "gablet/gabletlaw25.DeskOnce", spec := "deskOnce", unfollowed := true, recurses := true, plainKeys := false, apart := false }
def DeskOnceSaid : Prop := deskOnceRow.holds Tryz.pinned (OpenSpec.ofChange deskOnceSpec)

/-- ITS FALSE NEIGHBOUR: 'it returns false'. Refute it at one input. -/
def deskOnceWrong : ChangeSpec := { name := "deskOnce", fn := fun _ => fun
  | [d1, d2] => { results := [.lit (.bool false)], args := [d1, d2] }
  | _ => none }
def DeskOnceWrongFalsely : Prop := deskOnceRow.holds Tryz.pinned (OpenSpec.ofChange deskOnceWrong)

/-- 'gabletlaw30.WhatifTries': WHATEVER THE INPUT: true; the input reads as it did. -/
def whatifTriesSpec : ChangeSpec := { name := "whatifTries", fn := fun _ => fun
  | [d1, d2] => { results := [.lit (.bool true)], args := [d1, d2] }
  | _ => none }
def whatifTriesRow : OpenClaim := { program := "ytffclglpjlcojaagreat", sum := "6e6991090516d34aedec7c9d35e53f37f12787ef757664bf711c13b8b657ef91", func := "gablet/gabletlaw30.WhatifTries", spec := "whatifTries", unfollowed := true, recurses := true, plainKeys := false, apart := false }
def WhatifTriesSaid : Prop := whatifTriesRow.holds Tryz.pinned (OpenSpec.ofChange whatifTriesSpec)

/-- ITS FALSE NEIGHBOUR: 'it returns false'. Refute it at one input. -/
def whatifTriesWrong : ChangeSpec := { name := "whatifTries", fn := fun _ => fun
  | [d1, d2] => { results := [.lit (.bool false)], args := [d1, d2] }
  | _ => none }
def WhatifTriesWrongFalsely : Prop := whatifTriesRow.holds Tryz.pinned (OpenSpec.ofChange whatifTriesWrong)

/- THE SECOND FORM. 'bulk': how many values and letters a reading holds, each counted each time it is reached (what is shared counts as often as it is met; a slice's spare places count too). A statement '..UptoSaid' is the law's where the arguments, and the package variables that the reading takes, are together of bulk at most 1048576: NARROWER than '..Said'. Prove '..Said' where nothing that the law and all that it calls make is longer than what came in: it says more and counts as full. Else prove '..UptoSaid'. A law counts once. -/
mutual
def uptoBulk {H : Type} : DataW H → Nat
  | .lit (.string bytes) => bytes.length + 1
  | .lit _ => 1
  | .nil => 1
  | .ptr d => uptoBulk d + 1
  | .slice elems spare => uptoBulkAll elems + uptoBulkAll spare + 1
  | .agg parts => uptoBulkAll parts + 1
  | .iface _ d => uptoBulk d + 1
  | .map entries => uptoBulkEntries entries + 1
  | .held _ => 1
def uptoBulkAll {H : Type} : List (DataW H) → Nat
  | [] => 0
  | d :: r => uptoBulk d + uptoBulkAll r
def uptoBulkEntries {H : Type} : List (Lit × DataW H) → Nat
  | [] => 0
  | x :: r => uptoBulkEntry x + uptoBulkEntries r
def uptoBulkEntry {H : Type} : Lit × DataW H → Nat
  | (.string bytes, d) => bytes.length + uptoBulk d + 1
  | (_, d) => uptoBulk d + 1
 end
def uptoSmall : (H : Type) → List (DataW H) → Bool := fun _ ds => decide (uptoBulkAll ds ≤ 1048576)
def OpenSpec.upto (s : _root_.Go.ChangeSpec) : _root_.Go.OpenSpec := { _root_.Go.OpenSpec.ofChange s with cond := some uptoSmall }

/-- 'gabletlaw22.LedgerApart', WHERE WHAT IT READS IS OF BULK AT MOST 1048576: true; the input reads as it did. -/
def ledgerApartUptoRow : OpenClaim := { program := "ytffclglpjlcojaagreat", sum := "6e6991090516d34aedec7c9d35e53f37f12787ef757664bf711c13b8b657ef91", func := "gablet/gabletlaw22.LedgerApart", spec := "ledgerApart", unfollowed := true, recurses := true, plainKeys := false, apart := false, narrowed := true }
def LedgerApartUptoSaid : Prop := ledgerApartUptoRow.holds Tryz.pinned (OpenSpec.upto ledgerApartSpec)

/-- 'gabletlaw25.DeskOnce', WHERE WHAT IT READS IS OF BULK AT MOST 1048576: true; the input reads as it did. -/
def deskOnceUptoRow : OpenClaim := { program := "ytffclglpjlcojaagreat", sum := "6e6991090516d34aedec7c9d35e53f37f12787ef757664bf711c13b8b657ef91", func := "gablet/gabletlaw25.DeskOnce", spec := "deskOnce", unfollowed := true, recurses := true, plainKeys := false, apart := false, narrowed := true }
def DeskOnceUptoSaid : Prop := deskOnceUptoRow.holds Tryz.pinned (OpenSpec.upto deskOnceSpec)

/-- 'gabletlaw30.WhatifTries', WHERE WHAT IT READS IS OF BULK AT MOST 1048576: true; the input reads as it did. -/
def whatifTriesUptoRow : OpenClaim := { program := "ytffclglpjlcojaagreat", sum := "6e6991090516d34aedec7c9d35e53f37f12787ef757664bf711c13b8b657ef91", func := "gablet/gabletlaw30.WhatifTries", spec := "whatifTries", unfollowed := true, recurses := true, plainKeys := false, apart := false, narrowed := true }
def WhatifTriesUptoSaid : Prop := whatifTriesUptoRow.holds Tryz.pinned (OpenSpec.upto whatifTriesSpec)

end Rows
end Go.Proofs.YtffclglpjlcojaaGreat
