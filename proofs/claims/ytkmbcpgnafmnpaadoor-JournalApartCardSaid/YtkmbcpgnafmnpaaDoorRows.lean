/-
  NARROWER THAN 'FOR EVERY INPUT', by the rows' own cells (each row's printed sentence says how): ShadowSpoilt: laid · ShadowNil: laid · ShadowPlays: laid · ShadowKeeps: laid · JournalArgs: laid · JournalApart: laid · JournalPlays: laid · JournalCrash: laid.
  DERIVED. THE GIVEN ROWS OF THIS SEAT. 8 by the template 'for every input the law returns true; each argument reads behind the call as it read before'; 0 by the template 'total and deterministic' (their statements: YtkmbcpgnafmnpaaDoorTotals.lean).
  GIVEN WITH THE SEED: the statements are not yours to turn. If you find one false, say at which input.
  Laid BY PROGRAM, IN A SANDBOX (cutbox-rows.mjs): the forced cells as the released guide's own fill.sh prints them over the translation c5699e96893e2153… (all of the seat's roots in one cut). By AI agents, Wed Nov 11 2026. No macro, syntax, notation, axiom, sorry.
-/
import Derived.Test.YtkmbcpgnafmnpaaDoorChecked
import GoSem.PinnedTables
import GoSem.Claim
import GoSem.ClaimJoined
import GoSem.ClaimMapViews
import Derived.JoinedTies
import Derived.KernelRfl
namespace Go.Proofs.YtkmbcpgnafmnpaaDoor
/- THE CELL 'sum', in the pinned program and in every row, IS THE sha256 OF THE DUMP (.gsa) THAT YtkmbcpgnafmnpaaDoorProg.lean LOADS. Nothing in Lean hashes anything: it is a label: what it is worth is what the hold of that sum in a sandbox is worth. -/
noncomputable def Tryd.pinned : Pinned := { name := "ytkmbcpgnafmnpaadoor", sum := "c5699e96893e2153f2840d40042a9878142ae5ff0559d214a961d12d8235f660", checked := Tryd.checked }
namespace Rows
def none {H : Type} : Left H := { results := [], args := [] }

/- WHAT THE LISTED PACKAGE-LEVEL VARIABLES READ AS WHEN THE CALL BEGINS. Each datum BY PROGRAM (the guide's laid-datum.mjs) off the statement by which the dump's own 'gosem.cut.vars' lays the variable. In a bare row this is a premise. The card (YtkmbcpgnafmnpaaDoorCards.lean) ties it to the program's text. -/
def laid_unicode_utf8_acceptRanges {H : Type} : DataW H := .agg [.agg [.lit (.int .u8 128), .lit (.int .u8 191)], .agg [.lit (.int .u8 160), .lit (.int .u8 191)], .agg [.lit (.int .u8 128), .lit (.int .u8 159)], .agg [.lit (.int .u8 144), .lit (.int .u8 191)], .agg [.lit (.int .u8 128), .lit (.int .u8 143)], .agg [.lit (.int .u8 0), .lit (.int .u8 0)], .agg [.lit (.int .u8 0), .lit (.int .u8 0)], .agg [.lit (.int .u8 0), .lit (.int .u8 0)], .agg [.lit (.int .u8 0), .lit (.int .u8 0)], .agg [.lit (.int .u8 0), .lit (.int .u8 0)], .agg [.lit (.int .u8 0), .lit (.int .u8 0)], .agg [.lit (.int .u8 0), .lit (.int .u8 0)], .agg [.lit (.int .u8 0), .lit (.int .u8 0)], .agg [.lit (.int .u8 0), .lit (.int .u8 0)], .agg [.lit (.int .u8 0), .lit (.int .u8 0)], .agg [.lit (.int .u8 0), .lit (.int .u8 0)]]
/-- One of Go's own tables, pinned by name: the form's constant. -/
def laid_unicode_utf8_first : DataW Unit := Go.Pinned.utf8First

/-- 'gabletlaw08.ShadowSpoilt': WHATEVER THE INPUT: true; the input reads as it did. -/
def shadowSpoiltSpec : ChangeSpec := { name := "shadowSpoilt", fn := fun _ => fun
  | [d1, d2, d3, d4, d5, d6] => { results := [.lit (.bool true)], args := [d1, d2, d3, d4, d5, d6] }
  | _ => none }
def shadowSpoiltRow : OpenClaim := { program := "ytkmbcpgnafmnpaadoor", sum := "c5699e96893e2153f2840d40042a9878142ae5ff0559d214a961d12d8235f660", func := "gablet/gabletlaw08.ShadowSpoilt", spec := "shadowSpoilt", unfollowed := true, recurses := true, named := ["unicode/utf8.first", "unicode/utf8.acceptRanges"], apart := false, laid := [("unicode/utf8.acceptRanges", laid_unicode_utf8_acceptRanges), ("unicode/utf8.first", laid_unicode_utf8_first)] }
def ShadowSpoiltSaid : Prop := shadowSpoiltRow.holds Tryd.pinned (OpenSpec.ofChange shadowSpoiltSpec)

/-- ITS FALSE NEIGHBOUR: 'it returns false'. Refute it at one input. -/
def shadowSpoiltWrong : ChangeSpec := { name := "shadowSpoilt", fn := fun _ => fun
  | [d1, d2, d3, d4, d5, d6] => { results := [.lit (.bool false)], args := [d1, d2, d3, d4, d5, d6] }
  | _ => none }
def ShadowSpoiltWrongFalsely : Prop := shadowSpoiltRow.holds Tryd.pinned (OpenSpec.ofChange shadowSpoiltWrong)

/-- 'gabletlaw08.ShadowNil': WHATEVER THE INPUT: true; the input reads as it did. -/
def shadowNilSpec : ChangeSpec := { name := "shadowNil", fn := fun _ => fun
  | [d1, d2] => { results := [.lit (.bool true)], args := [d1, d2] }
  | _ => none }
def shadowNilRow : OpenClaim := { program := "ytkmbcpgnafmnpaadoor", sum := "c5699e96893e2153f2840d40042a9878142ae5ff0559d214a961d12d8235f660", func := "gablet/gabletlaw08.ShadowNil", spec := "shadowNil", unfollowed := true, recurses := true, named := ["unicode/utf8.first", "unicode/utf8.acceptRanges"], apart := false, laid := [("unicode/utf8.acceptRanges", laid_unicode_utf8_acceptRanges), ("unicode/utf8.first", laid_unicode_utf8_first)] }
def ShadowNilSaid : Prop := shadowNilRow.holds Tryd.pinned (OpenSpec.ofChange shadowNilSpec)

/-- ITS FALSE NEIGHBOUR: 'it returns false'. Refute it at one input. -/
def shadowNilWrong : ChangeSpec := { name := "shadowNil", fn := fun _ => fun
  | [d1, d2] => { results := [.lit (.bool false)], args := [d1, d2] }
  | _ => none }
def ShadowNilWrongFalsely : Prop := shadowNilRow.holds Tryd.pinned (OpenSpec.ofChange shadowNilWrong)

/-- 'gabletlaw08.ShadowPlays': WHATEVER THE INPUT: true; the input reads as it did. -/
def shadowPlaysSpec : ChangeSpec := { name := "shadowPlays", fn := fun _ => fun
  | [d1, d2] => { results := [.lit (.bool true)], args := [d1, d2] }
  | _ => none }
def shadowPlaysRow : OpenClaim := { program := "ytkmbcpgnafmnpaadoor", sum := "c5699e96893e2153f2840d40042a9878142ae5ff0559d214a961d12d8235f660", func := "gablet/gabletlaw08.ShadowPlays", spec := "shadowPlays", unfollowed := true, recurses := true, named := ["unicode/utf8.first", "unicode/utf8.acceptRanges"], apart := false, laid := [("unicode/utf8.acceptRanges", laid_unicode_utf8_acceptRanges), ("unicode/utf8.first", laid_unicode_utf8_first)] }
def ShadowPlaysSaid : Prop := shadowPlaysRow.holds Tryd.pinned (OpenSpec.ofChange shadowPlaysSpec)

/-- ITS FALSE NEIGHBOUR: 'it returns false'. Refute it at one input. -/
def shadowPlaysWrong : ChangeSpec := { name := "shadowPlays", fn := fun _ => fun
  | [d1, d2] => { results := [.lit (.bool false)], args := [d1, d2] }
  | _ => none }
def ShadowPlaysWrongFalsely : Prop := shadowPlaysRow.holds Tryd.pinned (OpenSpec.ofChange shadowPlaysWrong)

/-- 'gabletlaw08.ShadowKeeps': WHATEVER THE INPUT: true; the input reads as it did. -/
def shadowKeepsSpec : ChangeSpec := { name := "shadowKeeps", fn := fun _ => fun
  | [d1, d2] => { results := [.lit (.bool true)], args := [d1, d2] }
  | _ => none }
def shadowKeepsRow : OpenClaim := { program := "ytkmbcpgnafmnpaadoor", sum := "c5699e96893e2153f2840d40042a9878142ae5ff0559d214a961d12d8235f660", func := "gablet/gabletlaw08.ShadowKeeps", spec := "shadowKeeps", unfollowed := true, recurses := true, named := ["unicode/utf8.first", "unicode/utf8.acceptRanges"], apart := false, laid := [("unicode/utf8.acceptRanges", laid_unicode_utf8_acceptRanges), ("unicode/utf8.first", laid_unicode_utf8_first)] }
def ShadowKeepsSaid : Prop := shadowKeepsRow.holds Tryd.pinned (OpenSpec.ofChange shadowKeepsSpec)

/-- ITS FALSE NEIGHBOUR: 'it returns false'. Refute it at one input. -/
def shadowKeepsWrong : ChangeSpec := { name := "shadowKeeps", fn := fun _ => fun
  | [d1, d2] => { results := [.lit (.bool false)], args := [d1, d2] }
  | _ => none }
def ShadowKeepsWrongFalsely : Prop := shadowKeepsRow.holds Tryd.pinned (OpenSpec.ofChange shadowKeepsWrong)

/-- 'gabletlaw05.JournalArgs': WHATEVER THE INPUT: true; the input reads as it did. -/
def journalArgsSpec : ChangeSpec := { name := "journalArgs", fn := fun _ => fun
  | [d1, d2, d3, d4, d5, d6] => { results := [.lit (.bool true)], args := [d1, d2, d3, d4, d5, d6] }
  | _ => none }
def journalArgsRow : OpenClaim := { program := "ytkmbcpgnafmnpaadoor", sum := "c5699e96893e2153f2840d40042a9878142ae5ff0559d214a961d12d8235f660", func := "gablet/gabletlaw05.JournalArgs", spec := "journalArgs", unfollowed := true, recurses := true, named := ["unicode/utf8.first", "unicode/utf8.acceptRanges"], apart := false, laid := [("unicode/utf8.acceptRanges", laid_unicode_utf8_acceptRanges), ("unicode/utf8.first", laid_unicode_utf8_first)] }
def JournalArgsSaid : Prop := journalArgsRow.holds Tryd.pinned (OpenSpec.ofChange journalArgsSpec)

/-- ITS FALSE NEIGHBOUR: 'it returns false'. Refute it at one input. -/
def journalArgsWrong : ChangeSpec := { name := "journalArgs", fn := fun _ => fun
  | [d1, d2, d3, d4, d5, d6] => { results := [.lit (.bool false)], args := [d1, d2, d3, d4, d5, d6] }
  | _ => none }
def JournalArgsWrongFalsely : Prop := journalArgsRow.holds Tryd.pinned (OpenSpec.ofChange journalArgsWrong)

/-- 'gabletlaw05.JournalApart': WHATEVER THE INPUT: true; the input reads as it did. -/
def journalApartSpec : ChangeSpec := { name := "journalApart", fn := fun _ => fun
  | [d] => { results := [.lit (.bool true)], args := [d] }
  | _ => none }
def journalApartRow : OpenClaim := { program := "ytkmbcpgnafmnpaadoor", sum := "c5699e96893e2153f2840d40042a9878142ae5ff0559d214a961d12d8235f660", func := "gablet/gabletlaw05.JournalApart", spec := "journalApart", unfollowed := true, recurses := true, named := ["unicode/utf8.first", "unicode/utf8.acceptRanges"], apart := false, laid := [("unicode/utf8.acceptRanges", laid_unicode_utf8_acceptRanges), ("unicode/utf8.first", laid_unicode_utf8_first)] }
def JournalApartSaid : Prop := journalApartRow.holds Tryd.pinned (OpenSpec.ofChange journalApartSpec)

/-- ITS FALSE NEIGHBOUR: 'it returns false'. Refute it at one input. -/
def journalApartWrong : ChangeSpec := { name := "journalApart", fn := fun _ => fun
  | [d] => { results := [.lit (.bool false)], args := [d] }
  | _ => none }
def JournalApartWrongFalsely : Prop := journalApartRow.holds Tryd.pinned (OpenSpec.ofChange journalApartWrong)

/-- 'gabletlaw05.JournalPlays': WHATEVER THE INPUT: true; the input reads as it did. -/
def journalPlaysSpec : ChangeSpec := { name := "journalPlays", fn := fun _ => fun
  | [d] => { results := [.lit (.bool true)], args := [d] }
  | _ => none }
def journalPlaysRow : OpenClaim := { program := "ytkmbcpgnafmnpaadoor", sum := "c5699e96893e2153f2840d40042a9878142ae5ff0559d214a961d12d8235f660", func := "gablet/gabletlaw05.JournalPlays", spec := "journalPlays", unfollowed := true, recurses := true, named := ["unicode/utf8.first", "unicode/utf8.acceptRanges"], apart := false, laid := [("unicode/utf8.acceptRanges", laid_unicode_utf8_acceptRanges), ("unicode/utf8.first", laid_unicode_utf8_first)] }
def JournalPlaysSaid : Prop := journalPlaysRow.holds Tryd.pinned (OpenSpec.ofChange journalPlaysSpec)

/-- ITS FALSE NEIGHBOUR: 'it returns false'. Refute it at one input. -/
def journalPlaysWrong : ChangeSpec := { name := "journalPlays", fn := fun _ => fun
  | [d] => { results := [.lit (.bool false)], args := [d] }
  | _ => none }
def JournalPlaysWrongFalsely : Prop := journalPlaysRow.holds Tryd.pinned (OpenSpec.ofChange journalPlaysWrong)

/-- 'gabletlaw05.JournalCrash': WHATEVER THE INPUT: true; the input reads as it did. -/
def journalCrashSpec : ChangeSpec := { name := "journalCrash", fn := fun _ => fun
  | [d1, d2] => { results := [.lit (.bool true)], args := [d1, d2] }
  | _ => none }
def journalCrashRow : OpenClaim := { program := "ytkmbcpgnafmnpaadoor", sum := "c5699e96893e2153f2840d40042a9878142ae5ff0559d214a961d12d8235f660", func := "gablet/gabletlaw05.JournalCrash", spec := "journalCrash", unfollowed := true, recurses := true, named := ["unicode/utf8.first", "unicode/utf8.acceptRanges"], apart := false, laid := [("unicode/utf8.acceptRanges", laid_unicode_utf8_acceptRanges), ("unicode/utf8.first", laid_unicode_utf8_first)] }
def JournalCrashSaid : Prop := journalCrashRow.holds Tryd.pinned (OpenSpec.ofChange journalCrashSpec)

/-- ITS FALSE NEIGHBOUR: 'it returns false'. Refute it at one input. -/
def journalCrashWrong : ChangeSpec := { name := "journalCrash", fn := fun _ => fun
  | [d1, d2] => { results := [.lit (.bool false)], args := [d1, d2] }
  | _ => none }
def JournalCrashWrongFalsely : Prop := journalCrashRow.holds Tryd.pinned (OpenSpec.ofChange journalCrashWrong)

/- THE SECOND FORM. 'bulk': how many values and letters a reading holds, each counted each time it is reached (what is shared counts as often as it is met; a slice's spare places count too). A statement '..UptoSaid' is the law's where the arguments, and the package variables that the reading takes, are together of bulk at most 1048576: NARROWER than '..Said'. Prove '..Said' where nothing that the law and all that it calls make is longer than what came in: it says more and counts as full. Else prove '..UptoSaid'. A law counts once. -/
mutual
def uptoBulk {H : Type} : DataW H → Nat
  | .lit (.string bytes) => bytes.length + 1
  | .lit _ => 1
  | .nil => 1
  | .ptr d => uptoBulk d + 1
  | .slice elems spare => uptoBulkAll elems + uptoBulkAll spare + 1
  | .agg parts => uptoBulkAll parts + 1
  | .iface _ d => uptoBulk d + 1
  | .map entries => uptoBulkEntries entries + 1
  | .held _ => 1
def uptoBulkAll {H : Type} : List (DataW H) → Nat
  | [] => 0
  | d :: r => uptoBulk d + uptoBulkAll r
def uptoBulkEntries {H : Type} : List (Lit × DataW H) → Nat
  | [] => 0
  | x :: r => uptoBulkEntry x + uptoBulkEntries r
def uptoBulkEntry {H : Type} : Lit × DataW H → Nat
  | (.string bytes, d) => bytes.length + uptoBulk d + 1
  | (_, d) => uptoBulk d + 1
 end
def uptoSmall : (H : Type) → List (DataW H) → Bool := fun _ ds => decide (uptoBulkAll ds ≤ 1048576)
def OpenSpec.upto (s : _root_.Go.ChangeSpec) : _root_.Go.OpenSpec := { _root_.Go.OpenSpec.ofChange s with cond := some uptoSmall }

/-- 'gabletlaw08.ShadowSpoilt', WHERE WHAT IT READS IS OF BULK AT MOST 1048576: true; the input reads as it did. -/
def shadowSpoiltUptoRow : OpenClaim := { program := "ytkmbcpgnafmnpaadoor", sum := "c5699e96893e2153f2840d40042a9878142ae5ff0559d214a961d12d8235f660", func := "gablet/gabletlaw08.ShadowSpoilt", spec := "shadowSpoilt", unfollowed := true, recurses := true, named := ["unicode/utf8.first", "unicode/utf8.acceptRanges"], apart := false, laid := [("unicode/utf8.acceptRanges", laid_unicode_utf8_acceptRanges), ("unicode/utf8.first", laid_unicode_utf8_first)], narrowed := true }
def ShadowSpoiltUptoSaid : Prop := shadowSpoiltUptoRow.holds Tryd.pinned (OpenSpec.upto shadowSpoiltSpec)

/-- 'gabletlaw08.ShadowNil', WHERE WHAT IT READS IS OF BULK AT MOST 1048576: true; the input reads as it did. -/
def shadowNilUptoRow : OpenClaim := { program := "ytkmbcpgnafmnpaadoor", sum := "c5699e96893e2153f2840d40042a9878142ae5ff0559d214a961d12d8235f660", func := "gablet/gabletlaw08.ShadowNil", spec := "shadowNil", unfollowed := true, recurses := true, named := ["unicode/utf8.first", "unicode/utf8.acceptRanges"], apart := false, laid := [("unicode/utf8.acceptRanges", laid_unicode_utf8_acceptRanges), ("unicode/utf8.first", laid_unicode_utf8_first)], narrowed := true }
def ShadowNilUptoSaid : Prop := shadowNilUptoRow.holds Tryd.pinned (OpenSpec.upto shadowNilSpec)

/-- 'gabletlaw08.ShadowPlays', WHERE WHAT IT READS IS OF BULK AT MOST 1048576: true; the input reads as it did. -/
def shadowPlaysUptoRow : OpenClaim := { program := "ytkmbcpgnafmnpaadoor", sum := "c5699e96893e2153f2840d40042a9878142ae5ff0559d214a961d12d8235f660", func := "gablet/gabletlaw08.ShadowPlays", spec := "shadowPlays", unfollowed := true, recurses := true, named := ["unicode/utf8.first", "unicode/utf8.acceptRanges"], apart := false, laid := [("unicode/utf8.acceptRanges", laid_unicode_utf8_acceptRanges), ("unicode/utf8.first", laid_unicode_utf8_first)], narrowed := true }
def ShadowPlaysUptoSaid : Prop := shadowPlaysUptoRow.holds Tryd.pinned (OpenSpec.upto shadowPlaysSpec)

/-- 'gabletlaw08.ShadowKeeps', WHERE WHAT IT READS IS OF BULK AT MOST 1048576: true; the input reads as it did. -/
def shadowKeepsUptoRow : OpenClaim := { program := "ytkmbcpgnafmnpaadoor", sum := "c5699e96893e2153f2840d40042a9878142ae5ff0559d214a961d12d8235f660", func := "gablet/gabletlaw08.ShadowKeeps", spec := "shadowKeeps", unfollowed := true, recurses := true, named := ["unicode/utf8.first", "unicode/utf8.acceptRanges"], apart := false, laid := [("unicode/utf8.acceptRanges", laid_unicode_utf8_acceptRanges), ("unicode/utf8.first", laid_unicode_utf8_first)], narrowed := true }
def ShadowKeepsUptoSaid : Prop := shadowKeepsUptoRow.holds Tryd.pinned (OpenSpec.upto shadowKeepsSpec)

/-- 'gabletlaw05.JournalArgs', WHERE WHAT IT READS IS OF BULK AT MOST 1048576: true; the input reads as it did. -/
def journalArgsUptoRow : OpenClaim := { program := "ytkmbcpgnafmnpaadoor", sum := "c5699e96893e2153f2840d40042a9878142ae5ff0559d214a961d12d8235f660", func := "gablet/gabletlaw05.JournalArgs", spec := "journalArgs", unfollowed := true, recurses := true, named := ["unicode/utf8.first", "unicode/utf8.acceptRanges"], apart := false, laid := [("unicode/utf8.acceptRanges", laid_unicode_utf8_acceptRanges), ("unicode/utf8.first", laid_unicode_utf8_first)], narrowed := true }
def JournalArgsUptoSaid : Prop := journalArgsUptoRow.holds Tryd.pinned (OpenSpec.upto journalArgsSpec)

/-- 'gabletlaw05.JournalApart', WHERE WHAT IT READS IS OF BULK AT MOST 1048576: true; the input reads as it did. -/
def journalApartUptoRow : OpenClaim := { program := "ytkmbcpgnafmnpaadoor", sum := "c5699e96893e2153f2840d40042a9878142ae5ff0559d214a961d12d8235f660", func := "gablet/gabletlaw05.JournalApart", spec := "journalApart", unfollowed := true, recurses := true, named := ["unicode/utf8.first", "unicode/utf8.acceptRanges"], apart := false, laid := [("unicode/utf8.acceptRanges", laid_unicode_utf8_acceptRanges), ("unicode/utf8.first", laid_unicode_utf8_first)], narrowed := true }
def JournalApartUptoSaid : Prop := journalApartUptoRow.holds Tryd.pinned (OpenSpec.upto journalApartSpec)

/-- 'gabletlaw05.JournalPlays', WHERE WHAT IT READS IS OF BULK AT MOST 1048576: true; the input reads as it did. -/
def journalPlaysUptoRow : OpenClaim := { program := "ytkmbcpgnafmnpaadoor", sum := "c5699e96893e2153f2840d40042a9878142ae5ff0559d214a961d12d8235f660", func := "gablet/gabletlaw05.JournalPlays", spec := "journalPlays", unfollowed := true, recurses := true, named := ["unicode/utf8.first", "unicode/utf8.acceptRanges"], apart := false, laid := [("unicode/utf8.acceptRanges", laid_unicode_utf8_acceptRanges), ("unicode/utf8.first", laid_unicode_utf8_first)], narrowed := true }
def JournalPlaysUptoSaid : Prop := journalPlaysUptoRow.holds Tryd.pinned (OpenSpec.upto journalPlaysSpec)

/-- 'gabletlaw05.JournalCrash', WHERE WHAT IT READS IS OF BULK AT MOST 1048576: true; the input reads as it did. -/
def journalCrashUptoRow : OpenClaim := { program := "ytkmbcpgnafmnpaadoor", sum := "c5699e96893e2153f2840d40042a9878142ae5ff0559d214a961d12d8235f660", func := "gablet/gabletlaw05.JournalCrash", spec := "journalCrash", unfollowed := true, recurses := true, named := ["unicode/utf8.first", "unicode/utf8.acceptRanges"], apart := false, laid := [("unicode/utf8.acceptRanges", laid_unicode_utf8_acceptRanges), ("unicode/utf8.first", laid_unicode_utf8_first)], narrowed := true }
def JournalCrashUptoSaid : Prop := journalCrashUptoRow.holds Tryd.pinned (OpenSpec.upto journalCrashSpec)

end Rows
end Go.Proofs.YtkmbcpgnafmnpaaDoor
