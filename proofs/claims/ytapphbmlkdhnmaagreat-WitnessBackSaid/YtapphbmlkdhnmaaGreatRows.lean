/-
  No cell of these rows narrows 'for every input' (looked for: loops, veiled, ifaces, maps, wideKeys, modest, calm, conditions, laid).
  DERIVED. THE GIVEN ROWS OF THIS SEAT. 7 by the template 'for every input the law returns true; each argument reads behind the call as it read before'; 0 by the template 'total and deterministic' (their statements: YtapphbmlkdhnmaaGreatTotals.lean).
  GIVEN WITH THE SEED: the statements are not yours to turn. If you find one false, say at which input.
  Laid BY PROGRAM, IN A SANDBOX (cutbox-rows.mjs): the forced cells as the released guide's own fill.sh prints them over the translation b8c05ac8b6ee7c4e… (all of the seat's roots in one cut). By AI agents, Wed Nov 11 2026. No macro, syntax, notation, axiom, sorry.
-/
import Derived.Test.YtapphbmlkdhnmaaGreatChecked
import GoSem.Claim
import GoSem.ClaimJoined
import GoSem.ClaimMapViews
import Derived.JoinedTies
import Derived.KernelRfl
namespace Go.Proofs.YtapphbmlkdhnmaaGreat
/- THE CELL 'sum', in the pinned program and in every row, IS THE sha256 OF THE DUMP (.gsa) THAT YtapphbmlkdhnmaaGreatProg.lean LOADS. Nothing in Lean hashes anything: it is a label: what it is worth is what the hold of that sum in a sandbox is worth. -/
noncomputable def Tryz.pinned : Pinned := { name := "ytapphbmlkdhnmaagreat", sum := "b8c05ac8b6ee7c4ee9eea062643c4a8c729ecca06e57ca03eb6076ecd46f4d5c", checked := Tryz.checked }
namespace Rows
def none {H : Type} : Left H := { results := [], args := [] }

/-- 'gabletlaw20.SettlePlays': WHATEVER THE INPUT: true; the input reads as it did. -/
def settlePlaysSpec : ChangeSpec := { name := "settlePlays", fn := fun _ => fun
  | [d1, d2, d3, d4, d5] => { results := [.lit (.bool true)], args := [d1, d2, d3, d4, d5] }
  | _ => none }
def settlePlaysRow : OpenClaim := { program := "ytapphbmlkdhnmaagreat", sum := "b8c05ac8b6ee7c4ee9eea062643c4a8c729ecca06e57ca03eb6076ecd46f4d5c", func := "gablet/gabletlaw20.SettlePlays", spec := "settlePlays", unfollowed := true, recurses := true, apart := false }
def SettlePlaysSaid : Prop := settlePlaysRow.holds Tryz.pinned (OpenSpec.ofChange settlePlaysSpec)

/-- ITS FALSE NEIGHBOUR: 'it returns false'. Refute it at one input. -/
def settlePlaysWrong : ChangeSpec := { name := "settlePlays", fn := fun _ => fun
  | [d1, d2, d3, d4, d5] => { results := [.lit (.bool false)], args := [d1, d2, d3, d4, d5] }
  | _ => none }
def SettlePlaysWrongFalsely : Prop := settlePlaysRow.holds Tryz.pinned (OpenSpec.ofChange settlePlaysWrong)

/-- 'gabletlaw20.SettleKeeps': WHATEVER THE INPUT: true; the input reads as it did. -/
def settleKeepsSpec : ChangeSpec := { name := "settleKeeps", fn := fun _ => fun
  | [d1, d2, d3, d4] => { results := [.lit (.bool true)], args := [d1, d2, d3, d4] }
  | _ => none }
def settleKeepsRow : OpenClaim := { program := "ytapphbmlkdhnmaagreat", sum := "b8c05ac8b6ee7c4ee9eea062643c4a8c729ecca06e57ca03eb6076ecd46f4d5c", func := "gablet/gabletlaw20.SettleKeeps", spec := "settleKeeps", unfollowed := true, recurses := true, apart := false }
def SettleKeepsSaid : Prop := settleKeepsRow.holds Tryz.pinned (OpenSpec.ofChange settleKeepsSpec)

/-- ITS FALSE NEIGHBOUR: 'it returns false'. Refute it at one input. -/
def settleKeepsWrong : ChangeSpec := { name := "settleKeeps", fn := fun _ => fun
  | [d1, d2, d3, d4] => { results := [.lit (.bool false)], args := [d1, d2, d3, d4] }
  | _ => none }
def SettleKeepsWrongFalsely : Prop := settleKeepsRow.holds Tryz.pinned (OpenSpec.ofChange settleKeepsWrong)

/-- 'gabletlaw20.SettleTurned': WHATEVER THE INPUT: true; the input reads as it did. -/
def settleTurnedSpec : ChangeSpec := { name := "settleTurned", fn := fun _ => fun
  | [d1, d2, d3, d4] => { results := [.lit (.bool true)], args := [d1, d2, d3, d4] }
  | _ => none }
def settleTurnedRow : OpenClaim := { program := "ytapphbmlkdhnmaagreat", sum := "b8c05ac8b6ee7c4ee9eea062643c4a8c729ecca06e57ca03eb6076ecd46f4d5c", func := "gablet/gabletlaw20.SettleTurned", spec := "settleTurned", unfollowed := true, recurses := true, apart := false }
def SettleTurnedSaid : Prop := settleTurnedRow.holds Tryz.pinned (OpenSpec.ofChange settleTurnedSpec)

/-- ITS FALSE NEIGHBOUR: 'it returns false'. Refute it at one input. -/
def settleTurnedWrong : ChangeSpec := { name := "settleTurned", fn := fun _ => fun
  | [d1, d2, d3, d4] => { results := [.lit (.bool false)], args := [d1, d2, d3, d4] }
  | _ => none }
def SettleTurnedWrongFalsely : Prop := settleTurnedRow.holds Tryz.pinned (OpenSpec.ofChange settleTurnedWrong)

/-- 'gabletlaw33.WitnessBack': WHATEVER THE INPUT: true; the input reads as it did. -/
def witnessBackSpec : ChangeSpec := { name := "witnessBack", fn := fun _ => fun
  | [d1, d2, d3, d4, d5, d6] => { results := [.lit (.bool true)], args := [d1, d2, d3, d4, d5, d6] }
  | _ => none }
def witnessBackRow : OpenClaim := { program := "ytapphbmlkdhnmaagreat", sum := "b8c05ac8b6ee7c4ee9eea062643c4a8c729ecca06e57ca03eb6076ecd46f4d5c", func := "gablet/gabletlaw33.WitnessBack", spec := "witnessBack", unfollowed := true, recurses := true, apart := false }
def WitnessBackSaid : Prop := witnessBackRow.holds Tryz.pinned (OpenSpec.ofChange witnessBackSpec)

/-- ITS FALSE NEIGHBOUR: 'it returns false'. Refute it at one input. -/
def witnessBackWrong : ChangeSpec := { name := "witnessBack", fn := fun _ => fun
  | [d1, d2, d3, d4, d5, d6] => { results := [.lit (.bool false)], args := [d1, d2, d3, d4, d5, d6] }
  | _ => none }
def WitnessBackWrongFalsely : Prop := witnessBackRow.holds Tryz.pinned (OpenSpec.ofChange witnessBackWrong)

/-- 'gabletlaw33.WitnessPlays': WHATEVER THE INPUT: true; the input reads as it did. -/
def witnessPlaysSpec : ChangeSpec := { name := "witnessPlays", fn := fun _ => fun
  | [d1, d2, d3, d4] => { results := [.lit (.bool true)], args := [d1, d2, d3, d4] }
  | _ => none }
def witnessPlaysRow : OpenClaim := { program := "ytapphbmlkdhnmaagreat", sum := "b8c05ac8b6ee7c4ee9eea062643c4a8c729ecca06e57ca03eb6076ecd46f4d5c", func := "gablet/gabletlaw33.WitnessPlays", spec := "witnessPlays", unfollowed := true, recurses := true, apart := false }
def WitnessPlaysSaid : Prop := witnessPlaysRow.holds Tryz.pinned (OpenSpec.ofChange witnessPlaysSpec)

/-- ITS FALSE NEIGHBOUR: 'it returns false'. Refute it at one input. -/
def witnessPlaysWrong : ChangeSpec := { name := "witnessPlays", fn := fun _ => fun
  | [d1, d2, d3, d4] => { results := [.lit (.bool false)], args := [d1, d2, d3, d4] }
  | _ => none }
def WitnessPlaysWrongFalsely : Prop := witnessPlaysRow.holds Tryz.pinned (OpenSpec.ofChange witnessPlaysWrong)

/-- 'gabletlaw33.WitnessTurned': WHATEVER THE INPUT: true; the input reads as it did. -/
def witnessTurnedSpec : ChangeSpec := { name := "witnessTurned", fn := fun _ => fun
  | [d1, d2, d3, d4, d5] => { results := [.lit (.bool true)], args := [d1, d2, d3, d4, d5] }
  | _ => none }
def witnessTurnedRow : OpenClaim := { program := "ytapphbmlkdhnmaagreat", sum := "b8c05ac8b6ee7c4ee9eea062643c4a8c729ecca06e57ca03eb6076ecd46f4d5c", func := "gablet/gabletlaw33.WitnessTurned", spec := "witnessTurned", unfollowed := true, recurses := true, apart := false }
def WitnessTurnedSaid : Prop := witnessTurnedRow.holds Tryz.pinned (OpenSpec.ofChange witnessTurnedSpec)

/-- ITS FALSE NEIGHBOUR: 'it returns false'. Refute it at one input. -/
def witnessTurnedWrong : ChangeSpec := { name := "witnessTurned", fn := fun _ => fun
  | [d1, d2, d3, d4, d5] => { results := [.lit (.bool false)], args := [d1, d2, d3, d4, d5] }
  | _ => none }
def WitnessTurnedWrongFalsely : Prop := witnessTurnedRow.holds Tryz.pinned (OpenSpec.ofChange witnessTurnedWrong)

/-- 'gabletlaw33.WitnessBest': WHATEVER THE INPUT: true; the input reads as it did. -/
def witnessBestSpec : ChangeSpec := { name := "witnessBest", fn := fun _ => fun
  | [d1, d2, d3, d4] => { results := [.lit (.bool true)], args := [d1, d2, d3, d4] }
  | _ => none }
def witnessBestRow : OpenClaim := { program := "ytapphbmlkdhnmaagreat", sum := "b8c05ac8b6ee7c4ee9eea062643c4a8c729ecca06e57ca03eb6076ecd46f4d5c", func := "gablet/gabletlaw33.WitnessBest", spec := "witnessBest", unfollowed := true, recurses := true, apart := false }
def WitnessBestSaid : Prop := witnessBestRow.holds Tryz.pinned (OpenSpec.ofChange witnessBestSpec)

/-- ITS FALSE NEIGHBOUR: 'it returns false'. Refute it at one input. -/
def witnessBestWrong : ChangeSpec := { name := "witnessBest", fn := fun _ => fun
  | [d1, d2, d3, d4] => { results := [.lit (.bool false)], args := [d1, d2, d3, d4] }
  | _ => none }
def WitnessBestWrongFalsely : Prop := witnessBestRow.holds Tryz.pinned (OpenSpec.ofChange witnessBestWrong)

/- THE SECOND FORM. 'bulk': how many values and letters a reading holds, each counted each time it is reached (what is shared counts as often as it is met; a slice's spare places count too). A statement '..UptoSaid' is the law's where the arguments, and the package variables that the reading takes, are together of bulk at most 1048576: NARROWER than '..Said'. Prove '..Said' where nothing that the law and all that it calls make is longer than what came in: it says more and counts as full. Else prove '..UptoSaid'. A law counts once. -/
mutual
def uptoBulk {H : Type} : DataW H → Nat
  | .lit (.string bytes) => bytes.length + 1
  | .lit _ => 1
  | .nil => 1
  | .ptr d => uptoBulk d + 1
  | .slice elems spare => uptoBulkAll elems + uptoBulkAll spare + 1
  | .agg parts => uptoBulkAll parts + 1
  | .iface _ d => uptoBulk d + 1
  | .map entries => uptoBulkEntries entries + 1
  | .held _ => 1
def uptoBulkAll {H : Type} : List (DataW H) → Nat
  | [] => 0
  | d :: r => uptoBulk d + uptoBulkAll r
def uptoBulkEntries {H : Type} : List (Lit × DataW H) → Nat
  | [] => 0
  | x :: r => uptoBulkEntry x + uptoBulkEntries r
def uptoBulkEntry {H : Type} : Lit × DataW H → Nat
  | (.string bytes, d) => bytes.length + uptoBulk d + 1
  | (_, d) => uptoBulk d + 1
 end
def uptoSmall : (H : Type) → List (DataW H) → Bool := fun _ ds => decide (uptoBulkAll ds ≤ 1048576)
def OpenSpec.upto (s : _root_.Go.ChangeSpec) : _root_.Go.OpenSpec := { _root_.Go.OpenSpec.ofChange s with cond := some uptoSmall }

/-- 'gabletlaw20.SettlePlays', WHERE WHAT IT READS IS OF BULK AT MOST 1048576: true; the input reads as it did. -/
def settlePlaysUptoRow : OpenClaim := { program := "ytapphbmlkdhnmaagreat", sum := "b8c05ac8b6ee7c4ee9eea062643c4a8c729ecca06e57ca03eb6076ecd46f4d5c", func := "gablet/gabletlaw20.SettlePlays", spec := "settlePlays", unfollowed := true, recurses := true, apart := false, narrowed := true }
def SettlePlaysUptoSaid : Prop := settlePlaysUptoRow.holds Tryz.pinned (OpenSpec.upto settlePlaysSpec)

/-- 'gabletlaw20.SettleKeeps', WHERE WHAT IT READS IS OF BULK AT MOST 1048576: true; the input reads as it did. -/
def settleKeepsUptoRow : OpenClaim := { program := "ytapphbmlkdhnmaagreat", sum := "b8c05ac8b6ee7c4ee9eea062643c4a8c729ecca06e57ca03eb6076ecd46f4d5c", func := "gablet/gabletlaw20.SettleKeeps", spec := "settleKeeps", unfollowed := true, recurses := true, apart := false, narrowed := true }
def SettleKeepsUptoSaid : Prop := settleKeepsUptoRow.holds Tryz.pinned (OpenSpec.upto settleKeepsSpec)

/-- 'gabletlaw20.SettleTurned', WHERE WHAT IT READS IS OF BULK AT MOST 1048576: true; the input reads as it did. -/
def settleTurnedUptoRow : OpenClaim := { program := "ytapphbmlkdhnmaagreat", sum := "b8c05ac8b6ee7c4ee9eea062643c4a8c729ecca06e57ca03eb6076ecd46f4d5c", func := "gablet/gabletlaw20.SettleTurned", spec := "settleTurned", unfollowed := true, recurses := true, apart := false, narrowed := true }
def SettleTurnedUptoSaid : Prop := settleTurnedUptoRow.holds Tryz.pinned (OpenSpec.upto settleTurnedSpec)

/-- 'gabletlaw33.WitnessBack', WHERE WHAT IT READS IS OF BULK AT MOST 1048576: true; the input reads as it did. -/
def witnessBackUptoRow : OpenClaim := { program := "ytapphbmlkdhnmaagreat", sum := "b8c05ac8b6ee7c4ee9eea062643c4a8c729ecca06e57ca03eb6076ecd46f4d5c", func := "gablet/gabletlaw33.WitnessBack", spec := "witnessBack", unfollowed := true, recurses := true, apart := false, narrowed := true }
def WitnessBackUptoSaid : Prop := witnessBackUptoRow.holds Tryz.pinned (OpenSpec.upto witnessBackSpec)

/-- 'gabletlaw33.WitnessPlays', WHERE WHAT IT READS IS OF BULK AT MOST 1048576: true; the input reads as it did. -/
def witnessPlaysUptoRow : OpenClaim := { program := "ytapphbmlkdhnmaagreat", sum := "b8c05ac8b6ee7c4ee9eea062643c4a8c729ecca06e57ca03eb6076ecd46f4d5c", func := "gablet/gabletlaw33.WitnessPlays", spec := "witnessPlays", unfollowed := true, recurses := true, apart := false, narrowed := true }
def WitnessPlaysUptoSaid : Prop := witnessPlaysUptoRow.holds Tryz.pinned (OpenSpec.upto witnessPlaysSpec)

/-- 'gabletlaw33.WitnessTurned', WHERE WHAT IT READS IS OF BULK AT MOST 1048576: true; the input reads as it did. -/
def witnessTurnedUptoRow : OpenClaim := { program := "ytapphbmlkdhnmaagreat", sum := "b8c05ac8b6ee7c4ee9eea062643c4a8c729ecca06e57ca03eb6076ecd46f4d5c", func := "gablet/gabletlaw33.WitnessTurned", spec := "witnessTurned", unfollowed := true, recurses := true, apart := false, narrowed := true }
def WitnessTurnedUptoSaid : Prop := witnessTurnedUptoRow.holds Tryz.pinned (OpenSpec.upto witnessTurnedSpec)

/-- 'gabletlaw33.WitnessBest', WHERE WHAT IT READS IS OF BULK AT MOST 1048576: true; the input reads as it did. -/
def witnessBestUptoRow : OpenClaim := { program := "ytapphbmlkdhnmaagreat", sum := "b8c05ac8b6ee7c4ee9eea062643c4a8c729ecca06e57ca03eb6076ecd46f4d5c", func := "gablet/gabletlaw33.WitnessBest", spec := "witnessBest", unfollowed := true, recurses := true, apart := false, narrowed := true }
def WitnessBestUptoSaid : Prop := witnessBestUptoRow.holds Tryz.pinned (OpenSpec.upto witnessBestSpec)

end Rows
end Go.Proofs.YtapphbmlkdhnmaaGreat
