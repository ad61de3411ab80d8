/-
  DERIVED. GIVEN WITH THE SEED: THE CARDS: each row of YtkmbcpgnafmnpaaDoorRows.lean that lists a variable, with what it lists TIED to the program's text (the seventh form; the later family's looks); each row that meets fmt, with fmt's text TOLD by the authors' own Lean function (tested against real Go, not proved from fmt's source: count such statements apart). THE CARD IS WHAT COUNTS. Prove the row's statement (the work); the ties are given (YtkmbcpgnafmnpaaDoorTie.lean); close each card by the builder's one call (the guide's Derived/Test/ToyasCard.lean, 'card_holds'). Laid BY PROGRAM, IN A SANDBOX (cutbox-door.mjs). By AI agents, Wed Nov 11 2026. No macro, syntax, notation, axiom, sorry.
-/
import Derived.Test.YtkmbcpgnafmnpaaDoorRows
import GoSem.ClaimSeven
namespace Go.Proofs.YtkmbcpgnafmnpaaDoor
namespace Rows

/-- THE TIED CARD OF 'gabletlaw08.ShadowSpoilt'. -/
def shadowSpoiltCard : Claim7 := { stood := { row := shadowSpoiltRow, standIns := [], harness := (true, "b67921ae7184606388acd75279006c9d2daf0f1e7a1b3e1980453932da62243f"), looks := false }, kinds := [], alts := [], laidByText := true, laidKinds := [.data, .pinned], laidTests := true, laidLooks := .later }
def ShadowSpoiltCardSaid : Prop := Claim7.holds Tryd.pinned (.plain (OpenSpec.ofChange shadowSpoiltSpec)) shadowSpoiltCard

/-- THE TIED CARD OF 'gabletlaw08.ShadowNil'. -/
def shadowNilCard : Claim7 := { stood := { row := shadowNilRow, standIns := [], harness := (true, "b67921ae7184606388acd75279006c9d2daf0f1e7a1b3e1980453932da62243f"), looks := false }, kinds := [], alts := [], laidByText := true, laidKinds := [.data, .pinned], laidTests := true, laidLooks := .later }
def ShadowNilCardSaid : Prop := Claim7.holds Tryd.pinned (.plain (OpenSpec.ofChange shadowNilSpec)) shadowNilCard

/-- THE TIED CARD OF 'gabletlaw08.ShadowPlays'. -/
def shadowPlaysCard : Claim7 := { stood := { row := shadowPlaysRow, standIns := [], harness := (true, "b67921ae7184606388acd75279006c9d2daf0f1e7a1b3e1980453932da62243f"), looks := false }, kinds := [], alts := [], laidByText := true, laidKinds := [.data, .pinned], laidTests := true, laidLooks := .later }
def ShadowPlaysCardSaid : Prop := Claim7.holds Tryd.pinned (.plain (OpenSpec.ofChange shadowPlaysSpec)) shadowPlaysCard

/-- THE TIED CARD OF 'gabletlaw08.ShadowKeeps'. -/
def shadowKeepsCard : Claim7 := { stood := { row := shadowKeepsRow, standIns := [], harness := (true, "b67921ae7184606388acd75279006c9d2daf0f1e7a1b3e1980453932da62243f"), looks := false }, kinds := [], alts := [], laidByText := true, laidKinds := [.data, .pinned], laidTests := true, laidLooks := .later }
def ShadowKeepsCardSaid : Prop := Claim7.holds Tryd.pinned (.plain (OpenSpec.ofChange shadowKeepsSpec)) shadowKeepsCard

/-- THE TIED CARD OF 'gabletlaw05.JournalArgs'. -/
def journalArgsCard : Claim7 := { stood := { row := journalArgsRow, standIns := [], harness := (true, "b67921ae7184606388acd75279006c9d2daf0f1e7a1b3e1980453932da62243f"), looks := false }, kinds := [], alts := [], laidByText := true, laidKinds := [.data, .pinned], laidTests := true, laidLooks := .later }
def JournalArgsCardSaid : Prop := Claim7.holds Tryd.pinned (.plain (OpenSpec.ofChange journalArgsSpec)) journalArgsCard

/-- THE TIED CARD OF 'gabletlaw05.JournalApart'. -/
def journalApartCard : Claim7 := { stood := { row := journalApartRow, standIns := [], harness := (true, "b67921ae7184606388acd75279006c9d2daf0f1e7a1b3e1980453932da62243f"), looks := false }, kinds := [], alts := [], laidByText := true, laidKinds := [.data, .pinned], laidTests := true, laidLooks := .later }
def JournalApartCardSaid : Prop := Claim7.holds Tryd.pinned (.plain (OpenSpec.ofChange journalApartSpec)) journalApartCard

/-- THE TIED CARD OF 'gabletlaw05.JournalPlays'. -/
def journalPlaysCard : Claim7 := { stood := { row := journalPlaysRow, standIns := [], harness := (true, "b67921ae7184606388acd75279006c9d2daf0f1e7a1b3e1980453932da62243f"), looks := false }, kinds := [], alts := [], laidByText := true, laidKinds := [.data, .pinned], laidTests := true, laidLooks := .later }
def JournalPlaysCardSaid : Prop := Claim7.holds Tryd.pinned (.plain (OpenSpec.ofChange journalPlaysSpec)) journalPlaysCard

/-- THE TIED CARD OF 'gabletlaw05.JournalCrash'. -/
def journalCrashCard : Claim7 := { stood := { row := journalCrashRow, standIns := [], harness := (true, "b67921ae7184606388acd75279006c9d2daf0f1e7a1b3e1980453932da62243f"), looks := false }, kinds := [], alts := [], laidByText := true, laidKinds := [.data, .pinned], laidTests := true, laidLooks := .later }
def JournalCrashCardSaid : Prop := Claim7.holds Tryd.pinned (.plain (OpenSpec.ofChange journalCrashSpec)) journalCrashCard

/-- THE SECOND FORM's CARD OF 'gabletlaw08.ShadowSpoilt'. -/
def shadowSpoiltUptoCard : Claim7 := { stood := { row := shadowSpoiltUptoRow, standIns := [], harness := (true, "b67921ae7184606388acd75279006c9d2daf0f1e7a1b3e1980453932da62243f"), looks := false }, kinds := [], alts := [], laidByText := true, laidKinds := [.data, .pinned], laidTests := true, laidLooks := .later }
def ShadowSpoiltUptoCardSaid : Prop := Claim7.holds Tryd.pinned (.plain (OpenSpec.upto shadowSpoiltSpec)) shadowSpoiltUptoCard

/-- THE SECOND FORM's CARD OF 'gabletlaw08.ShadowNil'. -/
def shadowNilUptoCard : Claim7 := { stood := { row := shadowNilUptoRow, standIns := [], harness := (true, "b67921ae7184606388acd75279006c9d2daf0f1e7a1b3e1980453932da62243f"), looks := false }, kinds := [], alts := [], laidByText := true, laidKinds := [.data, .pinned], laidTests := true, laidLooks := .later }
def ShadowNilUptoCardSaid : Prop := Claim7.holds Tryd.pinned (.plain (OpenSpec.upto shadowNilSpec)) shadowNilUptoCard

/-- THE SECOND FORM's CARD OF 'gabletlaw08.ShadowPlays'. -/
def shadowPlaysUptoCard : Claim7 := { stood := { row := shadowPlaysUptoRow, standIns := [], harness := (true, "b67921ae7184606388acd75279006c9d2daf0f1e7a1b3e1980453932da62243f"), looks := false }, kinds := [], alts := [], laidByText := true, laidKinds := [.data, .pinned], laidTests := true, laidLooks := .later }
def ShadowPlaysUptoCardSaid : Prop := Claim7.holds Tryd.pinned (.plain (OpenSpec.upto shadowPlaysSpec)) shadowPlaysUptoCard

/-- THE SECOND FORM's CARD OF 'gabletlaw08.ShadowKeeps'. -/
def shadowKeepsUptoCard : Claim7 := { stood := { row := shadowKeepsUptoRow, standIns := [], harness := (true, "b67921ae7184606388acd75279006c9d2daf0f1e7a1b3e1980453932da62243f"), looks := false }, kinds := [], alts := [], laidByText := true, laidKinds := [.data, .pinned], laidTests := true, laidLooks := .later }
def ShadowKeepsUptoCardSaid : Prop := Claim7.holds Tryd.pinned (.plain (OpenSpec.upto shadowKeepsSpec)) shadowKeepsUptoCard

/-- THE SECOND FORM's CARD OF 'gabletlaw05.JournalArgs'. -/
def journalArgsUptoCard : Claim7 := { stood := { row := journalArgsUptoRow, standIns := [], harness := (true, "b67921ae7184606388acd75279006c9d2daf0f1e7a1b3e1980453932da62243f"), looks := false }, kinds := [], alts := [], laidByText := true, laidKinds := [.data, .pinned], laidTests := true, laidLooks := .later }
def JournalArgsUptoCardSaid : Prop := Claim7.holds Tryd.pinned (.plain (OpenSpec.upto journalArgsSpec)) journalArgsUptoCard

/-- THE SECOND FORM's CARD OF 'gabletlaw05.JournalApart'. -/
def journalApartUptoCard : Claim7 := { stood := { row := journalApartUptoRow, standIns := [], harness := (true, "b67921ae7184606388acd75279006c9d2daf0f1e7a1b3e1980453932da62243f"), looks := false }, kinds := [], alts := [], laidByText := true, laidKinds := [.data, .pinned], laidTests := true, laidLooks := .later }
def JournalApartUptoCardSaid : Prop := Claim7.holds Tryd.pinned (.plain (OpenSpec.upto journalApartSpec)) journalApartUptoCard

/-- THE SECOND FORM's CARD OF 'gabletlaw05.JournalPlays'. -/
def journalPlaysUptoCard : Claim7 := { stood := { row := journalPlaysUptoRow, standIns := [], harness := (true, "b67921ae7184606388acd75279006c9d2daf0f1e7a1b3e1980453932da62243f"), looks := false }, kinds := [], alts := [], laidByText := true, laidKinds := [.data, .pinned], laidTests := true, laidLooks := .later }
def JournalPlaysUptoCardSaid : Prop := Claim7.holds Tryd.pinned (.plain (OpenSpec.upto journalPlaysSpec)) journalPlaysUptoCard

/-- THE SECOND FORM's CARD OF 'gabletlaw05.JournalCrash'. -/
def journalCrashUptoCard : Claim7 := { stood := { row := journalCrashUptoRow, standIns := [], harness := (true, "b67921ae7184606388acd75279006c9d2daf0f1e7a1b3e1980453932da62243f"), looks := false }, kinds := [], alts := [], laidByText := true, laidKinds := [.data, .pinned], laidTests := true, laidLooks := .later }
def JournalCrashUptoCardSaid : Prop := Claim7.holds Tryd.pinned (.plain (OpenSpec.upto journalCrashSpec)) journalCrashUptoCard
end Rows
end Go.Proofs.YtkmbcpgnafmnpaaDoor
