/-
  DERIVED. GIVEN WITH THE SEED: THE CARDS: each row of YtadfcdpalcgghaaDoorRows.lean that lists a variable, with what it lists TIED to the program's text (the seventh form; the later family's looks); each row that meets fmt, with fmt's text TOLD by the authors' own Lean function (tested against real Go, not proved from fmt's source: count such statements apart). THE CARD IS WHAT COUNTS. Prove the row's statement (the work); the ties are given (YtadfcdpalcgghaaDoorTie.lean); close each card by the builder's one call (the guide's Derived/Test/ToyasCard.lean, 'card_holds'). Laid BY PROGRAM, IN A SANDBOX (cutbox-door.mjs). By AI agents, Wed Nov 11 2026. No macro, syntax, notation, axiom, sorry.
-/
import Derived.Test.YtadfcdpalcgghaaDoorRows
import GoSem.ClaimSeven
namespace Go.Proofs.YtadfcdpalcgghaaDoor
namespace Rows

/-- THE TIED CARD OF 'pendulumlaw07.PrintSets'. -/
def printSetsCard : Claim7 := { stood := { row := printSetsRow, standIns := [], harness := (true, "161b247f58e1f7ce574c10f4016c09b7c769a96fe98ae288e26f2f21e2a67248"), looks := false }, kinds := [], alts := [], laidByText := true, laidKinds := [.data, .data, .data, .data, .pinned], laidTests := true, laidLooks := .later }
def PrintSetsCardSaid : Prop := Claim7.holds Tryd.pinned (.plain (OpenSpec.ofChange printSetsSpec)) printSetsCard

/-- THE TIED CARD OF 'pendulumlaw07.PrintLines'. -/
def printLinesCard : Claim7 := { stood := { row := printLinesRow, standIns := [], harness := (true, "161b247f58e1f7ce574c10f4016c09b7c769a96fe98ae288e26f2f21e2a67248"), looks := false }, kinds := [], alts := [], laidByText := true, laidKinds := [.data, .data, .data, .data, .pinned], laidTests := true, laidLooks := .later }
def PrintLinesCardSaid : Prop := Claim7.holds Tryd.pinned (.plain (OpenSpec.ofChange printLinesSpec)) printLinesCard

/-- THE TIED CARD OF 'pendulumlaw07.PrintBack'. -/
def printBackCard : Claim7 := { stood := { row := printBackRow, standIns := [], harness := (true, "161b247f58e1f7ce574c10f4016c09b7c769a96fe98ae288e26f2f21e2a67248"), looks := false }, kinds := [], alts := [], laidByText := true, laidKinds := [.data, .data, .data, .data, .pinned], laidTests := true, laidLooks := .later }
def PrintBackCardSaid : Prop := Claim7.holds Tryd.pinned (.plain (OpenSpec.ofChange printBackSpec)) printBackCard

/-- THE TIED CARD OF 'pendulumlaw07.PrintRead'. -/
def printReadCard : Claim7 := { stood := { row := printReadRow, standIns := [], harness := (true, "161b247f58e1f7ce574c10f4016c09b7c769a96fe98ae288e26f2f21e2a67248"), looks := false }, kinds := [], alts := [], laidByText := true, laidKinds := [.data, .data, .data, .data, .pinned], laidTests := true, laidLooks := .later }
def PrintReadCardSaid : Prop := Claim7.holds Tryd.pinned (.plain (OpenSpec.ofChange printReadSpec)) printReadCard

/-- THE SECOND FORM's CARD OF 'pendulumlaw07.PrintSets'. -/
def printSetsUptoCard : Claim7 := { stood := { row := printSetsUptoRow, standIns := [], harness := (true, "161b247f58e1f7ce574c10f4016c09b7c769a96fe98ae288e26f2f21e2a67248"), looks := false }, kinds := [], alts := [], laidByText := true, laidKinds := [.data, .data, .data, .data, .pinned], laidTests := true, laidLooks := .later }
def PrintSetsUptoCardSaid : Prop := Claim7.holds Tryd.pinned (.plain (OpenSpec.upto printSetsSpec)) printSetsUptoCard

/-- THE SECOND FORM's CARD OF 'pendulumlaw07.PrintLines'. -/
def printLinesUptoCard : Claim7 := { stood := { row := printLinesUptoRow, standIns := [], harness := (true, "161b247f58e1f7ce574c10f4016c09b7c769a96fe98ae288e26f2f21e2a67248"), looks := false }, kinds := [], alts := [], laidByText := true, laidKinds := [.data, .data, .data, .data, .pinned], laidTests := true, laidLooks := .later }
def PrintLinesUptoCardSaid : Prop := Claim7.holds Tryd.pinned (.plain (OpenSpec.upto printLinesSpec)) printLinesUptoCard

/-- THE SECOND FORM's CARD OF 'pendulumlaw07.PrintBack'. -/
def printBackUptoCard : Claim7 := { stood := { row := printBackUptoRow, standIns := [], harness := (true, "161b247f58e1f7ce574c10f4016c09b7c769a96fe98ae288e26f2f21e2a67248"), looks := false }, kinds := [], alts := [], laidByText := true, laidKinds := [.data, .data, .data, .data, .pinned], laidTests := true, laidLooks := .later }
def PrintBackUptoCardSaid : Prop := Claim7.holds Tryd.pinned (.plain (OpenSpec.upto printBackSpec)) printBackUptoCard

/-- THE SECOND FORM's CARD OF 'pendulumlaw07.PrintRead'. -/
def printReadUptoCard : Claim7 := { stood := { row := printReadUptoRow, standIns := [], harness := (true, "161b247f58e1f7ce574c10f4016c09b7c769a96fe98ae288e26f2f21e2a67248"), looks := false }, kinds := [], alts := [], laidByText := true, laidKinds := [.data, .data, .data, .data, .pinned], laidTests := true, laidLooks := .later }
def PrintReadUptoCardSaid : Prop := Claim7.holds Tryd.pinned (.plain (OpenSpec.upto printReadSpec)) printReadUptoCard
end Rows
end Go.Proofs.YtadfcdpalcgghaaDoor
