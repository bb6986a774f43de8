/-
  DERIVED. GIVEN WITH THE SEED: THE CARDS: each row of YtphppahjkcnjlaaDoorRows.lean that lists a variable, with what it lists TIED to the program's text (the seventh form; the later family's looks); each row that meets fmt, with fmt's text TOLD by the authors' own Lean function (tested against real Go, not proved from fmt's source: count such statements apart). THE CARD IS WHAT COUNTS. Prove the row's statement (the work); the ties are given (YtphppahjkcnjlaaDoorTie.lean); close each card by the builder's one call (the guide's Derived/Test/ToyasCard.lean, 'card_holds'). Laid BY PROGRAM, IN A SANDBOX (cutbox-door.mjs). By AI agents, Wed Nov 11 2026. No macro, syntax, notation, axiom, sorry.
-/
import Derived.Test.YtphppahjkcnjlaaDoorRows
import GoSem.ClaimSeven
namespace Go.Proofs.YtphppahjkcnjlaaDoor
namespace Rows

/-- THE TIED CARD OF 'pendulumlaw05.TaskRight'. -/
def taskRightCard : Claim7 := { stood := { row := taskRightRow, standIns := [], harness := (true, "90cd84671ab995478508afc8a31a040d6e792d2da7ed1d5938e024f6825a4c48"), looks := false }, kinds := [], alts := [], laidByText := true, laidKinds := [.data, .pinned], laidTests := true, laidLooks := .later }
def TaskRightCardSaid : Prop := Claim7.holds Tryd.pinned (.plain (OpenSpec.ofChange taskRightSpec)) taskRightCard

/-- THE TIED CARD OF 'pendulumlaw05.TaskOrder'. -/
def taskOrderCard : Claim7 := { stood := { row := taskOrderRow, standIns := [], harness := (true, "90cd84671ab995478508afc8a31a040d6e792d2da7ed1d5938e024f6825a4c48"), looks := false }, kinds := [], alts := [], laidByText := true, laidKinds := [.data, .pinned], laidTests := true, laidLooks := .later }
def TaskOrderCardSaid : Prop := Claim7.holds Tryd.pinned (.plain (OpenSpec.ofChange taskOrderSpec)) taskOrderCard

/-- THE TIED CARD OF 'pendulumlaw05.TaskParts'. -/
def taskPartsCard : Claim7 := { stood := { row := taskPartsRow, standIns := [], harness := (true, "90cd84671ab995478508afc8a31a040d6e792d2da7ed1d5938e024f6825a4c48"), looks := false }, kinds := [], alts := [], laidByText := true, laidKinds := [.data, .pinned], laidTests := true, laidLooks := .later }
def TaskPartsCardSaid : Prop := Claim7.holds Tryd.pinned (.plain (OpenSpec.ofChange taskPartsSpec)) taskPartsCard

/-- THE TIED CARD OF 'pendulumlaw05.TaskAlone'. -/
def taskAloneCard : Claim7 := { stood := { row := taskAloneRow, standIns := [], harness := (true, "90cd84671ab995478508afc8a31a040d6e792d2da7ed1d5938e024f6825a4c48"), looks := false }, kinds := [], alts := [], laidByText := true, laidKinds := [.data, .pinned], laidTests := true, laidLooks := .later }
def TaskAloneCardSaid : Prop := Claim7.holds Tryd.pinned (.plain (OpenSpec.ofChange taskAloneSpec)) taskAloneCard

/-- THE TIED CARD OF 'pendulumlaw05.TaskEdges'. -/
def taskEdgesCard : Claim7 := { stood := { row := taskEdgesRow, standIns := [], harness := (true, "90cd84671ab995478508afc8a31a040d6e792d2da7ed1d5938e024f6825a4c48"), looks := false }, kinds := [], alts := [], laidByText := true, laidKinds := [.data, .pinned], laidTests := true, laidLooks := .later }
def TaskEdgesCardSaid : Prop := Claim7.holds Tryd.pinned (.plain (OpenSpec.ofChange taskEdgesSpec)) taskEdgesCard

/-- THE TIED CARD OF 'pendulumlaw05.TaskKeeps'. -/
def taskKeepsCard : Claim7 := { stood := { row := taskKeepsRow, standIns := [], harness := (true, "90cd84671ab995478508afc8a31a040d6e792d2da7ed1d5938e024f6825a4c48"), looks := false }, kinds := [], alts := [], laidByText := true, laidKinds := [.data, .pinned], laidTests := true, laidLooks := .later }
def TaskKeepsCardSaid : Prop := Claim7.holds Tryd.pinned (.plain (OpenSpec.ofChange taskKeepsSpec)) taskKeepsCard

/-- THE SECOND FORM's CARD OF 'pendulumlaw05.TaskRight'. -/
def taskRightUptoCard : Claim7 := { stood := { row := taskRightUptoRow, standIns := [], harness := (true, "90cd84671ab995478508afc8a31a040d6e792d2da7ed1d5938e024f6825a4c48"), looks := false }, kinds := [], alts := [], laidByText := true, laidKinds := [.data, .pinned], laidTests := true, laidLooks := .later }
def TaskRightUptoCardSaid : Prop := Claim7.holds Tryd.pinned (.plain (OpenSpec.upto taskRightSpec)) taskRightUptoCard

/-- THE SECOND FORM's CARD OF 'pendulumlaw05.TaskOrder'. -/
def taskOrderUptoCard : Claim7 := { stood := { row := taskOrderUptoRow, standIns := [], harness := (true, "90cd84671ab995478508afc8a31a040d6e792d2da7ed1d5938e024f6825a4c48"), looks := false }, kinds := [], alts := [], laidByText := true, laidKinds := [.data, .pinned], laidTests := true, laidLooks := .later }
def TaskOrderUptoCardSaid : Prop := Claim7.holds Tryd.pinned (.plain (OpenSpec.upto taskOrderSpec)) taskOrderUptoCard

/-- THE SECOND FORM's CARD OF 'pendulumlaw05.TaskParts'. -/
def taskPartsUptoCard : Claim7 := { stood := { row := taskPartsUptoRow, standIns := [], harness := (true, "90cd84671ab995478508afc8a31a040d6e792d2da7ed1d5938e024f6825a4c48"), looks := false }, kinds := [], alts := [], laidByText := true, laidKinds := [.data, .pinned], laidTests := true, laidLooks := .later }
def TaskPartsUptoCardSaid : Prop := Claim7.holds Tryd.pinned (.plain (OpenSpec.upto taskPartsSpec)) taskPartsUptoCard

/-- THE SECOND FORM's CARD OF 'pendulumlaw05.TaskAlone'. -/
def taskAloneUptoCard : Claim7 := { stood := { row := taskAloneUptoRow, standIns := [], harness := (true, "90cd84671ab995478508afc8a31a040d6e792d2da7ed1d5938e024f6825a4c48"), looks := false }, kinds := [], alts := [], laidByText := true, laidKinds := [.data, .pinned], laidTests := true, laidLooks := .later }
def TaskAloneUptoCardSaid : Prop := Claim7.holds Tryd.pinned (.plain (OpenSpec.upto taskAloneSpec)) taskAloneUptoCard

/-- THE SECOND FORM's CARD OF 'pendulumlaw05.TaskEdges'. -/
def taskEdgesUptoCard : Claim7 := { stood := { row := taskEdgesUptoRow, standIns := [], harness := (true, "90cd84671ab995478508afc8a31a040d6e792d2da7ed1d5938e024f6825a4c48"), looks := false }, kinds := [], alts := [], laidByText := true, laidKinds := [.data, .pinned], laidTests := true, laidLooks := .later }
def TaskEdgesUptoCardSaid : Prop := Claim7.holds Tryd.pinned (.plain (OpenSpec.upto taskEdgesSpec)) taskEdgesUptoCard

/-- THE SECOND FORM's CARD OF 'pendulumlaw05.TaskKeeps'. -/
def taskKeepsUptoCard : Claim7 := { stood := { row := taskKeepsUptoRow, standIns := [], harness := (true, "90cd84671ab995478508afc8a31a040d6e792d2da7ed1d5938e024f6825a4c48"), looks := false }, kinds := [], alts := [], laidByText := true, laidKinds := [.data, .pinned], laidTests := true, laidLooks := .later }
def TaskKeepsUptoCardSaid : Prop := Claim7.holds Tryd.pinned (.plain (OpenSpec.upto taskKeepsSpec)) taskKeepsUptoCard
end Rows
end Go.Proofs.YtphppahjkcnjlaaDoor
