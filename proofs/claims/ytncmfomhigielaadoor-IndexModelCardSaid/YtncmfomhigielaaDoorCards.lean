/-
  DERIVED. GIVEN WITH THE SEED: THE CARDS: each row of YtncmfomhigielaaDoorRows.lean that lists a variable, with what it lists TIED to the program's text (the seventh form; the later family's looks); each row that meets fmt, with fmt's text TOLD by the authors' own Lean function (tested against real Go, not proved from fmt's source: count such statements apart). THE CARD IS WHAT COUNTS. Prove the row's statement (the work); the ties are given (YtncmfomhigielaaDoorTie.lean); close each card by the builder's one call (the guide's Derived/Test/ToyasCard.lean, 'card_holds'). Laid BY PROGRAM, IN A SANDBOX (cutbox-door.mjs). By AI agents, Wed Nov 11 2026. No macro, syntax, notation, axiom, sorry.
-/
import Derived.Test.YtncmfomhigielaaDoorRows
import GoSem.ClaimSeven
namespace Go.Proofs.YtncmfomhigielaaDoor
namespace Rows

/-- THE TIED CARD OF 'pendulumlaw03.IndexNames'. -/
def indexNamesCard : Claim7 := { stood := { row := indexNamesRow, standIns := [], harness := (true, "5fa416eb76a9bf8e4012f16b63bd5eeca4193e7c8e87e880c512fd86bf205d58"), looks := false }, kinds := [], alts := [], laidByText := true, laidKinds := [.data, .pinned], laidTests := true, laidLooks := .later }
def IndexNamesCardSaid : Prop := Claim7.holds Tryd.pinned (.plain (OpenSpec.ofChange indexNamesSpec)) indexNamesCard

/-- THE TIED CARD OF 'pendulumlaw03.IndexKeeps'. -/
def indexKeepsCard : Claim7 := { stood := { row := indexKeepsRow, standIns := [], harness := (true, "5fa416eb76a9bf8e4012f16b63bd5eeca4193e7c8e87e880c512fd86bf205d58"), looks := false }, kinds := [], alts := [], laidByText := true, laidKinds := [.data, .pinned], laidTests := true, laidLooks := .later }
def IndexKeepsCardSaid : Prop := Claim7.holds Tryd.pinned (.plain (OpenSpec.ofChange indexKeepsSpec)) indexKeepsCard

/-- THE TIED CARD OF 'pendulumlaw03.IndexOrders'. -/
def indexOrdersCard : Claim7 := { stood := { row := indexOrdersRow, standIns := [], harness := (true, "5fa416eb76a9bf8e4012f16b63bd5eeca4193e7c8e87e880c512fd86bf205d58"), looks := false }, kinds := [], alts := [], laidByText := true, laidKinds := [.data, .pinned], laidTests := true, laidLooks := .later }
def IndexOrdersCardSaid : Prop := Claim7.holds Tryd.pinned (.plain (OpenSpec.ofChange indexOrdersSpec)) indexOrdersCard

/-- THE TIED CARD OF 'pendulumlaw03.IndexRoom'. -/
def indexRoomCard : Claim7 := { stood := { row := indexRoomRow, standIns := [], harness := (true, "5fa416eb76a9bf8e4012f16b63bd5eeca4193e7c8e87e880c512fd86bf205d58"), looks := false }, kinds := [], alts := [], laidByText := true, laidKinds := [.data, .pinned], laidTests := true, laidLooks := .later }
def IndexRoomCardSaid : Prop := Claim7.holds Tryd.pinned (.plain (OpenSpec.ofChange indexRoomSpec)) indexRoomCard

/-- THE TIED CARD OF 'pendulumlaw03.IndexModel'. -/
def indexModelCard : Claim7 := { stood := { row := indexModelRow, standIns := [], harness := (true, "5fa416eb76a9bf8e4012f16b63bd5eeca4193e7c8e87e880c512fd86bf205d58"), looks := false }, kinds := [], alts := [], laidByText := true, laidKinds := [.data, .pinned], laidTests := true, laidLooks := .later }
def IndexModelCardSaid : Prop := Claim7.holds Tryd.pinned (.plain (OpenSpec.ofChange indexModelSpec)) indexModelCard

/-- THE SECOND FORM's CARD OF 'pendulumlaw03.IndexNames'. -/
def indexNamesUptoCard : Claim7 := { stood := { row := indexNamesUptoRow, standIns := [], harness := (true, "5fa416eb76a9bf8e4012f16b63bd5eeca4193e7c8e87e880c512fd86bf205d58"), looks := false }, kinds := [], alts := [], laidByText := true, laidKinds := [.data, .pinned], laidTests := true, laidLooks := .later }
def IndexNamesUptoCardSaid : Prop := Claim7.holds Tryd.pinned (.plain (OpenSpec.upto indexNamesSpec)) indexNamesUptoCard

/-- THE SECOND FORM's CARD OF 'pendulumlaw03.IndexKeeps'. -/
def indexKeepsUptoCard : Claim7 := { stood := { row := indexKeepsUptoRow, standIns := [], harness := (true, "5fa416eb76a9bf8e4012f16b63bd5eeca4193e7c8e87e880c512fd86bf205d58"), looks := false }, kinds := [], alts := [], laidByText := true, laidKinds := [.data, .pinned], laidTests := true, laidLooks := .later }
def IndexKeepsUptoCardSaid : Prop := Claim7.holds Tryd.pinned (.plain (OpenSpec.upto indexKeepsSpec)) indexKeepsUptoCard

/-- THE SECOND FORM's CARD OF 'pendulumlaw03.IndexOrders'. -/
def indexOrdersUptoCard : Claim7 := { stood := { row := indexOrdersUptoRow, standIns := [], harness := (true, "5fa416eb76a9bf8e4012f16b63bd5eeca4193e7c8e87e880c512fd86bf205d58"), looks := false }, kinds := [], alts := [], laidByText := true, laidKinds := [.data, .pinned], laidTests := true, laidLooks := .later }
def IndexOrdersUptoCardSaid : Prop := Claim7.holds Tryd.pinned (.plain (OpenSpec.upto indexOrdersSpec)) indexOrdersUptoCard

/-- THE SECOND FORM's CARD OF 'pendulumlaw03.IndexRoom'. -/
def indexRoomUptoCard : Claim7 := { stood := { row := indexRoomUptoRow, standIns := [], harness := (true, "5fa416eb76a9bf8e4012f16b63bd5eeca4193e7c8e87e880c512fd86bf205d58"), looks := false }, kinds := [], alts := [], laidByText := true, laidKinds := [.data, .pinned], laidTests := true, laidLooks := .later }
def IndexRoomUptoCardSaid : Prop := Claim7.holds Tryd.pinned (.plain (OpenSpec.upto indexRoomSpec)) indexRoomUptoCard

/-- THE SECOND FORM's CARD OF 'pendulumlaw03.IndexModel'. -/
def indexModelUptoCard : Claim7 := { stood := { row := indexModelUptoRow, standIns := [], harness := (true, "5fa416eb76a9bf8e4012f16b63bd5eeca4193e7c8e87e880c512fd86bf205d58"), looks := false }, kinds := [], alts := [], laidByText := true, laidKinds := [.data, .pinned], laidTests := true, laidLooks := .later }
def IndexModelUptoCardSaid : Prop := Claim7.holds Tryd.pinned (.plain (OpenSpec.upto indexModelSpec)) indexModelUptoCard
end Rows
end Go.Proofs.YtncmfomhigielaaDoor
