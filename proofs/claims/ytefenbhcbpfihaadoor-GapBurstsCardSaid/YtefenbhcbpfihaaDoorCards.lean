/-
  DERIVED. GIVEN WITH THE SEED: THE CARDS: each row of YtefenbhcbpfihaaDoorRows.lean that lists a variable, with what it lists TIED to the program's text (the seventh form; the later family's looks); each row that meets fmt, with fmt's text TOLD by the authors' own Lean function (tested against real Go, not proved from fmt's source: count such statements apart). THE CARD IS WHAT COUNTS. Prove the row's statement (the work); the ties are given (YtefenbhcbpfihaaDoorTie.lean); close each card by the builder's one call (the guide's Derived/Test/ToyasCard.lean, 'card_holds'). Laid BY PROGRAM, IN A SANDBOX (cutbox-door.mjs). By AI agents, Wed Nov 11 2026. No macro, syntax, notation, axiom, sorry.
-/
import Derived.Test.YtefenbhcbpfihaaDoorRows
import GoSem.ClaimSeven
namespace Go.Proofs.YtefenbhcbpfihaaDoor
namespace Rows

/-- THE TIED CARD OF 'pendulumlaw21.GapLeast'. -/
def gapLeastCard : Claim7 := { stood := { row := gapLeastRow, standIns := [], harness := (true, "7b204d228c1f45543b6c53ec1bf8e1566e621a3ed74ce7a3d5afdc6c740afa75"), looks := false }, kinds := [], alts := [], laidByText := true, laidKinds := [.data, .pinned], laidTests := true, laidLooks := .later }
def GapLeastCardSaid : Prop := Claim7.holds Tryd.pinned (.plain (OpenSpec.ofChange gapLeastSpec)) gapLeastCard

/-- THE TIED CARD OF 'pendulumlaw21.GapBursts'. -/
def gapBurstsCard : Claim7 := { stood := { row := gapBurstsRow, standIns := [], harness := (true, "7b204d228c1f45543b6c53ec1bf8e1566e621a3ed74ce7a3d5afdc6c740afa75"), looks := false }, kinds := [], alts := [], laidByText := true, laidKinds := [.data, .pinned], laidTests := true, laidLooks := .later }
def GapBurstsCardSaid : Prop := Claim7.holds Tryd.pinned (.plain (OpenSpec.ofChange gapBurstsSpec)) gapBurstsCard

/-- THE TIED CARD OF 'pendulumlaw21.GapKeeps'. -/
def gapKeepsCard : Claim7 := { stood := { row := gapKeepsRow, standIns := [], harness := (true, "7b204d228c1f45543b6c53ec1bf8e1566e621a3ed74ce7a3d5afdc6c740afa75"), looks := false }, kinds := [], alts := [], laidByText := true, laidKinds := [.data, .pinned], laidTests := true, laidLooks := .later }
def GapKeepsCardSaid : Prop := Claim7.holds Tryd.pinned (.plain (OpenSpec.ofChange gapKeepsSpec)) gapKeepsCard

/-- THE TIED CARD OF 'pendulumlaw21.GapOrder'. -/
def gapOrderCard : Claim7 := { stood := { row := gapOrderRow, standIns := [], harness := (true, "7b204d228c1f45543b6c53ec1bf8e1566e621a3ed74ce7a3d5afdc6c740afa75"), looks := false }, kinds := [], alts := [], laidByText := true, laidKinds := [.data, .pinned], laidTests := true, laidLooks := .later }
def GapOrderCardSaid : Prop := Claim7.holds Tryd.pinned (.plain (OpenSpec.ofChange gapOrderSpec)) gapOrderCard

/-- THE SECOND FORM's CARD OF 'pendulumlaw21.GapLeast'. -/
def gapLeastUptoCard : Claim7 := { stood := { row := gapLeastUptoRow, standIns := [], harness := (true, "7b204d228c1f45543b6c53ec1bf8e1566e621a3ed74ce7a3d5afdc6c740afa75"), looks := false }, kinds := [], alts := [], laidByText := true, laidKinds := [.data, .pinned], laidTests := true, laidLooks := .later }
def GapLeastUptoCardSaid : Prop := Claim7.holds Tryd.pinned (.plain (OpenSpec.upto gapLeastSpec)) gapLeastUptoCard

/-- THE SECOND FORM's CARD OF 'pendulumlaw21.GapBursts'. -/
def gapBurstsUptoCard : Claim7 := { stood := { row := gapBurstsUptoRow, standIns := [], harness := (true, "7b204d228c1f45543b6c53ec1bf8e1566e621a3ed74ce7a3d5afdc6c740afa75"), looks := false }, kinds := [], alts := [], laidByText := true, laidKinds := [.data, .pinned], laidTests := true, laidLooks := .later }
def GapBurstsUptoCardSaid : Prop := Claim7.holds Tryd.pinned (.plain (OpenSpec.upto gapBurstsSpec)) gapBurstsUptoCard

/-- THE SECOND FORM's CARD OF 'pendulumlaw21.GapKeeps'. -/
def gapKeepsUptoCard : Claim7 := { stood := { row := gapKeepsUptoRow, standIns := [], harness := (true, "7b204d228c1f45543b6c53ec1bf8e1566e621a3ed74ce7a3d5afdc6c740afa75"), looks := false }, kinds := [], alts := [], laidByText := true, laidKinds := [.data, .pinned], laidTests := true, laidLooks := .later }
def GapKeepsUptoCardSaid : Prop := Claim7.holds Tryd.pinned (.plain (OpenSpec.upto gapKeepsSpec)) gapKeepsUptoCard

/-- THE SECOND FORM's CARD OF 'pendulumlaw21.GapOrder'. -/
def gapOrderUptoCard : Claim7 := { stood := { row := gapOrderUptoRow, standIns := [], harness := (true, "7b204d228c1f45543b6c53ec1bf8e1566e621a3ed74ce7a3d5afdc6c740afa75"), looks := false }, kinds := [], alts := [], laidByText := true, laidKinds := [.data, .pinned], laidTests := true, laidLooks := .later }
def GapOrderUptoCardSaid : Prop := Claim7.holds Tryd.pinned (.plain (OpenSpec.upto gapOrderSpec)) gapOrderUptoCard
end Rows
end Go.Proofs.YtefenbhcbpfihaaDoor
