/-
  DERIVED. GIVEN WITH THE SEED: THE CARDS: each row of YtddbkcfdfgehkaaDoorRows.lean that lists a variable, with what it lists TIED to the program's text (the seventh form; the later family's looks); each row that meets fmt, with fmt's text TOLD by the authors' own Lean function (tested against real Go, not proved from fmt's source: count such statements apart). THE CARD IS WHAT COUNTS. Prove the row's statement (the work); the ties are given (YtddbkcfdfgehkaaDoorTie.lean); close each card by the builder's one call (the guide's Derived/Test/ToyasCard.lean, 'card_holds'). Laid BY PROGRAM, IN A SANDBOX (cutbox-door.mjs). By AI agents, Wed Nov 11 2026. No macro, syntax, notation, axiom, sorry.
-/
import Derived.Test.YtddbkcfdfgehkaaDoorRows
import GoSem.ClaimSeven
namespace Go.Proofs.YtddbkcfdfgehkaaDoor
namespace Rows

/-- THE TIED CARD OF 'pendulumlaw06.ParseRight'. -/
def parseRightCard : Claim7 := { stood := { row := parseRightRow, standIns := [], harness := (true, "4a9f26771e2a2bfa50c939df6cdd4fbaa1f3c3e6cb36fb9dcf66940ff36bc665"), looks := false }, kinds := [], alts := [], laidByText := true, laidKinds := [.data, .pinned], laidTests := true, laidLooks := .later }
def ParseRightCardSaid : Prop := Claim7.holds Tryd.pinned (.plain (OpenSpec.ofChange parseRightSpec)) parseRightCard

/-- THE TIED CARD OF 'pendulumlaw06.ParseModes'. -/
def parseModesCard : Claim7 := { stood := { row := parseModesRow, standIns := [], harness := (true, "4a9f26771e2a2bfa50c939df6cdd4fbaa1f3c3e6cb36fb9dcf66940ff36bc665"), looks := false }, kinds := [], alts := [], laidByText := true, laidKinds := [.data, .pinned], laidTests := true, laidLooks := .later }
def ParseModesCardSaid : Prop := Claim7.holds Tryd.pinned (.plain (OpenSpec.ofChange parseModesSpec)) parseModesCard

/-- THE TIED CARD OF 'pendulumlaw06.ParseBlanks'. -/
def parseBlanksCard : Claim7 := { stood := { row := parseBlanksRow, standIns := [], harness := (true, "4a9f26771e2a2bfa50c939df6cdd4fbaa1f3c3e6cb36fb9dcf66940ff36bc665"), looks := false }, kinds := [], alts := [], laidByText := true, laidKinds := [.data, .pinned], laidTests := true, laidLooks := .later }
def ParseBlanksCardSaid : Prop := Claim7.holds Tryd.pinned (.plain (OpenSpec.ofChange parseBlanksSpec)) parseBlanksCard

/-- THE TIED CARD OF 'pendulumlaw06.ParseKeeps'. -/
def parseKeepsCard : Claim7 := { stood := { row := parseKeepsRow, standIns := [], harness := (true, "4a9f26771e2a2bfa50c939df6cdd4fbaa1f3c3e6cb36fb9dcf66940ff36bc665"), looks := false }, kinds := [], alts := [], laidByText := true, laidKinds := [.data, .pinned], laidTests := true, laidLooks := .later }
def ParseKeepsCardSaid : Prop := Claim7.holds Tryd.pinned (.plain (OpenSpec.ofChange parseKeepsSpec)) parseKeepsCard

/-- THE TIED CARD OF 'pendulumlaw06.ParseTwice'. -/
def parseTwiceCard : Claim7 := { stood := { row := parseTwiceRow, standIns := [], harness := (true, "4a9f26771e2a2bfa50c939df6cdd4fbaa1f3c3e6cb36fb9dcf66940ff36bc665"), looks := false }, kinds := [], alts := [], laidByText := true, laidKinds := [.data, .pinned], laidTests := true, laidLooks := .later }
def ParseTwiceCardSaid : Prop := Claim7.holds Tryd.pinned (.plain (OpenSpec.ofChange parseTwiceSpec)) parseTwiceCard

/-- THE TIED CARD OF 'pendulumlaw06.ParseCuts'. -/
def parseCutsCard : Claim7 := { stood := { row := parseCutsRow, standIns := [], harness := (true, "4a9f26771e2a2bfa50c939df6cdd4fbaa1f3c3e6cb36fb9dcf66940ff36bc665"), looks := false }, kinds := [], alts := [], laidByText := true, laidKinds := [.data, .pinned], laidTests := true, laidLooks := .later }
def ParseCutsCardSaid : Prop := Claim7.holds Tryd.pinned (.plain (OpenSpec.ofChange parseCutsSpec)) parseCutsCard

/-- THE SECOND FORM's CARD OF 'pendulumlaw06.ParseRight'. -/
def parseRightUptoCard : Claim7 := { stood := { row := parseRightUptoRow, standIns := [], harness := (true, "4a9f26771e2a2bfa50c939df6cdd4fbaa1f3c3e6cb36fb9dcf66940ff36bc665"), looks := false }, kinds := [], alts := [], laidByText := true, laidKinds := [.data, .pinned], laidTests := true, laidLooks := .later }
def ParseRightUptoCardSaid : Prop := Claim7.holds Tryd.pinned (.plain (OpenSpec.upto parseRightSpec)) parseRightUptoCard

/-- THE SECOND FORM's CARD OF 'pendulumlaw06.ParseModes'. -/
def parseModesUptoCard : Claim7 := { stood := { row := parseModesUptoRow, standIns := [], harness := (true, "4a9f26771e2a2bfa50c939df6cdd4fbaa1f3c3e6cb36fb9dcf66940ff36bc665"), looks := false }, kinds := [], alts := [], laidByText := true, laidKinds := [.data, .pinned], laidTests := true, laidLooks := .later }
def ParseModesUptoCardSaid : Prop := Claim7.holds Tryd.pinned (.plain (OpenSpec.upto parseModesSpec)) parseModesUptoCard

/-- THE SECOND FORM's CARD OF 'pendulumlaw06.ParseBlanks'. -/
def parseBlanksUptoCard : Claim7 := { stood := { row := parseBlanksUptoRow, standIns := [], harness := (true, "4a9f26771e2a2bfa50c939df6cdd4fbaa1f3c3e6cb36fb9dcf66940ff36bc665"), looks := false }, kinds := [], alts := [], laidByText := true, laidKinds := [.data, .pinned], laidTests := true, laidLooks := .later }
def ParseBlanksUptoCardSaid : Prop := Claim7.holds Tryd.pinned (.plain (OpenSpec.upto parseBlanksSpec)) parseBlanksUptoCard

/-- THE SECOND FORM's CARD OF 'pendulumlaw06.ParseKeeps'. -/
def parseKeepsUptoCard : Claim7 := { stood := { row := parseKeepsUptoRow, standIns := [], harness := (true, "4a9f26771e2a2bfa50c939df6cdd4fbaa1f3c3e6cb36fb9dcf66940ff36bc665"), looks := false }, kinds := [], alts := [], laidByText := true, laidKinds := [.data, .pinned], laidTests := true, laidLooks := .later }
def ParseKeepsUptoCardSaid : Prop := Claim7.holds Tryd.pinned (.plain (OpenSpec.upto parseKeepsSpec)) parseKeepsUptoCard

/-- THE SECOND FORM's CARD OF 'pendulumlaw06.ParseTwice'. -/
def parseTwiceUptoCard : Claim7 := { stood := { row := parseTwiceUptoRow, standIns := [], harness := (true, "4a9f26771e2a2bfa50c939df6cdd4fbaa1f3c3e6cb36fb9dcf66940ff36bc665"), looks := false }, kinds := [], alts := [], laidByText := true, laidKinds := [.data, .pinned], laidTests := true, laidLooks := .later }
def ParseTwiceUptoCardSaid : Prop := Claim7.holds Tryd.pinned (.plain (OpenSpec.upto parseTwiceSpec)) parseTwiceUptoCard

/-- THE SECOND FORM's CARD OF 'pendulumlaw06.ParseCuts'. -/
def parseCutsUptoCard : Claim7 := { stood := { row := parseCutsUptoRow, standIns := [], harness := (true, "4a9f26771e2a2bfa50c939df6cdd4fbaa1f3c3e6cb36fb9dcf66940ff36bc665"), looks := false }, kinds := [], alts := [], laidByText := true, laidKinds := [.data, .pinned], laidTests := true, laidLooks := .later }
def ParseCutsUptoCardSaid : Prop := Claim7.holds Tryd.pinned (.plain (OpenSpec.upto parseCutsSpec)) parseCutsUptoCard
end Rows
end Go.Proofs.YtddbkcfdfgehkaaDoor
