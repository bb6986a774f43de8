/-
  DERIVED. GIVEN WITH THE SEED: THE CARDS: each row of YtjknaokhcbjbhaaDoorRows.lean that lists a variable, with what it lists TIED to the program's text (the seventh form; the later family's looks); each row that meets fmt, with fmt's text TOLD by the authors' own Lean function (tested against real Go, not proved from fmt's source: count such statements apart). THE CARD IS WHAT COUNTS. Prove the row's statement (the work); the ties are given (YtjknaokhcbjbhaaDoorTie.lean); close each card by the builder's one call (the guide's Derived/Test/ToyasCard.lean, 'card_holds'). Laid BY PROGRAM, IN A SANDBOX (cutbox-door.mjs). By AI agents, Wed Nov 11 2026. No macro, syntax, notation, axiom, sorry.
-/
import Derived.Test.YtjknaokhcbjbhaaDoorRows
import GoSem.ClaimSeven
namespace Go.Proofs.YtjknaokhcbjbhaaDoor
namespace Rows

/-- THE TIED CARD OF 'pendulumlaw20.VerdictJudges'. -/
def verdictJudgesCard : Claim7 := { stood := { row := verdictJudgesRow, standIns := [], harness := (true, "474f23a3f7dd016fb410fb118d39e3426d5b5263c61d3501fc88bfb6938dc6b3"), looks := false }, kinds := [], alts := [], laidByText := true, laidKinds := [.data, .pinned], laidTests := true, laidLooks := .later }
def VerdictJudgesCardSaid : Prop := Claim7.holds Tryd.pinned (.plain (OpenSpec.ofChange verdictJudgesSpec)) verdictJudgesCard

/-- THE TIED CARD OF 'pendulumlaw20.VerdictAlike'. -/
def verdictAlikeCard : Claim7 := { stood := { row := verdictAlikeRow, standIns := [], harness := (true, "474f23a3f7dd016fb410fb118d39e3426d5b5263c61d3501fc88bfb6938dc6b3"), looks := false }, kinds := [], alts := [], laidByText := true, laidKinds := [.data, .pinned], laidTests := true, laidLooks := .later }
def VerdictAlikeCardSaid : Prop := Claim7.holds Tryd.pinned (.plain (OpenSpec.ofChange verdictAlikeSpec)) verdictAlikeCard

/-- THE TIED CARD OF 'pendulumlaw20.VerdictKeeps'. -/
def verdictKeepsCard : Claim7 := { stood := { row := verdictKeepsRow, standIns := [], harness := (true, "474f23a3f7dd016fb410fb118d39e3426d5b5263c61d3501fc88bfb6938dc6b3"), looks := false }, kinds := [], alts := [], laidByText := true, laidKinds := [.data, .pinned], laidTests := true, laidLooks := .later }
def VerdictKeepsCardSaid : Prop := Claim7.holds Tryd.pinned (.plain (OpenSpec.ofChange verdictKeepsSpec)) verdictKeepsCard

/-- THE TIED CARD OF 'pendulumlaw20.VerdictOrder'. -/
def verdictOrderCard : Claim7 := { stood := { row := verdictOrderRow, standIns := [], harness := (true, "474f23a3f7dd016fb410fb118d39e3426d5b5263c61d3501fc88bfb6938dc6b3"), looks := false }, kinds := [], alts := [], laidByText := true, laidKinds := [.data, .pinned], laidTests := true, laidLooks := .later }
def VerdictOrderCardSaid : Prop := Claim7.holds Tryd.pinned (.plain (OpenSpec.ofChange verdictOrderSpec)) verdictOrderCard

/-- THE TIED CARD OF 'pendulumlaw20.VerdictFirm'. -/
def verdictFirmCard : Claim7 := { stood := { row := verdictFirmRow, standIns := [], harness := (true, "474f23a3f7dd016fb410fb118d39e3426d5b5263c61d3501fc88bfb6938dc6b3"), looks := false }, kinds := [], alts := [], laidByText := true, laidKinds := [.data, .pinned], laidTests := true, laidLooks := .later }
def VerdictFirmCardSaid : Prop := Claim7.holds Tryd.pinned (.plain (OpenSpec.ofChange verdictFirmSpec)) verdictFirmCard

/-- THE SECOND FORM's CARD OF 'pendulumlaw20.VerdictJudges'. -/
def verdictJudgesUptoCard : Claim7 := { stood := { row := verdictJudgesUptoRow, standIns := [], harness := (true, "474f23a3f7dd016fb410fb118d39e3426d5b5263c61d3501fc88bfb6938dc6b3"), looks := false }, kinds := [], alts := [], laidByText := true, laidKinds := [.data, .pinned], laidTests := true, laidLooks := .later }
def VerdictJudgesUptoCardSaid : Prop := Claim7.holds Tryd.pinned (.plain (OpenSpec.upto verdictJudgesSpec)) verdictJudgesUptoCard

/-- THE SECOND FORM's CARD OF 'pendulumlaw20.VerdictAlike'. -/
def verdictAlikeUptoCard : Claim7 := { stood := { row := verdictAlikeUptoRow, standIns := [], harness := (true, "474f23a3f7dd016fb410fb118d39e3426d5b5263c61d3501fc88bfb6938dc6b3"), looks := false }, kinds := [], alts := [], laidByText := true, laidKinds := [.data, .pinned], laidTests := true, laidLooks := .later }
def VerdictAlikeUptoCardSaid : Prop := Claim7.holds Tryd.pinned (.plain (OpenSpec.upto verdictAlikeSpec)) verdictAlikeUptoCard

/-- THE SECOND FORM's CARD OF 'pendulumlaw20.VerdictKeeps'. -/
def verdictKeepsUptoCard : Claim7 := { stood := { row := verdictKeepsUptoRow, standIns := [], harness := (true, "474f23a3f7dd016fb410fb118d39e3426d5b5263c61d3501fc88bfb6938dc6b3"), looks := false }, kinds := [], alts := [], laidByText := true, laidKinds := [.data, .pinned], laidTests := true, laidLooks := .later }
def VerdictKeepsUptoCardSaid : Prop := Claim7.holds Tryd.pinned (.plain (OpenSpec.upto verdictKeepsSpec)) verdictKeepsUptoCard

/-- THE SECOND FORM's CARD OF 'pendulumlaw20.VerdictOrder'. -/
def verdictOrderUptoCard : Claim7 := { stood := { row := verdictOrderUptoRow, standIns := [], harness := (true, "474f23a3f7dd016fb410fb118d39e3426d5b5263c61d3501fc88bfb6938dc6b3"), looks := false }, kinds := [], alts := [], laidByText := true, laidKinds := [.data, .pinned], laidTests := true, laidLooks := .later }
def VerdictOrderUptoCardSaid : Prop := Claim7.holds Tryd.pinned (.plain (OpenSpec.upto verdictOrderSpec)) verdictOrderUptoCard

/-- THE SECOND FORM's CARD OF 'pendulumlaw20.VerdictFirm'. -/
def verdictFirmUptoCard : Claim7 := { stood := { row := verdictFirmUptoRow, standIns := [], harness := (true, "474f23a3f7dd016fb410fb118d39e3426d5b5263c61d3501fc88bfb6938dc6b3"), looks := false }, kinds := [], alts := [], laidByText := true, laidKinds := [.data, .pinned], laidTests := true, laidLooks := .later }
def VerdictFirmUptoCardSaid : Prop := Claim7.holds Tryd.pinned (.plain (OpenSpec.upto verdictFirmSpec)) verdictFirmUptoCard
end Rows
end Go.Proofs.YtjknaokhcbjbhaaDoor
