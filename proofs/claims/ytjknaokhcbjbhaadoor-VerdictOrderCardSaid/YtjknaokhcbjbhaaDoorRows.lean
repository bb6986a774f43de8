/-
  NARROWER THAN 'FOR EVERY INPUT', by the rows' own cells (each row's printed sentence says how): VerdictJudges: laid · VerdictAlike: laid · VerdictKeeps: laid · VerdictOrder: laid · VerdictFirm: laid.
  DERIVED. THE GIVEN ROWS OF THIS SEAT. 5 by the template 'for every input the law returns true; each argument reads behind the call as it read before'; 0 by the template 'total and deterministic' (their statements: YtjknaokhcbjbhaaDoorTotals.lean).
  GIVEN WITH THE SEED: the statements are not yours to turn. If you find one false, say at which input.
  Laid BY PROGRAM, IN A SANDBOX (cutbox-rows.mjs): the forced cells as the released guide's own fill.sh prints them over the translation caa932796ded59a7… (all of the seat's roots in one cut). By AI agents, Wed Nov 11 2026. No macro, syntax, notation, axiom, sorry.
-/
import Derived.Test.YtjknaokhcbjbhaaDoorChecked
import GoSem.PinnedTables
import GoSem.Claim
import GoSem.ClaimJoined
import GoSem.ClaimMapViews
import Derived.JoinedTies
import Derived.KernelRfl
namespace Go.Proofs.YtjknaokhcbjbhaaDoor
/- THE CELL 'sum', in the pinned program and in every row, IS THE sha256 OF THE DUMP (.gsa) THAT YtjknaokhcbjbhaaDoorProg.lean LOADS. Nothing in Lean hashes anything: it is a label: what it is worth is what the hold of that sum in a sandbox is worth. -/
noncomputable def Tryd.pinned : Pinned := { name := "ytjknaokhcbjbhaadoor", sum := "caa932796ded59a76abe8d079e81a14a440cde4a0ce8997916757ecbc7e29c7e", checked := Tryd.checked }
namespace Rows
def none {H : Type} : Left H := { results := [], args := [] }

/- WHAT THE LISTED PACKAGE-LEVEL VARIABLES READ AS WHEN THE CALL BEGINS. Each datum BY PROGRAM (the guide's laid-datum.mjs) off the statement by which the dump's own 'gosem.cut.vars' lays the variable. In a bare row this is a premise. The card (YtjknaokhcbjbhaaDoorCards.lean) ties it to the program's text. -/
def laid_unicode_utf8_acceptRanges {H : Type} : DataW H := .agg [.agg [.lit (.int .u8 128), .lit (.int .u8 191)], .agg [.lit (.int .u8 160), .lit (.int .u8 191)], .agg [.lit (.int .u8 128), .lit (.int .u8 159)], .agg [.lit (.int .u8 144), .lit (.int .u8 191)], .agg [.lit (.int .u8 128), .lit (.int .u8 143)], .agg [.lit (.int .u8 0), .lit (.int .u8 0)], .agg [.lit (.int .u8 0), .lit (.int .u8 0)], .agg [.lit (.int .u8 0), .lit (.int .u8 0)], .agg [.lit (.int .u8 0), .lit (.int .u8 0)], .agg [.lit (.int .u8 0), .lit (.int .u8 0)], .agg [.lit (.int .u8 0), .lit (.int .u8 0)], .agg [.lit (.int .u8 0), .lit (.int .u8 0)], .agg [.lit (.int .u8 0), .lit (.int .u8 0)], .agg [.lit (.int .u8 0), .lit (.int .u8 0)], .agg [.lit (.int .u8 0), .lit (.int .u8 0)], .agg [.lit (.int .u8 0), .lit (.int .u8 0)]]
/-- One of Go's own tables, pinned by name: the form's constant. -/
def laid_unicode_utf8_first : DataW Unit := Go.Pinned.utf8First

/-- 'pendulumlaw20.VerdictJudges': WHATEVER THE INPUT: true; the input reads as it did. -/
def verdictJudgesSpec : ChangeSpec := { name := "verdictJudges", fn := fun _ => fun
  | [d1, d2] => { results := [.lit (.bool true)], args := [d1, d2] }
  | _ => none }
def verdictJudgesRow : OpenClaim := { program := "ytjknaokhcbjbhaadoor", sum := "caa932796ded59a76abe8d079e81a14a440cde4a0ce8997916757ecbc7e29c7e", func := "pendulum/pendulumlaw20.VerdictJudges", spec := "verdictJudges", inPlace := ["internal/bytealg.IndexByteString", "internal/bytealg.IndexString"], unfollowed := true, recurses := true, named := ["unicode/utf8.first", "unicode/utf8.acceptRanges", "internal/bytealg.MaxLen"], apart := false, laid := [("unicode/utf8.acceptRanges", laid_unicode_utf8_acceptRanges), ("unicode/utf8.first", laid_unicode_utf8_first)] }
def VerdictJudgesSaid : Prop := verdictJudgesRow.holds Tryd.pinned (OpenSpec.ofChange verdictJudgesSpec)

/-- ITS FALSE NEIGHBOUR: 'it returns false'. Refute it at one input. -/
def verdictJudgesWrong : ChangeSpec := { name := "verdictJudges", fn := fun _ => fun
  | [d1, d2] => { results := [.lit (.bool false)], args := [d1, d2] }
  | _ => none }
def VerdictJudgesWrongFalsely : Prop := verdictJudgesRow.holds Tryd.pinned (OpenSpec.ofChange verdictJudgesWrong)

/-- 'pendulumlaw20.VerdictAlike': WHATEVER THE INPUT: true; the input reads as it did. -/
def verdictAlikeSpec : ChangeSpec := { name := "verdictAlike", fn := fun _ => fun
  | [d1, d2] => { results := [.lit (.bool true)], args := [d1, d2] }
  | _ => none }
def verdictAlikeRow : OpenClaim := { program := "ytjknaokhcbjbhaadoor", sum := "caa932796ded59a76abe8d079e81a14a440cde4a0ce8997916757ecbc7e29c7e", func := "pendulum/pendulumlaw20.VerdictAlike", spec := "verdictAlike", inPlace := ["internal/bytealg.IndexByteString", "internal/bytealg.IndexString"], unfollowed := true, recurses := true, named := ["unicode/utf8.first", "unicode/utf8.acceptRanges", "internal/bytealg.MaxLen"], apart := false, laid := [("unicode/utf8.acceptRanges", laid_unicode_utf8_acceptRanges), ("unicode/utf8.first", laid_unicode_utf8_first)] }
def VerdictAlikeSaid : Prop := verdictAlikeRow.holds Tryd.pinned (OpenSpec.ofChange verdictAlikeSpec)

/-- ITS FALSE NEIGHBOUR: 'it returns false'. Refute it at one input. -/
def verdictAlikeWrong : ChangeSpec := { name := "verdictAlike", fn := fun _ => fun
  | [d1, d2] => { results := [.lit (.bool false)], args := [d1, d2] }
  | _ => none }
def VerdictAlikeWrongFalsely : Prop := verdictAlikeRow.holds Tryd.pinned (OpenSpec.ofChange verdictAlikeWrong)

/-- 'pendulumlaw20.VerdictKeeps': WHATEVER THE INPUT: true; the input reads as it did. -/
def verdictKeepsSpec : ChangeSpec := { name := "verdictKeeps", fn := fun _ => fun
  | [d1, d2] => { results := [.lit (.bool true)], args := [d1, d2] }
  | _ => none }
def verdictKeepsRow : OpenClaim := { program := "ytjknaokhcbjbhaadoor", sum := "caa932796ded59a76abe8d079e81a14a440cde4a0ce8997916757ecbc7e29c7e", func := "pendulum/pendulumlaw20.VerdictKeeps", spec := "verdictKeeps", inPlace := ["internal/bytealg.IndexByteString", "internal/bytealg.IndexString"], unfollowed := true, recurses := true, named := ["unicode/utf8.first", "unicode/utf8.acceptRanges", "internal/bytealg.MaxLen"], apart := false, laid := [("unicode/utf8.acceptRanges", laid_unicode_utf8_acceptRanges), ("unicode/utf8.first", laid_unicode_utf8_first)] }
def VerdictKeepsSaid : Prop := verdictKeepsRow.holds Tryd.pinned (OpenSpec.ofChange verdictKeepsSpec)

/-- ITS FALSE NEIGHBOUR: 'it returns false'. Refute it at one input. -/
def verdictKeepsWrong : ChangeSpec := { name := "verdictKeeps", fn := fun _ => fun
  | [d1, d2] => { results := [.lit (.bool false)], args := [d1, d2] }
  | _ => none }
def VerdictKeepsWrongFalsely : Prop := verdictKeepsRow.holds Tryd.pinned (OpenSpec.ofChange verdictKeepsWrong)

/-- 'pendulumlaw20.VerdictOrder': WHATEVER THE INPUT: true; the input reads as it did. -/
def verdictOrderSpec : ChangeSpec := { name := "verdictOrder", fn := fun _ => fun
  | [d1, d2, d3] => { results := [.lit (.bool true)], args := [d1, d2, d3] }
  | _ => none }
def verdictOrderRow : OpenClaim := { program := "ytjknaokhcbjbhaadoor", sum := "caa932796ded59a76abe8d079e81a14a440cde4a0ce8997916757ecbc7e29c7e", func := "pendulum/pendulumlaw20.VerdictOrder", spec := "verdictOrder", inPlace := ["internal/bytealg.IndexByteString", "internal/bytealg.IndexString"], unfollowed := true, recurses := true, named := ["unicode/utf8.first", "unicode/utf8.acceptRanges", "internal/bytealg.MaxLen"], apart := false, laid := [("unicode/utf8.acceptRanges", laid_unicode_utf8_acceptRanges), ("unicode/utf8.first", laid_unicode_utf8_first)] }
def VerdictOrderSaid : Prop := verdictOrderRow.holds Tryd.pinned (OpenSpec.ofChange verdictOrderSpec)

/-- ITS FALSE NEIGHBOUR: 'it returns false'. Refute it at one input. -/
def verdictOrderWrong : ChangeSpec := { name := "verdictOrder", fn := fun _ => fun
  | [d1, d2, d3] => { results := [.lit (.bool false)], args := [d1, d2, d3] }
  | _ => none }
def VerdictOrderWrongFalsely : Prop := verdictOrderRow.holds Tryd.pinned (OpenSpec.ofChange verdictOrderWrong)

/-- 'pendulumlaw20.VerdictFirm': WHATEVER THE INPUT: true; the input reads as it did. -/
def verdictFirmSpec : ChangeSpec := { name := "verdictFirm", fn := fun _ => fun
  | [d1, d2, d3, d4] => { results := [.lit (.bool true)], args := [d1, d2, d3, d4] }
  | _ => none }
def verdictFirmRow : OpenClaim := { program := "ytjknaokhcbjbhaadoor", sum := "caa932796ded59a76abe8d079e81a14a440cde4a0ce8997916757ecbc7e29c7e", func := "pendulum/pendulumlaw20.VerdictFirm", spec := "verdictFirm", inPlace := ["internal/bytealg.IndexByteString", "internal/bytealg.IndexString"], unfollowed := true, recurses := true, named := ["unicode/utf8.first", "unicode/utf8.acceptRanges", "internal/bytealg.MaxLen"], apart := false, laid := [("unicode/utf8.acceptRanges", laid_unicode_utf8_acceptRanges), ("unicode/utf8.first", laid_unicode_utf8_first)] }
def VerdictFirmSaid : Prop := verdictFirmRow.holds Tryd.pinned (OpenSpec.ofChange verdictFirmSpec)

/-- ITS FALSE NEIGHBOUR: 'it returns false'. Refute it at one input. -/
def verdictFirmWrong : ChangeSpec := { name := "verdictFirm", fn := fun _ => fun
  | [d1, d2, d3, d4] => { results := [.lit (.bool false)], args := [d1, d2, d3, d4] }
  | _ => none }
def VerdictFirmWrongFalsely : Prop := verdictFirmRow.holds Tryd.pinned (OpenSpec.ofChange verdictFirmWrong)

/- THE SECOND FORM. 'bulk': how many values and letters a reading holds, each counted each time it is reached (what is shared counts as often as it is met; a slice's spare places count too). A statement '..UptoSaid' is the law's where the arguments, and the package variables that the reading takes, are together of bulk at most 1048576: NARROWER than '..Said'. Prove '..Said' where nothing that the law and all that it calls make is longer than what came in: it says more and counts as full. Else prove '..UptoSaid'. A law counts once. -/
mutual
def uptoBulk {H : Type} : DataW H → Nat
  | .lit (.string bytes) => bytes.length + 1
  | .lit _ => 1
  | .nil => 1
  | .ptr d => uptoBulk d + 1
  | .slice elems spare => uptoBulkAll elems + uptoBulkAll spare + 1
  | .agg parts => uptoBulkAll parts + 1
  | .iface _ d => uptoBulk d + 1
  | .map entries => uptoBulkEntries entries + 1
  | .held _ => 1
def uptoBulkAll {H : Type} : List (DataW H) → Nat
  | [] => 0
  | d :: r => uptoBulk d + uptoBulkAll r
def uptoBulkEntries {H : Type} : List (Lit × DataW H) → Nat
  | [] => 0
  | x :: r => uptoBulkEntry x + uptoBulkEntries r
def uptoBulkEntry {H : Type} : Lit × DataW H → Nat
  | (.string bytes, d) => bytes.length + uptoBulk d + 1
  | (_, d) => uptoBulk d + 1
 end
def uptoSmall : (H : Type) → List (DataW H) → Bool := fun _ ds => decide (uptoBulkAll ds ≤ 1048576)
def OpenSpec.upto (s : _root_.Go.ChangeSpec) : _root_.Go.OpenSpec := { _root_.Go.OpenSpec.ofChange s with cond := some uptoSmall }

/-- 'pendulumlaw20.VerdictJudges', WHERE WHAT IT READS IS OF BULK AT MOST 1048576: true; the input reads as it did. -/
def verdictJudgesUptoRow : OpenClaim := { program := "ytjknaokhcbjbhaadoor", sum := "caa932796ded59a76abe8d079e81a14a440cde4a0ce8997916757ecbc7e29c7e", func := "pendulum/pendulumlaw20.VerdictJudges", spec := "verdictJudges", inPlace := ["internal/bytealg.IndexByteString", "internal/bytealg.IndexString"], unfollowed := true, recurses := true, named := ["unicode/utf8.first", "unicode/utf8.acceptRanges", "internal/bytealg.MaxLen"], apart := false, laid := [("unicode/utf8.acceptRanges", laid_unicode_utf8_acceptRanges), ("unicode/utf8.first", laid_unicode_utf8_first)], narrowed := true }
def VerdictJudgesUptoSaid : Prop := verdictJudgesUptoRow.holds Tryd.pinned (OpenSpec.upto verdictJudgesSpec)

/-- 'pendulumlaw20.VerdictAlike', WHERE WHAT IT READS IS OF BULK AT MOST 1048576: true; the input reads as it did. -/
def verdictAlikeUptoRow : OpenClaim := { program := "ytjknaokhcbjbhaadoor", sum := "caa932796ded59a76abe8d079e81a14a440cde4a0ce8997916757ecbc7e29c7e", func := "pendulum/pendulumlaw20.VerdictAlike", spec := "verdictAlike", inPlace := ["internal/bytealg.IndexByteString", "internal/bytealg.IndexString"], unfollowed := true, recurses := true, named := ["unicode/utf8.first", "unicode/utf8.acceptRanges", "internal/bytealg.MaxLen"], apart := false, laid := [("unicode/utf8.acceptRanges", laid_unicode_utf8_acceptRanges), ("unicode/utf8.first", laid_unicode_utf8_first)], narrowed := true }
def VerdictAlikeUptoSaid : Prop := verdictAlikeUptoRow.holds Tryd.pinned (OpenSpec.upto verdictAlikeSpec)

/-- 'pendulumlaw20.VerdictKeeps', WHERE WHAT IT READS IS OF BULK AT MOST 1048576: true; the input reads as it did. -/
def verdictKeepsUptoRow : OpenClaim := { program := "ytjknaokhcbjbhaadoor", sum := "caa932796ded59a76abe8d079e81a14a440cde4a0ce8997916757ecbc7e29c7e", func := "pendulum/pendulumlaw20.VerdictKeeps", spec := "verdictKeeps", inPlace := ["internal/bytealg.IndexByteString", "internal/bytealg.IndexString"], unfollowed := true, recurses := true, named := ["unicode/utf8.first", "unicode/utf8.acceptRanges", "internal/bytealg.MaxLen"], apart := false, laid := [("unicode/utf8.acceptRanges", laid_unicode_utf8_acceptRanges), ("unicode/utf8.first", laid_unicode_utf8_first)], narrowed := true }
def VerdictKeepsUptoSaid : Prop := verdictKeepsUptoRow.holds Tryd.pinned (OpenSpec.upto verdictKeepsSpec)

/-- 'pendulumlaw20.VerdictOrder', WHERE WHAT IT READS IS OF BULK AT MOST 1048576: true; the input reads as it did. -/
def verdictOrderUptoRow : OpenClaim := { program := "ytjknaokhcbjbhaadoor", sum := "caa932796ded59a76abe8d079e81a14a440cde4a0ce8997916757ecbc7e29c7e", func := "pendulum/pendulumlaw20.VerdictOrder", spec := "verdictOrder", inPlace := ["internal/bytealg.IndexByteString", "internal/bytealg.IndexString"], unfollowed := true, recurses := true, named := ["unicode/utf8.first", "unicode/utf8.acceptRanges", "internal/bytealg.MaxLen"], apart := false, laid := [("unicode/utf8.acceptRanges", laid_unicode_utf8_acceptRanges), ("unicode/utf8.first", laid_unicode_utf8_first)], narrowed := true }
def VerdictOrderUptoSaid : Prop := verdictOrderUptoRow.holds Tryd.pinned (OpenSpec.upto verdictOrderSpec)

/-- 'pendulumlaw20.VerdictFirm', WHERE WHAT IT READS IS OF BULK AT MOST 1048576: true; the input reads as it did. -/
def verdictFirmUptoRow : OpenClaim := { program := "ytjknaokhcbjbhaadoor", sum := "caa932796ded59a76abe8d079e81a14a440cde4a0ce8997916757ecbc7e29c7e", func := "pendulum/pendulumlaw20.VerdictFirm", spec := "verdictFirm", inPlace := ["internal/bytealg.IndexByteString", "internal/bytealg.IndexString"], unfollowed := true, recurses := true, named := ["unicode/utf8.first", "unicode/utf8.acceptRanges", "internal/bytealg.MaxLen"], apart := false, laid := [("unicode/utf8.acceptRanges", laid_unicode_utf8_acceptRanges), ("unicode/utf8.first", laid_unicode_utf8_first)], narrowed := true }
def VerdictFirmUptoSaid : Prop := verdictFirmUptoRow.holds Tryd.pinned (OpenSpec.upto verdictFirmSpec)

end Rows
end Go.Proofs.YtjknaokhcbjbhaaDoor
