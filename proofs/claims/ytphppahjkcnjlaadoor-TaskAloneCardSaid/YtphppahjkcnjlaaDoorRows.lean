/-
  NARROWER THAN 'FOR EVERY INPUT', by the rows' own cells (each row's printed sentence says how): TaskRight: laid · TaskOrder: laid · TaskParts: laid · TaskAlone: laid · TaskEdges: laid · TaskKeeps: laid.
  DERIVED. THE GIVEN ROWS OF THIS SEAT. 6 by the template 'for every input the law returns true; each argument reads behind the call as it read before'; 0 by the template 'total and deterministic' (their statements: YtphppahjkcnjlaaDoorTotals.lean).
  GIVEN WITH THE SEED: the statements are not yours to turn. If you find one false, say at which input.
  Laid BY PROGRAM, IN A SANDBOX (cutbox-rows.mjs): the forced cells as the released guide's own fill.sh prints them over the translation 803ebdb0d89094ee… (all of the seat's roots in one cut). By AI agents, Wed Nov 11 2026. No macro, syntax, notation, axiom, sorry.
-/
import Derived.Test.YtphppahjkcnjlaaDoorChecked
import GoSem.PinnedTables
import GoSem.Claim
import GoSem.ClaimJoined
import GoSem.ClaimMapViews
import Derived.JoinedTies
import Derived.KernelRfl
namespace Go.Proofs.YtphppahjkcnjlaaDoor
/- THE CELL 'sum', in the pinned program and in every row, IS THE sha256 OF THE DUMP (.gsa) THAT YtphppahjkcnjlaaDoorProg.lean LOADS. Nothing in Lean hashes anything: it is a label: what it is worth is what the hold of that sum in a sandbox is worth. -/
noncomputable def Tryd.pinned : Pinned := { name := "ytphppahjkcnjlaadoor", sum := "803ebdb0d89094ee2229ce8494343b437786dd2bed93f60c1d677d94cee3c462", checked := Tryd.checked }
namespace Rows
def none {H : Type} : Left H := { results := [], args := [] }

/- WHAT THE LISTED PACKAGE-LEVEL VARIABLES READ AS WHEN THE CALL BEGINS. Each datum BY PROGRAM (the guide's laid-datum.mjs) off the statement by which the dump's own 'gosem.cut.vars' lays the variable. In a bare row this is a premise. The card (YtphppahjkcnjlaaDoorCards.lean) ties it to the program's text. -/
def laid_unicode_utf8_acceptRanges {H : Type} : DataW H := .agg [.agg [.lit (.int .u8 128), .lit (.int .u8 191)], .agg [.lit (.int .u8 160), .lit (.int .u8 191)], .agg [.lit (.int .u8 128), .lit (.int .u8 159)], .agg [.lit (.int .u8 144), .lit (.int .u8 191)], .agg [.lit (.int .u8 128), .lit (.int .u8 143)], .agg [.lit (.int .u8 0), .lit (.int .u8 0)], .agg [.lit (.int .u8 0), .lit (.int .u8 0)], .agg [.lit (.int .u8 0), .lit (.int .u8 0)], .agg [.lit (.int .u8 0), .lit (.int .u8 0)], .agg [.lit (.int .u8 0), .lit (.int .u8 0)], .agg [.lit (.int .u8 0), .lit (.int .u8 0)], .agg [.lit (.int .u8 0), .lit (.int .u8 0)], .agg [.lit (.int .u8 0), .lit (.int .u8 0)], .agg [.lit (.int .u8 0), .lit (.int .u8 0)], .agg [.lit (.int .u8 0), .lit (.int .u8 0)], .agg [.lit (.int .u8 0), .lit (.int .u8 0)]]
/-- One of Go's own tables, pinned by name: the form's constant. -/
def laid_unicode_utf8_first : DataW Unit := Go.Pinned.utf8First

/-- 'pendulumlaw05.TaskRight': WHATEVER THE INPUT: true; the input reads as it did. -/
def taskRightSpec : ChangeSpec := { name := "taskRight", fn := fun _ => fun
  | [d] => { results := [.lit (.bool true)], args := [d] }
  | _ => none }
def taskRightRow : OpenClaim := { program := "ytphppahjkcnjlaadoor", sum := "803ebdb0d89094ee2229ce8494343b437786dd2bed93f60c1d677d94cee3c462", func := "pendulum/pendulumlaw05.TaskRight", spec := "taskRight", inPlace := ["internal/bytealg.IndexByteString", "internal/bytealg.IndexString"], unfollowed := true, recurses := true, named := ["unicode/utf8.first", "unicode/utf8.acceptRanges", "internal/bytealg.MaxLen"], apart := false, laid := [("unicode/utf8.acceptRanges", laid_unicode_utf8_acceptRanges), ("unicode/utf8.first", laid_unicode_utf8_first)] }
def TaskRightSaid : Prop := taskRightRow.holds Tryd.pinned (OpenSpec.ofChange taskRightSpec)

/-- ITS FALSE NEIGHBOUR: 'it returns false'. Refute it at one input. -/
def taskRightWrong : ChangeSpec := { name := "taskRight", fn := fun _ => fun
  | [d] => { results := [.lit (.bool false)], args := [d] }
  | _ => none }
def TaskRightWrongFalsely : Prop := taskRightRow.holds Tryd.pinned (OpenSpec.ofChange taskRightWrong)

/-- 'pendulumlaw05.TaskOrder': WHATEVER THE INPUT: true; the input reads as it did. -/
def taskOrderSpec : ChangeSpec := { name := "taskOrder", fn := fun _ => fun
  | [d] => { results := [.lit (.bool true)], args := [d] }
  | _ => none }
def taskOrderRow : OpenClaim := { program := "ytphppahjkcnjlaadoor", sum := "803ebdb0d89094ee2229ce8494343b437786dd2bed93f60c1d677d94cee3c462", func := "pendulum/pendulumlaw05.TaskOrder", spec := "taskOrder", inPlace := ["internal/bytealg.IndexByteString", "internal/bytealg.IndexString"], unfollowed := true, recurses := true, named := ["unicode/utf8.first", "unicode/utf8.acceptRanges", "internal/bytealg.MaxLen"], apart := false, laid := [("unicode/utf8.acceptRanges", laid_unicode_utf8_acceptRanges), ("unicode/utf8.first", laid_unicode_utf8_first)] }
def TaskOrderSaid : Prop := taskOrderRow.holds Tryd.pinned (OpenSpec.ofChange taskOrderSpec)

/-- ITS FALSE NEIGHBOUR: 'it returns false'. Refute it at one input. -/
def taskOrderWrong : ChangeSpec := { name := "taskOrder", fn := fun _ => fun
  | [d] => { results := [.lit (.bool false)], args := [d] }
  | _ => none }
def TaskOrderWrongFalsely : Prop := taskOrderRow.holds Tryd.pinned (OpenSpec.ofChange taskOrderWrong)

/-- 'pendulumlaw05.TaskParts': WHATEVER THE INPUT: true; the input reads as it did. -/
def taskPartsSpec : ChangeSpec := { name := "taskParts", fn := fun _ => fun
  | [d1, d2] => { results := [.lit (.bool true)], args := [d1, d2] }
  | _ => none }
def taskPartsRow : OpenClaim := { program := "ytphppahjkcnjlaadoor", sum := "803ebdb0d89094ee2229ce8494343b437786dd2bed93f60c1d677d94cee3c462", func := "pendulum/pendulumlaw05.TaskParts", spec := "taskParts", inPlace := ["internal/bytealg.IndexByteString", "internal/bytealg.IndexString"], unfollowed := true, recurses := true, named := ["unicode/utf8.first", "unicode/utf8.acceptRanges", "internal/bytealg.MaxLen"], apart := false, laid := [("unicode/utf8.acceptRanges", laid_unicode_utf8_acceptRanges), ("unicode/utf8.first", laid_unicode_utf8_first)] }
def TaskPartsSaid : Prop := taskPartsRow.holds Tryd.pinned (OpenSpec.ofChange taskPartsSpec)

/-- ITS FALSE NEIGHBOUR: 'it returns false'. Refute it at one input. -/
def taskPartsWrong : ChangeSpec := { name := "taskParts", fn := fun _ => fun
  | [d1, d2] => { results := [.lit (.bool false)], args := [d1, d2] }
  | _ => none }
def TaskPartsWrongFalsely : Prop := taskPartsRow.holds Tryd.pinned (OpenSpec.ofChange taskPartsWrong)

/-- 'pendulumlaw05.TaskAlone': WHATEVER THE INPUT: true; the input reads as it did. -/
def taskAloneSpec : ChangeSpec := { name := "taskAlone", fn := fun _ => fun
  | [d1, d2] => { results := [.lit (.bool true)], args := [d1, d2] }
  | _ => none }
def taskAloneRow : OpenClaim := { program := "ytphppahjkcnjlaadoor", sum := "803ebdb0d89094ee2229ce8494343b437786dd2bed93f60c1d677d94cee3c462", func := "pendulum/pendulumlaw05.TaskAlone", spec := "taskAlone", inPlace := ["internal/bytealg.IndexByteString", "internal/bytealg.IndexString"], unfollowed := true, recurses := true, named := ["unicode/utf8.first", "unicode/utf8.acceptRanges", "internal/bytealg.MaxLen"], apart := false, laid := [("unicode/utf8.acceptRanges", laid_unicode_utf8_acceptRanges), ("unicode/utf8.first", laid_unicode_utf8_first)] }
def TaskAloneSaid : Prop := taskAloneRow.holds Tryd.pinned (OpenSpec.ofChange taskAloneSpec)

/-- ITS FALSE NEIGHBOUR: 'it returns false'. Refute it at one input. -/
def taskAloneWrong : ChangeSpec := { name := "taskAlone", fn := fun _ => fun
  | [d1, d2] => { results := [.lit (.bool false)], args := [d1, d2] }
  | _ => none }
def TaskAloneWrongFalsely : Prop := taskAloneRow.holds Tryd.pinned (OpenSpec.ofChange taskAloneWrong)

/-- 'pendulumlaw05.TaskEdges': WHATEVER THE INPUT: true; the input reads as it did. -/
def taskEdgesSpec : ChangeSpec := { name := "taskEdges", fn := fun _ => fun
  | [d1, d2] => { results := [.lit (.bool true)], args := [d1, d2] }
  | _ => none }
def taskEdgesRow : OpenClaim := { program := "ytphppahjkcnjlaadoor", sum := "803ebdb0d89094ee2229ce8494343b437786dd2bed93f60c1d677d94cee3c462", func := "pendulum/pendulumlaw05.TaskEdges", spec := "taskEdges", inPlace := ["internal/bytealg.IndexByteString", "internal/bytealg.IndexString"], unfollowed := true, recurses := true, named := ["unicode/utf8.first", "unicode/utf8.acceptRanges", "internal/bytealg.MaxLen"], apart := false, laid := [("unicode/utf8.acceptRanges", laid_unicode_utf8_acceptRanges), ("unicode/utf8.first", laid_unicode_utf8_first)] }
def TaskEdgesSaid : Prop := taskEdgesRow.holds Tryd.pinned (OpenSpec.ofChange taskEdgesSpec)

/-- ITS FALSE NEIGHBOUR: 'it returns false'. Refute it at one input. -/
def taskEdgesWrong : ChangeSpec := { name := "taskEdges", fn := fun _ => fun
  | [d1, d2] => { results := [.lit (.bool false)], args := [d1, d2] }
  | _ => none }
def TaskEdgesWrongFalsely : Prop := taskEdgesRow.holds Tryd.pinned (OpenSpec.ofChange taskEdgesWrong)

/-- 'pendulumlaw05.TaskKeeps': WHATEVER THE INPUT: true; the input reads as it did. -/
def taskKeepsSpec : ChangeSpec := { name := "taskKeeps", fn := fun _ => fun
  | [d] => { results := [.lit (.bool true)], args := [d] }
  | _ => none }
def taskKeepsRow : OpenClaim := { program := "ytphppahjkcnjlaadoor", sum := "803ebdb0d89094ee2229ce8494343b437786dd2bed93f60c1d677d94cee3c462", func := "pendulum/pendulumlaw05.TaskKeeps", spec := "taskKeeps", inPlace := ["internal/bytealg.IndexByteString", "internal/bytealg.IndexString"], unfollowed := true, recurses := true, named := ["unicode/utf8.first", "unicode/utf8.acceptRanges", "internal/bytealg.MaxLen"], apart := false, laid := [("unicode/utf8.acceptRanges", laid_unicode_utf8_acceptRanges), ("unicode/utf8.first", laid_unicode_utf8_first)] }
def TaskKeepsSaid : Prop := taskKeepsRow.holds Tryd.pinned (OpenSpec.ofChange taskKeepsSpec)

/-- ITS FALSE NEIGHBOUR: 'it returns false'. Refute it at one input. -/
def taskKeepsWrong : ChangeSpec := { name := "taskKeeps", fn := fun _ => fun
  | [d] => { results := [.lit (.bool false)], args := [d] }
  | _ => none }
def TaskKeepsWrongFalsely : Prop := taskKeepsRow.holds Tryd.pinned (OpenSpec.ofChange taskKeepsWrong)

/- THE SECOND FORM. 'bulk': how many values and letters a reading holds, each counted each time it is reached (what is shared counts as often as it is met; a slice's spare places count too). A statement '..UptoSaid' is the law's where the arguments, and the package variables that the reading takes, are together of bulk at most 1048576: NARROWER than '..Said'. Prove '..Said' where nothing that the law and all that it calls make is longer than what came in: it says more and counts as full. Else prove '..UptoSaid'. A law counts once. -/
mutual
def uptoBulk {H : Type} : DataW H → Nat
  | .lit (.string bytes) => bytes.length + 1
  | .lit _ => 1
  | .nil => 1
  | .ptr d => uptoBulk d + 1
  | .slice elems spare => uptoBulkAll elems + uptoBulkAll spare + 1
  | .agg parts => uptoBulkAll parts + 1
  | .iface _ d => uptoBulk d + 1
  | .map entries => uptoBulkEntries entries + 1
  | .held _ => 1
def uptoBulkAll {H : Type} : List (DataW H) → Nat
  | [] => 0
  | d :: r => uptoBulk d + uptoBulkAll r
def uptoBulkEntries {H : Type} : List (Lit × DataW H) → Nat
  | [] => 0
  | x :: r => uptoBulkEntry x + uptoBulkEntries r
def uptoBulkEntry {H : Type} : Lit × DataW H → Nat
  | (.string bytes, d) => bytes.length + uptoBulk d + 1
  | (_, d) => uptoBulk d + 1
 end
def uptoSmall : (H : Type) → List (DataW H) → Bool := fun _ ds => decide (uptoBulkAll ds ≤ 1048576)
def OpenSpec.upto (s : _root_.Go.ChangeSpec) : _root_.Go.OpenSpec := { _root_.Go.OpenSpec.ofChange s with cond := some uptoSmall }

/-- 'pendulumlaw05.TaskRight', WHERE WHAT IT READS IS OF BULK AT MOST 1048576: true; the input reads as it did. -/
def taskRightUptoRow : OpenClaim := { program := "ytphppahjkcnjlaadoor", sum := "803ebdb0d89094ee2229ce8494343b437786dd2bed93f60c1d677d94cee3c462", func := "pendulum/pendulumlaw05.TaskRight", spec := "taskRight", inPlace := ["internal/bytealg.IndexByteString", "internal/bytealg.IndexString"], unfollowed := true, recurses := true, named := ["unicode/utf8.first", "unicode/utf8.acceptRanges", "internal/bytealg.MaxLen"], apart := false, laid := [("unicode/utf8.acceptRanges", laid_unicode_utf8_acceptRanges), ("unicode/utf8.first", laid_unicode_utf8_first)], narrowed := true }
def TaskRightUptoSaid : Prop := taskRightUptoRow.holds Tryd.pinned (OpenSpec.upto taskRightSpec)

/-- 'pendulumlaw05.TaskOrder', WHERE WHAT IT READS IS OF BULK AT MOST 1048576: true; the input reads as it did. -/
def taskOrderUptoRow : OpenClaim := { program := "ytphppahjkcnjlaadoor", sum := "803ebdb0d89094ee2229ce8494343b437786dd2bed93f60c1d677d94cee3c462", func := "pendulum/pendulumlaw05.TaskOrder", spec := "taskOrder", inPlace := ["internal/bytealg.IndexByteString", "internal/bytealg.IndexString"], unfollowed := true, recurses := true, named := ["unicode/utf8.first", "unicode/utf8.acceptRanges", "internal/bytealg.MaxLen"], apart := false, laid := [("unicode/utf8.acceptRanges", laid_unicode_utf8_acceptRanges), ("unicode/utf8.first", laid_unicode_utf8_first)], narrowed := true }
def TaskOrderUptoSaid : Prop := taskOrderUptoRow.holds Tryd.pinned (OpenSpec.upto taskOrderSpec)

/-- 'pendulumlaw05.TaskParts', WHERE WHAT IT READS IS OF BULK AT MOST 1048576: true; the input reads as it did. -/
def taskPartsUptoRow : OpenClaim := { program := "ytphppahjkcnjlaadoor", sum := "803ebdb0d89094ee2229ce8494343b437786dd2bed93f60c1d677d94cee3c462", func := "pendulum/pendulumlaw05.TaskParts", spec := "taskParts", inPlace := ["internal/bytealg.IndexByteString", "internal/bytealg.IndexString"], unfollowed := true, recurses := true, named := ["unicode/utf8.first", "unicode/utf8.acceptRanges", "internal/bytealg.MaxLen"], apart := false, laid := [("unicode/utf8.acceptRanges", laid_unicode_utf8_acceptRanges), ("unicode/utf8.first", laid_unicode_utf8_first)], narrowed := true }
def TaskPartsUptoSaid : Prop := taskPartsUptoRow.holds Tryd.pinned (OpenSpec.upto taskPartsSpec)

/-- 'pendulumlaw05.TaskAlone', WHERE WHAT IT READS IS OF BULK AT MOST 1048576: true; the input reads as it did. -/
def taskAloneUptoRow : OpenClaim := { program := "ytphppahjkcnjlaadoor", sum := "803ebdb0d89094ee2229ce8494343b437786dd2bed93f60c1d677d94cee3c462", func := "pendulum/pendulumlaw05.TaskAlone", spec := "taskAlone", inPlace := ["internal/bytealg.IndexByteString", "internal/bytealg.IndexString"], unfollowed := true, recurses := true, named := ["unicode/utf8.first", "unicode/utf8.acceptRanges", "internal/bytealg.MaxLen"], apart := false, laid := [("unicode/utf8.acceptRanges", laid_unicode_utf8_acceptRanges), ("unicode/utf8.first", laid_unicode_utf8_first)], narrowed := true }
def TaskAloneUptoSaid : Prop := taskAloneUptoRow.holds Tryd.pinned (OpenSpec.upto taskAloneSpec)

/-- 'pendulumlaw05.TaskEdges', WHERE WHAT IT READS IS OF BULK AT MOST 1048576: true; the input reads as it did. -/
def taskEdgesUptoRow : OpenClaim := { program := "ytphppahjkcnjlaadoor", sum := "803ebdb0d89094ee2229ce8494343b437786dd2bed93f60c1d677d94cee3c462", func := "pendulum/pendulumlaw05.TaskEdges", spec := "taskEdges", inPlace := ["internal/bytealg.IndexByteString", "internal/bytealg.IndexString"], unfollowed := true, recurses := true, named := ["unicode/utf8.first", "unicode/utf8.acceptRanges", "internal/bytealg.MaxLen"], apart := false, laid := [("unicode/utf8.acceptRanges", laid_unicode_utf8_acceptRanges), ("unicode/utf8.first", laid_unicode_utf8_first)], narrowed := true }
def TaskEdgesUptoSaid : Prop := taskEdgesUptoRow.holds Tryd.pinned (OpenSpec.upto taskEdgesSpec)

/-- 'pendulumlaw05.TaskKeeps', WHERE WHAT IT READS IS OF BULK AT MOST 1048576: true; the input reads as it did. -/
def taskKeepsUptoRow : OpenClaim := { program := "ytphppahjkcnjlaadoor", sum := "803ebdb0d89094ee2229ce8494343b437786dd2bed93f60c1d677d94cee3c462", func := "pendulum/pendulumlaw05.TaskKeeps", spec := "taskKeeps", inPlace := ["internal/bytealg.IndexByteString", "internal/bytealg.IndexString"], unfollowed := true, recurses := true, named := ["unicode/utf8.first", "unicode/utf8.acceptRanges", "internal/bytealg.MaxLen"], apart := false, laid := [("unicode/utf8.acceptRanges", laid_unicode_utf8_acceptRanges), ("unicode/utf8.first", laid_unicode_utf8_first)], narrowed := true }
def TaskKeepsUptoSaid : Prop := taskKeepsUptoRow.holds Tryd.pinned (OpenSpec.upto taskKeepsSpec)

end Rows
end Go.Proofs.YtphppahjkcnjlaaDoor
