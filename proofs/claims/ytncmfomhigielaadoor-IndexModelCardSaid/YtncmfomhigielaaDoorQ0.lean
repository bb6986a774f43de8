-- Written for this claim by the session's own driver (wip/qprint.py) over the kit's printer, out of the translation. Not trusted: Lean checks it.
import Derived.Test.YtncmfomhigielaaDoorProg
import Derived.Below
import Derived.Deep.Draws
import Derived.Deep.AppendLies
import Derived.Maps.AppendAt
import Derived.OwnWalk
import Derived.Laws.BytesArg
import Derived.Laws.MakeOwn
import Derived.Laws.OwnMore
import Derived.Deep.OwnRows
import Derived.Tactics
import Derived.Lib.ConvBytes
import Derived.Laws.Slices
import Derived.WalkKit
import Derived.KernelRfl
import Derived.RowKit3
import Derived.Deep.LoopGhost
import Derived.Deep.QuietTactic
import Derived.BigQuiet
import Derived.WideLaws
import Derived.Deep.DeepCutAuto
import Derived.Deep.CutBlock
import Derived.Deep.RegionHeld3
import Derived.Laws.Rows
import Derived.Lib.AppendStr
import Derived.ArgAppend
import Derived.Laws.IdiomCopy
import Derived.OrdersHeld
import Derived.Laws.BitsLemmas
import Derived.RowKit
import Derived.Test.YtncmfomhigielaaDoorWWords
import Derived.Test.YtncmfomhigielaaDoorWLast
import Derived.Test.YtncmfomhigielaaDoorWTab
import Derived.Test.YtncmfomhigielaaDoorWFour
import Derived.Test.YtncmfomhigielaaDoorWQPut
import Derived.Test.YtncmfomhigielaaDoorWApart
import Derived.Test.YtncmfomhigielaaDoorWArr
import Derived.Test.YtncmfomhigielaaDoorWZeros
import Derived.Test.YtncmfomhigielaaDoorWFoot
import Derived.Test.YtncmfomhigielaaDoorWKept
import Derived.Test.YtncmfomhigielaaDoorWShare
import Derived.Test.YtncmfomhigielaaDoorWN
import Derived.Test.YtncmfomhigielaaDoorWFootNe
import Derived.Test.YtncmfomhigielaaDoorWAt
import Derived.Test.YtncmfomhigielaaDoorWEqStruct
import Derived.Test.YtncmfomhigielaaDoorWRepsOne
import Derived.Test.YtncmfomhigielaaDoorWInv
import Derived.Test.YtncmfomhigielaaDoorWInvWords
import Derived.Test.YtncmfomhigielaaDoorWGuard
import Derived.Test.YtncmfomhigielaaDoorWNEv
import Derived.Test.YtncmfomhigielaaDoorWMore
namespace Go.Proofs.YtncmfomhigielaaDoor.Q
open Go.RowKit Go.Proofs.YtncmfomhigielaaDoorW.PrintWords Go.Proofs.YtncmfomhigielaaDoorW.PrintLast Go.Proofs.YtncmfomhigielaaDoorW.PrintMore
attribute [local go_sem] max2_int min2_int max_two min_two max_three min_three max_four min_four   -- for this text's walks alone
set_option linter.unusedVariables false
set_option linter.unusedSimpArgs false



def errW : Option Int → Value
  | none => .nilIface
  | some c => .iface 0 (.int .i64 c)
theorem errW_none : errW none = .nilIface := rfl
theorem errW_some (c : Int) : errW (some c) = .iface 0 (.int .i64 c) := rfl

-- the values' own types

end Go.Proofs.YtncmfomhigielaaDoor.Q
