/- With blanks doubled, remarks and empty lines at the lines' ends a text is the same set (ParseBlanks). No condition beyond the statement's own. -/
import Derived.Test.YtddbkcfdfgehkaaDoorHparsK
import Derived.Test.YtddbkcfdfgehkaaDoorM0
namespace Go.Proofs.YtddbkcfdfgehkaaDoor.Pure
open Go.RowKit Go.Proofs.YtddbkcfdfgehkaaDoor.Q Go.Proofs.YtddbkcfdfgehkaaDoorW.PrintWords Go.Proofs.YtddbkcfdfgehkaaDoorW.PrintLast
theorem ParseBlanks : pendulumlaw06_ParseBlanks.Pure := trivial
end Go.Proofs.YtddbkcfdfgehkaaDoor.Pure
