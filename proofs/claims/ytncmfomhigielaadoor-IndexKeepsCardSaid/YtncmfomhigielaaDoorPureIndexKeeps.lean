/- What Sorted answers is new memory (IndexKeeps). No condition beyond the statement's own. -/
import Derived.Test.YtncmfomhigielaaDoorHidxK
namespace Go.Proofs.YtncmfomhigielaaDoor.Pure
open Go.Proofs.YtncmfomhigielaaDoor.Q
theorem IndexKeeps : pendulumlaw03_IndexKeeps.Pure := trivial
end Go.Proofs.YtncmfomhigielaaDoor.Pure
