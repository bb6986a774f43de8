/- In whichever order names are put the same are found, and stand sorted alike (IndexOrders). No condition beyond the statement's own. -/
import Derived.Test.YtncmfomhigielaaDoorHidxO
namespace Go.Proofs.YtncmfomhigielaaDoor.Pure
open Go.Proofs.YtncmfomhigielaaDoor.Q
theorem IndexOrders : pendulumlaw03_IndexOrders.Pure := trivial
end Go.Proofs.YtncmfomhigielaaDoor.Pure
