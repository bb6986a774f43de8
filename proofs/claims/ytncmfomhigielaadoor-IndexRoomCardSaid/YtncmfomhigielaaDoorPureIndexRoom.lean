/- As many names as an index has room for are taken, behind that each is refused, and those that are there are found yet (IndexRoom). No condition beyond the statement's own. -/
import Derived.Test.YtncmfomhigielaaDoorHidxQ
namespace Go.Proofs.YtncmfomhigielaaDoor.Pure
open Go.Proofs.YtncmfomhigielaaDoor.Q
theorem IndexRoom : pendulumlaw03_IndexRoom.Pure := trivial
end Go.Proofs.YtncmfomhigielaaDoor.Pure
