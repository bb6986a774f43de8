/- Of whatever texts that are put, one behind the other: each answer; then each is found by its name and number, and others are not (IndexModel). No condition beyond the statement's own. -/
import Derived.Test.YtncmfomhigielaaDoorHidxZ
namespace Go.Proofs.YtncmfomhigielaaDoor.Pure
open Go.Proofs.YtncmfomhigielaaDoor.Q
theorem IndexModel : pendulumlaw03_IndexModel.Pure := trivial
end Go.Proofs.YtncmfomhigielaaDoor.Pure
