/- Of whatever text index.Named and the reference tell alike whether it is a name, and with one more letter it is, till it is too long (IndexNames). No condition beyond the statement's own. -/
import Derived.Test.YtncmfomhigielaaDoorLidxN
import Derived.Test.YtncmfomhigielaaDoorQ0
import Derived.Test.YtncmfomhigielaaDoorQ4
import Derived.Test.YtncmfomhigielaaDoorHidxW
import Derived.Test.YtncmfomhigielaaDoorHnamed
import Derived.Test.YtncmfomhigielaaDoorLidxN
namespace Go.Proofs.YtncmfomhigielaaDoor.Pure
open Go.RowKit Go.Proofs.YtncmfomhigielaaDoor.Q Go.Proofs.YtncmfomhigielaaDoorW.PrintWords Go.Proofs.YtncmfomhigielaaDoorW.PrintLast
theorem IndexNames : pendulumlaw03_IndexNames.Pure := by
  intro a hl
  refine ⟨21, ?_⟩
  unfold pendulumlaw03_IndexNames.f pendulumlaw03_awake.f
  simp only [Option.bind_some, if_true]
  by_cases hz : (a.size : Int) > 100
  · rw [decide_eq_true hz, pendulumlaw03_IndexNames.j0, if_pos rfl]
    rfl
  · rw [decide_eq_false hz, pendulumlaw03_IndexNames.j0, if_neg Bool.false_ne_true]
    unfold index_Named.f
    rw [ref_named a 20 (Nat.le_refl _)]
    simp only [Option.bind_some, beq_self_eq_true, if_true]
    cases h : named a with
    | false => rfl
    | true =>
      rw [if_pos rfl, if_pos (by omega), named_snoc a h]
      simp
end Go.Proofs.YtncmfomhigielaaDoor.Pure
