-- task.Why, in the printer's own form.
-- HAND pendulum/task.Why rounds=0 making=1
-- NEEDS pendulum/task.in pendulum/task.timed pendulum/task.moded pendulum/task.firm pendulum/index.Named
import Derived.Test.YtphppahjkcnjlaaDoorQ0
import Derived.Test.YtphppahjkcnjlaaDoorHtaskC
import Derived.Test.YtphppahjkcnjlaaDoorLtask
import Derived.Test.YtphppahjkcnjlaaDoorHtaskC
namespace Go.Proofs.YtphppahjkcnjlaaDoor.Q
open Go.RowKit Go.Proofs.YtphppahjkcnjlaaDoorW.PrintWords Go.Proofs.YtphppahjkcnjlaaDoorW.PrintLast Go.Proofs.YtphppahjkcnjlaaDoorW.PrintMore
attribute [local go_sem] max2_int min2_int max_two min_two max_three min_three max_four min_four   -- for this text's walks alone
set_option linter.unusedVariables false
set_option linter.unusedSimpArgs false

def task_Why.f (b : Int) (ts : List TK) : Option (Int × Int) := some (whyS b ts)
theorem task_Why.calls (a0_0 : Int) (A0_1 : Option Addr) (c0_1 : Nat) (l0_1 : List TK) (r1 : Int) (r2 : Int) (w : World) (hr0_1 : Kd.C k32 w A0_1 l0_1.length l0_1) (hc0_1 : l0_1.length ≤ c0_1) (h : task_Why.f a0_0 l0_1 = some (r1, r2)) :
    Calls Tryd.prog 11 #[.agg #[.int .i64 a0_0, .slice A0_1 l0_1.length c0_1]] w fun e w' => e = .returned (.tuple #[.int .i64 r1, .int .i64 r2]) ∧ Below w.heap.size w w' := by
  have h2 := Option.some.inj h
  have e1 : (whyS a0_0 l0_1).1 = r1 := by rw [h2]
  have e2 : (whyS a0_0 l0_1).2 = r2 := by rw [h2]
  rw [← e1, ← e2]
  exact why_ask a0_0 A0_1 c0_1 l0_1 w hr0_1 hc0_1
end Go.Proofs.YtphppahjkcnjlaaDoor.Q
