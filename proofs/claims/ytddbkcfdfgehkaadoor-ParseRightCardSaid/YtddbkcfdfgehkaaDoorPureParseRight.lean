/- Of whatever bytes parse.Set tells what the reference, reading line by line, tells; and what is told without an error is a right set (ParseRight). No condition beyond the statement's own. -/
import Derived.Test.YtddbkcfdfgehkaaDoorHparsH
import Derived.Test.YtddbkcfdfgehkaaDoorHrefS
import Derived.Test.YtddbkcfdfgehkaaDoorM14
import Derived.Test.YtddbkcfdfgehkaaDoorLsetS
import Derived.Test.YtddbkcfdfgehkaaDoorM0
import Derived.Test.YtddbkcfdfgehkaaDoorQ18
import Derived.Test.YtddbkcfdfgehkaaDoorHparsF
import Derived.Test.YtddbkcfdfgehkaaDoorM12
namespace Go.Proofs.YtddbkcfdfgehkaaDoor.Pure
open Go.RowKit Go.Proofs.YtddbkcfdfgehkaaDoor.Q Go.Proofs.YtddbkcfdfgehkaaDoorW.PrintWords Go.Proofs.YtddbkcfdfgehkaaDoorW.PrintLast
theorem few_right (l : List Int) : (parseF l).2.1.length ≤ 16 := by
 by_cases he : (parseF l).2.2.1 = 0
 ·exact ((rightS_iff _ _).1 (parse_right l he)).n1
 ·rw [(parse_place l he).1]; simp
theorem ParseRight : pendulumlaw06_ParseRight.Pure := by
 intro l hl hl2 hw
 have hok := ok_of_wf hw
 refine ⟨40, ?_⟩
 unfold pendulumlaw06_ParseRight.f pendulumlaw06_awake.f
 simp only [Option.bind_some, if_true]
 by_cases hlen : (l.length : Int) > 5000
 ·rw [decide_eq_true hlen, pendulumlaw06_ParseRight.j0, if_pos rfl]
  rfl
 ·rw [decide_eq_false hlen, pendulumlaw06_ParseRight.j0, if_neg Bool.false_ne_true]
  have hs : parse_Set.f l = some (parseF l) := by unfold parse_Set.f; rw [if_pos ⟨hok, by omega⟩]
  have hr : pendulumref06_Set.f l = some (parseF l) := by unfold pendulumref06_Set.f; rw [if_pos ⟨hok, by omega⟩]
  have hf := few_right l
  have hsm := same_eq (parseF l).1 (parseF l).2.1 (parseF l).1 (parseF l).2.1 (by omega) (by omega) 39 (by omega)
  rw [sameB_self] at hsm
  rw [hs, hr]
  simp only [Option.bind_some]
  rw [hsm, if_neg (by simp)]
  simp only [Option.bind_some, if_true]
  by_cases he : (parseF l).2.2.1 = 0
  ·rw [if_pos he, right_eq, parse_right _ he]
   rfl
  ·rw [if_neg he]
end Go.Proofs.YtddbkcfdfgehkaaDoor.Pure
