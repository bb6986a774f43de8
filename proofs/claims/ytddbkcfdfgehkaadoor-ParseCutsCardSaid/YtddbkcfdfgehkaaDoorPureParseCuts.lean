/- Of each beginning of a text that is read parse.Set tells a right set of fewer tasks, or as many, or a place in it (ParseCuts). No condition beyond the statement's own. -/
import Derived.Test.YtddbkcfdfgehkaaDoorHparsH
import Derived.Test.YtddbkcfdfgehkaaDoorM12
import Derived.Test.YtddbkcfdfgehkaaDoorM5
import Derived.Test.YtddbkcfdfgehkaaDoorM0
import Derived.Test.YtddbkcfdfgehkaaDoorQ19
import Derived.Test.YtddbkcfdfgehkaaDoorHparsF
import Derived.Test.YtddbkcfdfgehkaaDoorM10
namespace Go.Proofs.YtddbkcfdfgehkaaDoor.Pure
open Go.RowKit Go.Proofs.YtddbkcfdfgehkaaDoor.Q Go.Proofs.YtddbkcfdfgehkaaDoorW.PrintWords Go.Proofs.YtddbkcfdfgehkaaDoorW.PrintLast
theorem ParseCuts : pendulumlaw06_ParseCuts.Pure := by
  intro l a hl hl2 hw ha
  have hok := ok_of_wf hw
  have ha := Go.bounds_u16 ha
  refine ⟨3, ?_⟩
  unfold pendulumlaw06_ParseCuts.f pendulumlaw06_awake.f
  simp only [Option.bind_some, if_true]
  by_cases hlen : (l.length : Int) > 2000
  · rw [decide_eq_true hlen, pendulumlaw06_ParseCuts.j0, if_pos rfl]
    rfl
  · rw [decide_eq_false hlen, pendulumlaw06_ParseCuts.j0, if_neg Bool.false_ne_true]
    have hs : parse_Set.f l = some (parseF l) := by unfold parse_Set.f; rw [if_pos ⟨hok, by omega⟩]
    have w1 : wrap64 ((l.length : Int) + 1) = (l.length : Int) + 1 := by unfold wrap64; omega
    have w2 : wrap64 a = a := by unfold wrap64; omega
    have t0 := Int.tmod_nonneg ((l.length : Int) + 1) (show 0 ≤ a by omega)
    have t1 := Int.tmod_lt_of_pos a (show 0 < (l.length : Int) + 1 by omega)
    rw [hs, w1, w2]
    obtain ⟨m, hm⟩ : ∃ m, Int.tmod a ((l.length : Int) + 1) = m := ⟨_, rfl⟩
    rw [hm] at t0 t1 ⊢
    have w3 : wrap64 (m + 1) = m + 1 := by unfold wrap64; omega
    have hok2 : okBytes (l.take m.toNat) = true := by
      unfold okBytes at hok ⊢
      rw [List.all_eq_true] at hok ⊢
      intro x hx
      exact hok x (List.take_subset _ _ hx)
    have hs2 : parse_Set.f (l.take m.toNat) = some (parseF (l.take m.toNat)) := by
      unfold parse_Set.f; rw [if_pos ⟨hok2, by rw [List.length_take]; omega⟩]
    simp only [Option.bind_some]
    by_cases he : (parseF l).2.2.1 = 0
    · rw [if_pos he, if_neg (by omega), if_pos t0, if_pos (by omega), hs2, w3]
      simp only [Option.bind_some]
      by_cases he2 : (parseF (l.take m.toNat)).2.2.1 = 0
      · rw [if_pos he2, right_eq, parse_right _ he2]
        simp only [Option.bind_some]
        rw [if_pos (by decide)]
        have := parse_cut l m.toNat he he2
        rw [decide_eq_true (by omega)]
      · rw [if_neg he2]
        obtain ⟨h1, h2, h3, h4, h5⟩ := parse_place _ he2
        rw [h1, if_pos (by simp), if_pos h3, if_pos h4]
        rw [List.length_take] at h5
        rw [decide_eq_true (by omega)]
    · rw [if_neg he]
end Go.Proofs.YtddbkcfdfgehkaaDoor.Pure
