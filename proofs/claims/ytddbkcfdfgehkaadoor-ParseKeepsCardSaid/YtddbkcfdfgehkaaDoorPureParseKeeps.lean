/- parse.Set leaves the bytes that are handed in as they are, and what it answers shares no memory with them (ParseKeeps). No condition beyond the statement's own. -/
import Derived.Test.YtddbkcfdfgehkaaDoorHparsH
import Derived.Test.YtddbkcfdfgehkaaDoorHrefS
import Derived.Test.YtddbkcfdfgehkaaDoorM14
import Derived.Test.YtddbkcfdfgehkaaDoorLsetS
import Derived.Test.YtddbkcfdfgehkaaDoorM0
import Derived.Test.YtddbkcfdfgehkaaDoorQ22
import Derived.Test.YtddbkcfdfgehkaaDoorHparsF
import Derived.Test.YtddbkcfdfgehkaaDoorM12
namespace Go.Proofs.YtddbkcfdfgehkaaDoor.Pure
open Go.RowKit Go.Proofs.YtddbkcfdfgehkaaDoor.Q Go.Proofs.YtddbkcfdfgehkaaDoorW.PrintWords Go.Proofs.YtddbkcfdfgehkaaDoorW.PrintLast
theorem few_keeps (l : List Int) : (parseF l).2.1.length ≤ 16 := by
 by_cases he : (parseF l).2.2.1 = 0
 ·exact ((rightS_iff _ _).1 (parse_right l he)).n1
 ·rw [(parse_place l he).1]; simp
theorem keeps6_loop (l : List Int) (hr : pendulumref06_Set.f l = some (parseF l)) : ∀ (n : Nat) (ys : List Int) (i k : Nat), ys.length ≤ 1000000 → i + n = ys.length → n + 30 < k → pendulumlaw06_ParseKeeps.l0 k l ys (i : Int) (parseF l).1 (parseF l).2.1 = some true := by
 intro n
 induction n with
 | zero =>
  intro ys i k hl hi hk
  obtain ⟨k, rfl⟩ : ∃ m, k = m + 1 := ⟨k - 1, by omega⟩
  have hf := few_keeps l
  have hsm := same_eq (parseF l).1 (parseF l).2.1 (parseF l).1 (parseF l).2.1 (by omega) (by omega) k (by omega)
  rw [sameB_self] at hsm
  simp only [pendulumlaw06_ParseKeeps.l0]
  rw [if_neg (by omega), hr]
  simp only [Option.bind_some]
  rw [hsm]
  rfl
 | succ n ih =>
  intro ys i k hl hi hk
  obtain ⟨k, rfl⟩ : ∃ m, k = m + 1 := ⟨k - 1, by omega⟩
  have h := ih (ys.set (i : Int).toNat 33) (i + 1) k (by simp; omega) (by simp; omega) (by omega)
  simp only [pendulumlaw06_ParseKeeps.l0]
  rw [if_pos (by omega), if_pos (by omega), show wrap64 ((i : Int) + 1) = ((i + 1 : Nat) : Int) by unfold wrap64; omega]
  exact h
theorem ParseKeeps : pendulumlaw06_ParseKeeps.Pure := by
 intro l hl hl2 hw
 have hok := ok_of_wf hw
 refine ⟨l.length + 40, ?_⟩
 unfold pendulumlaw06_ParseKeeps.f pendulumlaw06_awake.f
 simp only [Option.bind_some, if_true]
 by_cases hlen : (l.length : Int) > 5000
 ·rw [decide_eq_true hlen, pendulumlaw06_ParseKeeps.j0, if_pos rfl]
  rfl
 ·rw [decide_eq_false hlen, pendulumlaw06_ParseKeeps.j0, if_neg Bool.false_ne_true]
  have hs : parse_Set.f l = some (parseF l) := by unfold parse_Set.f; rw [if_pos ⟨hok, by omega⟩]
  have hr : pendulumref06_Set.f l = some (parseF l) := by unfold pendulumref06_Set.f; rw [if_pos ⟨hok, by omega⟩]
  simp only [Option.bind_some]
  rw [if_pos (by simp; omega)]
  simp only [List.nil_append]
  rw [hs]
  simp only [Option.bind_some, if_true]
  exact keeps6_loop l hr l.length l 0 _ (by omega) (by omega) (by omega)
end Go.Proofs.YtddbkcfdfgehkaaDoor.Pure
