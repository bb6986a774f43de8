-- The reference's Same (no program in sight).
-- NEEDS pendulum/pendulumref20.Same
-- PLAIN
import Derived.Test.YtefenbhcbpfihaaDoorM0
import Derived.Test.YtefenbhcbpfihaaDoorQ21
import Derived.Test.YtefenbhcbpfihaaDoorM17
namespace Go.Proofs.YtefenbhcbpfihaaDoor.Q
open Go.RowKit Go.Proofs.YtefenbhcbpfihaaDoorW.PrintWords Go.Proofs.YtefenbhcbpfihaaDoorW.PrintLast Go.Proofs.YtefenbhcbpfihaaDoorW.PrintMore
attribute [local go_sem] max2_int min2_int max_two min_two max_three min_three max_four min_four   -- for this text's walks alone
set_option linter.unusedVariables false
set_option linter.unusedSimpArgs false

theorem rsame_loop (a1 b1 : Bool) (a2 b2 : Int) (x y : List Int) (he : x.length = y.length) (hl : x.length ≤ 1000000) : ∀ (n i k : Nat), i + n = x.length → n < k → pendulumref20_Same.l0 k (i : Int) a1 a2 x b1 b2 y = some (x.drop i == y.drop i)
 | 0, i, k, h, hk => by
  obtain ⟨k, rfl⟩ : ∃ j, k = j + 1 := ⟨k - 1, by omega⟩
  rw [pendulumref20_Same.l0, if_neg (by omega), List.drop_of_length_le (by omega), List.drop_of_length_le (by omega)]
  rfl
 | n + 1, i, k, h, hk => by
  obtain ⟨k, rfl⟩ : ∃ j, k = j + 1 := ⟨k - 1, by omega⟩
  have hx : i < x.length := by omega
  have hy : i < y.length := by omega
  have gx : rd x (i : Int) = x[i] := by simp [rd, List.getD_eq_getElem?_getD, List.getElem?_eq_getElem hx]
  have gy : rd y (i : Int) = y[i] := by simp [rd, List.getD_eq_getElem?_getD, List.getElem?_eq_getElem hy]
  rw [pendulumref20_Same.l0, if_pos (by omega), if_pos (by omega), if_pos (by omega), gx, gy, show x.drop i = x[i] :: x.drop (i + 1) from List.drop_eq_getElem_cons hx, show y.drop i = y[i] :: y.drop (i + 1) from List.drop_eq_getElem_cons hy]
  by_cases hxy : x[i] = y[i]
  ·rw [if_pos hxy, show wrap64 ((i : Int) + 1) = ((i + 1 : Nat) : Int) by rw [w64_ok (by omega) (by omega)]; omega, rsame_loop a1 b1 a2 b2 x y he hl n (i + 1) k (by omega) (by omega), hxy, List.cons_beq_cons, beq_self_eq_true, Bool.true_and]
  ·rw [if_neg hxy, List.cons_beq_cons, beq_eq_false_iff_ne.2 hxy, Bool.false_and]
theorem rsame_eval (a b : Bool × Int × List Int) (ha : a.2.2.length ≤ 1000000) (k : Nat) (hk : a.2.2.length + 1 < k) : pendulumref20_Same.f k a.1 a.2.1 a.2.2 b.1 b.2.1 b.2.2 = some (vsame a b) := by
 obtain ⟨a1, a2, a3⟩ := a
 obtain ⟨b1, b2, b3⟩ := b
 obtain ⟨k, rfl⟩ : ∃ j, k = j + 1 := ⟨k - 1, by omega⟩
 simp only at ha hk ⊢
 unfold pendulumref20_Same.f vsame
 simp only
 by_cases h1 : a1 = b1
 ·rw [if_neg (by simp [h1])]
  by_cases h2 : a2 = b2
  ·rw [if_pos h2, pendulumref20_Same.j0]
   by_cases h3 : a3.length = b3.length
   ·have := rsame_loop a1 b1 a2 b2 a3 b3 h3 ha a3.length 0 k (by omega) (by omega)
    rw [List.drop_zero, List.drop_zero] at this
    rw [if_neg (by simp [h3]), show (0 : Int) = ((0 : Nat) : Int) from rfl, this]
    simp [h1, h2]
   ·have : (a3 == b3) = false := beq_eq_false_iff_ne.2 (fun e => h3 (by rw [e]))
    rw [if_pos (by simp; omega)]
    simp [this]
  ·rw [if_neg h2, pendulumref20_Same.j0, if_pos rfl]
   simp [h2]
 ·rw [if_pos (by simpa using h1), pendulumref20_Same.j0, if_pos rfl]
  simp [h1]
end Go.Proofs.YtefenbhcbpfihaaDoor.Q
