-- VerdictAlike: the plain law, told of its walk.
-- NEEDS pendulum/pendulumlaw20.VerdictAlike
-- PLAIN
import Derived.Test.YtjknaokhcbjbhaaDoorM0
import Derived.Test.YtjknaokhcbjbhaaDoorQ29
import Derived.Test.YtjknaokhcbjbhaaDoorHlawK
import Derived.Test.YtjknaokhcbjbhaaDoorM22
import Derived.Test.YtjknaokhcbjbhaaDoorLfixU
import Derived.Test.YtjknaokhcbjbhaaDoorLrowV
namespace Go.Proofs.YtjknaokhcbjbhaaDoor.Q
open Go.RowKit Go.Proofs.YtjknaokhcbjbhaaDoorW.PrintWords Go.Proofs.YtjknaokhcbjbhaaDoorW.PrintLast Go.Proofs.YtjknaokhcbjbhaaDoorW.PrintMore
attribute [local go_sem] max2_int min2_int max_two min_two max_three min_three max_four min_four   -- for this text's walks alone
set_option linter.unusedVariables false
set_option linter.unusedSimpArgs false

theorem VerdictAlike_pure (a1 b1 : Bool) (a2 b2 : Int) (x y : List Int) : pendulumlaw20_VerdictAlike.f (20000 + 3) a1 a2 x b1 b2 y = some true := by
 obtain ⟨k, hk, hkk⟩ : ∃ k, 20000 = k ∧ 20000 ≤ k := ⟨_, rfl, Nat.le_refl _⟩
 rw [hk]
 unfold pendulumlaw20_VerdictAlike.f
 unfold pendulumlaw20_awake.f
 simp only [Option.bind_some, if_true]
 by_cases hx : (x.length : Int) > 100
 ·rw [if_pos hx, pendulumlaw20_VerdictAlike.j0, if_pos rfl]; rfl
 ·rw [if_neg hx]
  by_cases hy : (y.length : Int) > 100
  ·rw [decide_eq_true hy, pendulumlaw20_VerdictAlike.j0, if_pos rfl]; rfl
  ·have s1 := same_eval (a1, a2, x) (b1, b2, y) (by simp only; omega) (k + 2) (by simp only; omega)
   have s2 := rsame_eval (a1, a2, x) (b1, b2, y) (by simp only; omega) (k + 2) (by simp only; omega)
   have s3 := same_eval (a1, a2, x) (a1, a2, x) (by simp only; omega) (k + 2) (by simp only; omega)
   simp only at s1 s2 s3
   rw [decide_eq_false hy, pendulumlaw20_VerdictAlike.j0, if_neg (by decide), s1, s2]
   simp only [Option.bind_some, beq_self_eq_true, if_true]
   rw [s3, (vsame_iff _ _).2 rfl]
   rfl
theorem VerdictAlike_law (q1 : Bool) (b1 : Int) (A1 : Option Addr) (c1 : Nat) (l1 : List Int) (q2 : Bool) (b2 : Int) (A2 : Option Addr) (c2 : Nat) (l2 : List Int) (W : World) (hC1 : Kd.C (Kd.int .i64) W A1 l1.length l1) (hc1 : l1.length ≤ c1) (_ : ∀ x ∈ l1, (Lit.int .i64 x).wf = true) (_ : (Lit.int .i64 b1).wf = true) (hC2 : Kd.C (Kd.int .i64) W A2 l2.length l2) (hc2 : l2.length ≤ c2) (_ : ∀ x ∈ l2, (Lit.int .i64 x).wf = true) (_ : (Lit.int .i64 b2).wf = true) :
  Calls Tryd.prog 4 #[.agg #[.bool q1, .int .i64 b1, .slice A1 l1.length c1], .agg #[.bool q2, .int .i64 b2, .slice A2 l2.length c2]] W fun e w' => e = .returned (.bool true) ∧ Below W.heap.size W w' :=
 pendulumlaw20_VerdictAlike.calls (20000 + 3) q1 b1 A1 c1 l1 q2 b2 A2 c2 l2 true W hC1 hc1 hC2 hc2 (VerdictAlike_pure q1 q2 b1 b2 l1 l2) rfl
end Go.Proofs.YtjknaokhcbjbhaaDoor.Q
