-- VerdictJudges: the plain law, told of its walk.
-- NEEDS pendulum/pendulumlaw20.VerdictJudges
-- PLAIN
import Derived.Test.YtjknaokhcbjbhaaDoorM0
import Derived.Test.YtjknaokhcbjbhaaDoorQ28
import Derived.Test.YtjknaokhcbjbhaaDoorHlawK
import Derived.Test.YtjknaokhcbjbhaaDoorLfewB
import Derived.Test.YtjknaokhcbjbhaaDoorM22
import Derived.Test.YtjknaokhcbjbhaaDoorLfixS
import Derived.Test.YtjknaokhcbjbhaaDoorLfixU
import Derived.Test.YtjknaokhcbjbhaaDoorLsetS
namespace Go.Proofs.YtjknaokhcbjbhaaDoor.Q
open Go.RowKit Go.Proofs.YtjknaokhcbjbhaaDoorW.PrintWords Go.Proofs.YtjknaokhcbjbhaaDoorW.PrintLast Go.Proofs.YtjknaokhcbjbhaaDoorW.PrintMore
attribute [local go_sem] max2_int min2_int max_two min_two max_three min_three max_four min_four   -- for this text's walks alone
set_option linter.unusedVariables false
set_option linter.unusedSimpArgs false

theorem vj_wrong {b : Int} {ts : List TK} {g : Int} (hf : ¬ RightS b ts ∨ g < 1 ∨ g > 1049576) (k : Nat) (hk : 10 < k) : pendulumlaw20_VerdictJudges.j0 k g false b ts = some true := by
 obtain ⟨k, rfl⟩ : ∃ j, k = j + 2 := ⟨k - 2, by omega⟩
 rw [pendulumlaw20_VerdictJudges.j0, if_neg (by decide), judge_wrong hf (k + 1) (by omega), right_eq]
 simp only [Option.bind_some]
 have e := rsame_eval (false, 0, []) (false, 0, []) (by simp) k (by simp; omega)
 simp only at e
 have e2 : vsame (false, 0, []) (false, 0, []) = true := rfl
 by_cases hr : RightS b ts
 ·rw [(rightS_iff b ts).2 hr, if_pos (show ((0 : Int) == 0) = true from rfl)]
  by_cases h1 : g < 1
  ·rw [if_pos h1, pendulumlaw20_VerdictJudges.j1, if_pos rfl, if_pos rfl, e, e2]; rfl
  ·rw [if_neg h1, decide_eq_true (by rcases hf with h | h | h; exact absurd hr h; exact absurd h h1; exact h), pendulumlaw20_VerdictJudges.j1, if_pos rfl, if_pos rfl, e, e2]; rfl
 ·have hn : ((whyS b ts).1 == 0) = false := beq_eq_false_iff_ne.2 (fun e => hr ((rightS_iff b ts).1 e))
  rw [hn, if_neg (by decide), pendulumlaw20_VerdictJudges.j1, if_pos rfl, if_pos rfl, e, e2]; rfl
theorem VerdictJudges_pure (b : Int) (ts : List TK) (g : Int) : pendulumlaw20_VerdictJudges.f (20000 + 3) b ts g = some true := by
 obtain ⟨k, hk, hkk⟩ : ∃ k, 20000 = k ∧ 20000 ≤ k := ⟨_, rfl, Nat.le_refl _⟩
 rw [hk]
 unfold pendulumlaw20_VerdictJudges.f
 unfold pendulumlaw20_awake.f
 simp only [Option.bind_some, if_true]
 rw [few_eq b ts _ (by omega)]
 simp only [Option.bind_some]
 cases hfw : fewB ts with
 | false => rw [if_neg (by decide), pendulumlaw20_VerdictJudges.j0, if_pos rfl]; rfl
 | true =>
  rw [if_pos rfl, right_eq]
  simp only [Option.bind_some]
  by_cases hr : RightS b ts
  ·rw [(rightS_iff b ts).2 hr, if_pos (show ((0 : Int) == 0) = true from rfl), small_eq b ts _ (by omega)]
   simp only [Option.bind_some]
   cases hs : smallB ts with
   | false => rw [show (!false) = true from rfl, pendulumlaw20_VerdictJudges.j0, if_pos rfl]; rfl
   | true =>
    rw [show (!true) = false from rfl]
    by_cases hg : g < 1 ∨ g > 1049576
    ·exact vj_wrong (.inr hg) _ (by omega)
    ·have hB := small_B hs
     have hg1 : 1 ≤ g := by omega
     have hg2 : g ≤ 1049576 := by omega
     have hl : (jdg b ts g).2.2.length ≤ 16 := by rw [jdg_len]; exact hr.n1
     rw [pendulumlaw20_VerdictJudges.j0, if_neg (by decide), judge_right hr hg1 hg2 6100 hB.1 _ (by omega), right_eq, (rightS_iff b ts).2 hr]
     simp only [Option.bind_some]
     rw [if_pos (show ((0 : Int) == 0) = true from rfl), if_neg (by omega), decide_eq_false (by omega), pendulumlaw20_VerdictJudges.j1, if_neg (by decide), rjudge_eval hr hg1 hg2 6100 hB.2 _ (by omega)]
     simp only [Option.bind_some]
     rw [if_pos trivial, rsame_eval _ _ (by omega) _ (by omega), (vsame_iff _ _).2 rfl]
     simp only [Option.bind_some, if_true]
     rw [same_eval _ _ (by omega) _ (by omega), (vsame_iff _ _).2 rfl]
     rfl
  ·have hn : ((whyS b ts).1 == 0) = false := beq_eq_false_iff_ne.2 (fun e => hr ((rightS_iff b ts).1 e))
   rw [hn, if_neg (by decide)]
   exact vj_wrong (.inl hr) _ (by omega)
theorem VerdictJudges_law (b : Int) (A : Option Addr) (c : Nat) (ts : List TK) (g : Int) (W : World) (hC : Kd.C k42 W A ts.length ts) (hc : ts.length ≤ c) (_ : ∀ t ∈ ts, okTask t) (_ : (Lit.int .i64 b).wf = true) (_ : (Lit.int .i64 g).wf = true) :
  Calls Tryd.prog 3 #[.agg #[.int .i64 b, .slice A ts.length c], .int .i64 g] W fun e w' => e = .returned (.bool true) ∧ Below W.heap.size W w' :=
 pendulumlaw20_VerdictJudges.calls (20000 + 3) b A c ts g true W hC hc (VerdictJudges_pure b ts g) rfl
end Go.Proofs.YtjknaokhcbjbhaaDoor.Q
