-- What the guard Few lets in (no program in sight).
-- NEEDS pendulum/pendulumref05.Few
-- PLAIN
import Derived.Test.YtefenbhcbpfihaaDoorM0
import Derived.Test.YtefenbhcbpfihaaDoorQ7
import Derived.Test.YtefenbhcbpfihaaDoorLsetS
namespace Go.Proofs.YtefenbhcbpfihaaDoor.Q
open Go.RowKit Go.Proofs.YtefenbhcbpfihaaDoorW.PrintWords Go.Proofs.YtefenbhcbpfihaaDoorW.PrintLast Go.Proofs.YtefenbhcbpfihaaDoorW.PrintMore
attribute [local go_sem] max2_int min2_int max_two min_two max_three min_three max_four min_four   -- for this text's walks alone
set_option linter.unusedVariables false
set_option linter.unusedSimpArgs false

def fewB (ts : List TK) : Bool := (ts.take 40).all (fun t => decide (t.f0.size ≤ 60)) && decide (ts.length ≤ 30)
theorem few_loop (b : Int) (ts : List TK) : ∀ (n i k : Nat), i + n = 40 → 2 * n + 2 < k → pendulumref05_Few.l0 k (i : Int) b ts = some (((ts.take 40).drop i).all (fun t => decide (t.f0.size ≤ 60)) && decide (ts.length ≤ 30))
 | n, i, k, h, hk => by
  obtain ⟨k, rfl⟩ : ∃ j, k = j + 2 := ⟨k - 2, by omega⟩
  have hd30 : decide ((ts.length : Int) ≤ 30) = decide (ts.length ≤ 30) := by rw [decide_eq_decide]; omega
  simp only [pendulumref05_Few.l0]
  by_cases hi : (i : Int) < (ts.length : Int)
  ·rw [if_pos hi]
   by_cases h40 : (i : Int) < 40
   ·rw [decide_eq_true h40]
    obtain ⟨n, rfl⟩ : ∃ m, n = m + 1 := ⟨n - 1, by omega⟩
    have hlt : i < ts.length := by omega
    have hg : rd_T39 ts (i : Int) = ts[i] := by simp [rd_T39, List.getD_eq_getElem?_getD, List.getElem?_eq_getElem hlt]
    have hlt2 : i < (ts.take 40).length := by rw [List.length_take]; omega
    have hg2 : (ts.take 40)[i] = ts[i] := List.getElem_take
    simp only [pendulumref05_Few.j1]
    rw [if_pos trivial, if_pos (by omega), if_pos hi, hg, List.drop_eq_getElem_cons hlt2, List.all_cons, hg2]
    by_cases hs : ((ts[i].f0.size : Int)) > 60
    ·rw [if_pos hs, decide_eq_false (by omega)]; rfl
    ·rw [if_neg hs, decide_eq_true (show ts[i].f0.size ≤ 60 by omega), wrap_ok5 (by omega) (by omega), show ((i : Int) + 1) = ((i + 1 : Nat) : Int) by omega, few_loop b ts n (i + 1) k (by omega) (by omega), Bool.true_and]
   ·rw [decide_eq_false h40]
    simp only [pendulumref05_Few.j1]
    rw [if_neg Bool.false_ne_true, List.drop_of_length_le (by rw [List.length_take]; omega), hd30]; rfl
  ·rw [if_neg hi]
   simp only [pendulumref05_Few.j1]
   rw [if_neg Bool.false_ne_true, List.drop_of_length_le (by rw [List.length_take]; omega), hd30]; rfl
termination_by n _ _ _ _ => n
theorem few_eq (b : Int) (ts : List TK) (k : Nat) (hk : 100 ≤ k) : pendulumref05_Few.f k b ts = some (fewB ts) := by
 have h := few_loop b ts 40 0 k (by omega) (by omega)
 rw [List.drop_zero] at h
 exact h
end Go.Proofs.YtefenbhcbpfihaaDoor.Q
