-- TaskRight and TaskKeeps: the laws, told of their walks.
-- NEEDS pendulum/pendulumlaw05.TaskRight
-- NEEDS pendulum/pendulumlaw05.TaskKeeps
-- PLAIN
import Derived.Test.YtphppahjkcnjlaaDoorQ0
import Derived.Test.YtphppahjkcnjlaaDoorQ5
import Derived.Test.YtphppahjkcnjlaaDoorQ10
import Derived.Test.YtphppahjkcnjlaaDoorQ13
import Derived.Test.YtphppahjkcnjlaaDoorHtaskD
import Derived.Test.YtphppahjkcnjlaaDoorHtaskO
import Derived.Test.YtphppahjkcnjlaaDoorHtaskP
import Derived.Test.YtphppahjkcnjlaaDoorHwhyR
import Derived.Test.YtphppahjkcnjlaaDoorLlawA
import Derived.Test.YtphppahjkcnjlaaDoorLright
import Derived.Test.YtphppahjkcnjlaaDoorLrow
import Derived.Test.YtphppahjkcnjlaaDoorLsetS
import Derived.Test.YtphppahjkcnjlaaDoorLtask
import Derived.Test.YtphppahjkcnjlaaDoorLlawA
import Derived.Test.YtphppahjkcnjlaaDoorLrow
import Derived.Test.YtphppahjkcnjlaaDoorHtaskP
import Derived.Test.YtphppahjkcnjlaaDoorLright
namespace Go.Proofs.YtphppahjkcnjlaaDoor.Q
open Go.RowKit Go.Proofs.YtphppahjkcnjlaaDoorW.PrintWords Go.Proofs.YtphppahjkcnjlaaDoorW.PrintLast Go.Proofs.YtphppahjkcnjlaaDoorW.PrintMore
attribute [local go_sem] max2_int min2_int max_two min_two max_three min_three max_four min_four   -- for this text's walks alone
set_option linter.unusedVariables false
set_option linter.unusedSimpArgs false

theorem TaskRight_pure (b : Int) (ts : List TK) : pendulumlaw05_TaskRight.f 200 b ts = some true := by
  unfold pendulumlaw05_TaskRight.f
  rw [law05_awake]
  simp only [Option.bind_some, if_true, few_eq b ts 200 (by omega), pendulumlaw05_TaskRight.j0, law05_awake]
  cases fewB ts with
  | false => rfl
  | true =>
    rw [if_neg (by decide)]
    unfold task_Why.f pendulumref05_Why.f task_Right.f task_Why.f
    simp only [Option.bind_some, if_true, beq_self_eq_true]
theorem TaskRight_law (b : Int) (A : Option Addr) (c : Nat) (ts : List TK) (W : World) (hC : Kd.C k32 W A ts.length ts) (hc : ts.length ≤ c) (_ : ∀ t ∈ ts, okTask t) (_ : (Lit.int .i64 b).wf = true) :
    Calls Tryd.prog 3 #[.agg #[.int .i64 b, .slice A ts.length c]] W fun e w' => e = .returned (.bool true) ∧ Below W.heap.size W w' :=
  pendulumlaw05_TaskRight.calls 200 b A c ts true W hC hc (TaskRight_pure b ts)
theorem ordF_length (ts : List TK) : (ordF ts).length = ts.length := by unfold ordF ordN; simp
theorem keeps_l1 (b : Int) (ts : List TK) (hl : ts.length ≤ 30) : ∀ (n i k : Nat) (o : List Int), i + n = o.length → o.length ≤ 30 → n + 40 < k → pendulumlaw05_TaskKeeps.l1 k true o (i : Int) b ts b ts = some true
  | 0, i, k, o, h, ho, hk => by
    obtain ⟨k, rfl⟩ : ∃ j, k = j + 1 := ⟨k - 1, by omega⟩
    simp only [pendulumlaw05_TaskKeeps.l1]
    rw [if_neg (by omega), same_eq b ts b ts (by omega) (by omega) k (by omega), sameB_self]
    rfl
  | n + 1, i, k, o, h, ho, hk => by
    obtain ⟨k, rfl⟩ : ∃ j, k = j + 1 := ⟨k - 1, by omega⟩
    simp only [pendulumlaw05_TaskKeeps.l1]
    rw [if_pos (by omega), if_pos (by omega), wrap_ok5 (by omega) (by omega), show ((i : Int) + 1) = ((i + 1 : Nat) : Int) by omega]
    exact keeps_l1 b ts hl n (i + 1) k _ (by rw [List.length_set]; omega) (by rw [List.length_set]; omega) (by omega)
theorem keeps_l0 (b : Int) (ts : List TK) (hl : ts.length ≤ 30) : ∀ (n i k : Nat) (cb : Int) (cs : List TK), i + n = cs.length → cs.length ≤ 30 → n + 80 < k → pendulumlaw05_TaskKeeps.l0 k true (i : Int) b ts b ts cb cs = some true
  | 0, i, k, cb, cs, h, ho, hk => by
    obtain ⟨k, rfl⟩ : ∃ j, k = j + 1 := ⟨k - 1, by omega⟩
    simp only [pendulumlaw05_TaskKeeps.l0]
    rw [if_neg (by omega), right_eq]
    simp only [Option.bind_some]
    by_cases hr : (whyS b ts).1 = 0
    · have hR := (rightS_iff b ts).1 hr
      rw [if_pos (by simpa using hr)]
      unfold task_Order.f
      rw [if_pos ⟨hR.nodup, by omega⟩]
      simp only [Option.bind_some]
      have := keeps_l1 b ts hl ts.length 0 k (ordF ts) (by rw [ordF_length]; omega) (by rw [ordF_length]; omega) (by omega)
      simpa using this
    · rw [if_neg (by simpa using hr), same_eq b ts b ts (by omega) (by omega) k (by omega), sameB_self]
      rfl
  | n + 1, i, k, cb, cs, h, ho, hk => by
    obtain ⟨k, rfl⟩ : ∃ j, k = j + 1 := ⟨k - 1, by omega⟩
    simp only [pendulumlaw05_TaskKeeps.l0]
    rw [if_pos (by omega), if_pos (by omega), wrap_ok5 (by omega) (by omega), show ((i : Int) + 1) = ((i + 1 : Nat) : Int) by omega]
    exact keeps_l0 b ts hl n (i + 1) k cb _ (by rw [List.length_set]; omega) (by rw [List.length_set]; omega) (by omega)
theorem TaskKeeps_pure (b : Int) (ts : List TK) : pendulumlaw05_TaskKeeps.f 300 b ts = some true := by
  unfold pendulumlaw05_TaskKeeps.f
  rw [law05_awake]
  simp only [Option.bind_some, if_true, few_eq b ts 300 (by omega), pendulumlaw05_TaskKeeps.j0, law05_awake]
  cases hf : fewB ts with
  | false => rfl
  | true =>
    have hl := fewB_len hf
    rw [if_neg (by decide), if_pos (by simp; omega)]
    unfold task_Copy.f
    rw [if_pos (by omega)]
    simp only [Option.bind_some, List.nil_append]
    rw [same_eq b ts b ts (by omega) (by omega) 299 (by omega), sameB_self]
    simp only [Option.bind_some]
    have := keeps_l0 b ts hl ts.length 0 299 b ts (by omega) (by omega) (by omega)
    simpa using this
theorem TaskKeeps_law (b : Int) (A : Option Addr) (c : Nat) (ts : List TK) (W : World) (hC : Kd.C k32 W A ts.length ts) (hc : ts.length ≤ c) (_ : ∀ t ∈ ts, okTask t) (_ : (Lit.int .i64 b).wf = true) :
    Calls Tryd.prog 8 #[.agg #[.int .i64 b, .slice A ts.length c]] W fun e w' => e = .returned (.bool true) ∧ Below W.heap.size W w' :=
  pendulumlaw05_TaskKeeps.calls 300 b A c ts true W hC hc (TaskKeeps_pure b ts)
end Go.Proofs.YtphppahjkcnjlaaDoor.Q
