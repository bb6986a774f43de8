-- Literals of tasks: walked by hand (printed by wip/gen05.py).
-- NEEDS pendulum/pendulumref05.Few pendulum/pendulumlaw05.awake pendulum/pendulumref05.Right pendulum/task.Right pendulum/task.Hard pendulum/task.Why
import Derived.Test.YtphppahjkcnjlaaDoorQ0
import Derived.Test.YtphppahjkcnjlaaDoorHtaskA
import Derived.Test.YtphppahjkcnjlaaDoorLright
import Derived.Test.YtphppahjkcnjlaaDoorLtask
import Derived.Test.YtphppahjkcnjlaaDoorLlawA
import Derived.Test.YtphppahjkcnjlaaDoorLrow
import Derived.Test.YtphppahjkcnjlaaDoorLright
import Derived.Test.YtphppahjkcnjlaaDoorHtaskP
import Derived.IntWalk
import Derived.Test.YtphppahjkcnjlaaDoorLregL
import Derived.Test.YtphppahjkcnjlaaDoorHtaskD
import Derived.Test.YtphppahjkcnjlaaDoorHwhyR
namespace Go.Proofs.YtphppahjkcnjlaaDoor.Q
open Go.RowKit Go.Proofs.YtphppahjkcnjlaaDoorW.PrintWords Go.Proofs.YtphppahjkcnjlaaDoorW.PrintLast Go.Proofs.YtphppahjkcnjlaaDoorW.PrintMore
attribute [local go_sem] max2_int min2_int max_two min_two max_three min_three max_four min_four   -- for this text's walks alone
set_option linter.unusedVariables false
set_option linter.unusedSimpArgs false

theorem C_litT (W : World) (m : Nat) (hm : W.heap.size = m) (ts : List TK) (hl : ts.length ≤ 2) (cs : Array Value) (fr : Nat × Nat) (hcs : ∀ j p i, ts[j]? = some p → i < 11 → cs[j * 11 + i]? = (tkC p).toList[i]?) : Kd.C k32 (W.alloc (.cells cs 32 fr)) (some ⟨m, 0, none⟩) ts.length ts := by
  have hb : (W.alloc (.cells cs 32 fr)).heap[m]? = some (.cells cs 32 fr) := by rw [← hm]; exact blk_new _ _
  have e : ∀ j, (⟨m, 0, none⟩ : Addr).add j = ⟨m, j, none⟩ := fun j => by unfold Addr.add; split <;> simp_all
  refine ⟨rfl, by omega, fun _ => ⟨_, rfl, fun j p hj => ⟨(tkC p).toList, rfl, k32_mk _ p, fun i u hu => ?_⟩⟩⟩
  have hi : i < 11 := by have := (List.getElem?_eq_some_iff.1 hu).1; exact this
  show (W.alloc (.cells cs 32 fr)).cell? ((⟨m, 0, none⟩ : Addr).add (j * 11 + i)) = some u
  rw [e, cell_of_row _ _ _ _ _ _ hb, hcs j p i hj hi]
  exact hu
theorem lit_one (t : TK) : ∀ j p i, [t][j]? = some p → i < 11 → (tkC t)[j * 11 + i]? = (tkC p).toList[i]? := by
  intro j p i hj hi
  obtain ⟨rfl, rfl⟩ : j = 0 ∧ p = t := by
    cases j with
    | zero => exact ⟨rfl, by simpa using hj.symm⟩
    | succ j => simp at hj
  rw [Nat.zero_mul, Nat.zero_add, Array.getElem?_toList]
def tkC2 (t s : TK) : Array Value := #[.string t.f0, .int .i64 t.f1, .int .i64 t.f2, .int .i64 t.f3, .int .i64 t.f4, .int .i64 t.f5, .int .i64 t.f6, .int .i64 t.f7, .int .i64 t.f8, .int .i64 t.f9, .int .i64 t.f10, .string s.f0, .int .i64 s.f1, .int .i64 s.f2, .int .i64 s.f3, .int .i64 s.f4, .int .i64 s.f5, .int .i64 s.f6, .int .i64 s.f7, .int .i64 s.f8, .int .i64 s.f9, .int .i64 s.f10]
theorem lit_two (t s : TK) : ∀ j p i, [t, s][j]? = some p → i < 11 → (tkC2 t s)[j * 11 + i]? = (tkC p).toList[i]? := by
  intro j p i hj hi
  match j with
  | 0 =>
    have : p = t := by simpa using hj.symm
    subst this
    match i, hi with
    | 0, _ => rfl
    | 1, _ => rfl
    | 2, _ => rfl
    | 3, _ => rfl
    | 4, _ => rfl
    | 5, _ => rfl
    | 6, _ => rfl
    | 7, _ => rfl
    | 8, _ => rfl
    | 9, _ => rfl
    | 10, _ => rfl
  | 1 =>
    have : p = s := by simpa using hj.symm
    subst this
    match i, hi with
    | 0, _ => rfl
    | 1, _ => rfl
    | 2, _ => rfl
    | 3, _ => rfl
    | 4, _ => rfl
    | 5, _ => rfl
    | 6, _ => rfl
    | 7, _ => rfl
    | 8, _ => rfl
    | 9, _ => rfl
    | 10, _ => rfl
  | j + 2 => simp at hj
theorem right_one {t : TK} (h : RightT t) : (whyS 1 [t]).1 = 0 := (rightS_iff 1 [t]).2 (RightS.mk' (by decide) (by decide) (by simp) (by simp) (fun x hx => by simp at hx; subst hx; exact h) (fun i j hi hj hij => by simp at hi hj; omega))
theorem wrong_one {t : TK} {n : Int} (h : whyT t [] = n) (hn : n ≠ 0) : (whyS 1 [t]).1 = n := by
  unfold whyS
  rw [if_neg (by decide), if_neg (by show ¬ inB ((1 : Nat) : Int) 1 16 = false; decide), whyFrom, h, if_neg hn]
end Go.Proofs.YtphppahjkcnjlaaDoor.Q
