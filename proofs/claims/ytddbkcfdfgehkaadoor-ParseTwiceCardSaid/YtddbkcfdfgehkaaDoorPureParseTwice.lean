/- A text that is read, put behind itself, isn't: at the second one's first word (ParseTwice). No condition beyond the statement's own. -/
import Derived.Test.YtddbkcfdfgehkaaDoorHparsH
import Derived.Test.YtddbkcfdfgehkaaDoorM12
import Derived.Test.YtddbkcfdfgehkaaDoorM0
import Derived.Test.YtddbkcfdfgehkaaDoorQ19
import Derived.Test.YtddbkcfdfgehkaaDoorHparsF
import Derived.Test.YtddbkcfdfgehkaaDoorM10
namespace Go.Proofs.YtddbkcfdfgehkaaDoor.Pure
open Go.RowKit Go.Proofs.YtddbkcfdfgehkaaDoor.Q Go.Proofs.YtddbkcfdfgehkaaDoorW.PrintWords Go.Proofs.YtddbkcfdfgehkaaDoorW.PrintLast
theorem cnt_take_step (l : List Int) (i : Nat) (h : i < l.length) : cnt (l.take (i + 1)) = cnt (l.take i) + if rd l i = 10 then 1 else 0 := by
  have e : l.take (i + 1) = l.take i ++ [rd l i] := by
    rw [List.take_succ_eq_append_getElem h]
    simp [rd, List.getD_eq_getElem?_getD, List.getElem?_eq_getElem h]
  rw [e]
  unfold cnt
  rw [List.countP_append]
  by_cases hh : rd l i = 10
  · rw [if_pos hh]; simp [hh]
  · rw [if_neg hh]; simp [hh]
theorem twice_loop (l : List Int) (hl : l.length ≤ 2000) (ln cl : Int) (hp : parse_Set.f (([] ++ l) ++ [10] ++ l) = some (0, [], 5, ln, cl)) (h1 : 1 + (cnt l : Int) < ln) (h2 : 1 ≤ cl) :
    ∀ (n i k : Nat), i + n = l.length → n < k → pendulumlaw06_ParseTwice.l0 k l (1 + (cnt (l.take i) : Int)) (i : Int) = some true := by
  intro n
  induction n with
  | zero =>
    intro i k hi hk
    obtain ⟨k, rfl⟩ : ∃ m, k = m + 1 := ⟨k - 1, by omega⟩
    have e : l.take i = l := List.take_of_length_le (by omega)
    rw [e]
    simp only [pendulumlaw06_ParseTwice.l0]
    rw [if_neg (by omega)]
    simp only [Option.bind_some]
    rw [if_pos (by simp; omega), if_pos (by simp; omega), if_pos (by simp; omega), hp]
    simp only [Option.bind_some]
    rw [if_pos trivial, if_pos h1, if_pos h2]
    rfl
  | succ n ih =>
    intro i k hi hk
    obtain ⟨k, rfl⟩ : ∃ m, k = m + 1 := ⟨k - 1, by omega⟩
    have hc := cnt_take_step l i (by omega)
    have hle : cnt (l.take i) ≤ l.length := Nat.le_trans List.countP_le_length (by simp; omega)
    have h3 := ih (i + 1) k (by omega) (by omega)
    rw [hc] at h3
    obtain ⟨cn, hcn⟩ : ∃ cn, cnt (l.take i) = cn := ⟨_, rfl⟩
    rw [hcn] at h3 hle ⊢
    clear ih hp h1 h2 hc hcn
    simp only [pendulumlaw06_ParseTwice.l0]
    rw [if_pos (by omega), if_pos (by omega)]
    have hw : wrap64 ((i : Int) + 1) = ((i + 1 : Nat) : Int) := by rw [wrap_ok1 (by omega) (by omega)]; omega
    have hw2 : wrap64 (1 + (cn : Int) + 1) = 1 + ((cn + 1 : Nat) : Int) := by rw [wrap_ok1 (by omega) (by omega)]; omega
    rw [hw, hw2]
    by_cases hr : rd l (i : Int) = 10
    · rw [if_pos hr] at h3 ⊢
      exact h3
    · rw [if_neg hr] at h3 ⊢
      exact h3
theorem ParseTwice : pendulumlaw06_ParseTwice.Pure := by
  intro l hl hl2 hw
  have hok := ok_of_wf hw
  refine ⟨l.length + 3, ?_⟩
  unfold pendulumlaw06_ParseTwice.f pendulumlaw06_awake.f
  simp only [Option.bind_some, if_true]
  by_cases hlen : (l.length : Int) > 2000
  · rw [decide_eq_true hlen, pendulumlaw06_ParseTwice.j0, if_pos rfl]
    rfl
  · rw [decide_eq_false hlen, pendulumlaw06_ParseTwice.j0, if_neg Bool.false_ne_true]
    have hs : parse_Set.f l = some (parseF l) := by unfold parse_Set.f; rw [if_pos ⟨hok, by omega⟩]
    rw [hs]
    simp only [Option.bind_some]
    by_cases he : (parseF l).2.2.1 = 0
    · rw [if_pos he]
      obtain ⟨ln, cl, h1, h2, h3⟩ := read_twice l he
      have hok2 : okBytes (l ++ 10 :: l) = true := by
        unfold okBytes at hok ⊢
        rw [List.all_append, List.all_cons, hok]
        rfl
      have h := twice_loop l (by omega) ln cl (by
        have e : ([] ++ l) ++ [10] ++ l = l ++ 10 :: l := by simp
        rw [e]
        unfold parse_Set.f
        rw [if_pos ⟨hok2, by simp; omega⟩, h1]) h2 h3 l.length 0 (l.length + 2) (by omega) (by omega)
      simpa [cnt] using h
    · rw [if_neg he]
end Go.Proofs.YtddbkcfdfgehkaaDoor.Pure
