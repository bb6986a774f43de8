-- slices.Index and slices.Contains of texts, as plain functions (no program in sight).
-- NEEDS slices.Contains[[]string,string] slices.Index[[]string,string]
-- PLAIN
import Derived.Test.YtddbkcfdfgehkaaDoorQ0
import Derived.Test.YtddbkcfdfgehkaaDoorQ4
import Derived.Test.YtddbkcfdfgehkaaDoorQ6
import Derived.Test.YtddbkcfdfgehkaaDoorLpars
namespace Go.Proofs.YtddbkcfdfgehkaaDoor.Q
open Go.RowKit Go.Proofs.YtddbkcfdfgehkaaDoorW.PrintWords Go.Proofs.YtddbkcfdfgehkaaDoorW.PrintLast Go.Proofs.YtddbkcfdfgehkaaDoorW.PrintMore
attribute [local go_sem] max2_int min2_int max_two min_two max_three min_three max_four min_four   -- for this text's walks alone
set_option linter.unusedVariables false
set_option linter.unusedSimpArgs false

theorem wrap_ok1 {x : Int} (h0 : -1000000000000000000 ≤ x) (h1 : x ≤ 1000000000000000000) : wrap64 x = x := by unfold wrap64; omega
def idxGo : List ByteArray → ByteArray → Int → Int
  | [], _, _ => -1
  | y :: r, x, i => if x.toList = y.toList then i else idxGo r x (i + 1)
theorem idx_loop (l : List ByteArray) (x : ByteArray) (hl : l.length ≤ 1000000) : ∀ (n i k : Nat), i + n = l.length → n < k → slices_Index_string_string.l0 k l x (l.length : Int) (i : Int) = some (idxGo (l.drop i) x (i : Int))
  | 0, i, k, h, hk => by
    obtain ⟨k, rfl⟩ : ∃ j, k = j + 1 := ⟨k - 1, by omega⟩
    rw [slices_Index_string_string.l0, if_neg (by omega), List.drop_of_length_le (by omega)]
    rfl
  | n + 1, i, k, h, hk => by
    obtain ⟨k, rfl⟩ : ∃ j, k = j + 1 := ⟨k - 1, by omega⟩
    have hi : i < l.length := by omega
    have hg : rdOf ByteArray.empty l (i : Int) = l[i] := by simp [rdOf, List.getD_eq_getElem?_getD, List.getElem?_eq_getElem hi]
    rw [slices_Index_string_string.l0, if_pos (by omega), if_pos (by omega), if_pos (by omega), hg, List.drop_eq_getElem_cons hi, idxGo]
    by_cases hx : x.toList = l[i].toList
    · rw [if_pos hx, if_pos hx]
    · rw [if_neg hx, if_neg hx, show wrap64 ((i : Int) + 1) = ((i + 1 : Nat) : Int) by rw [wrap_ok1 (by omega) (by omega)]; omega, idx_loop l x hl n (i + 1) k (by omega) (by omega)]
      rfl
theorem idx_eq (l : List ByteArray) (x : ByteArray) (hl : l.length ≤ 1000000) : slices_Index_string_string.f (l.length + 1) l x = some (idxGo l x 0) := by
  unfold slices_Index_string_string.f
  exact idx_loop l x hl l.length 0 _ (by omega) (by omega)
theorem idxGo_any (x : ByteArray) : ∀ (l : List ByteArray) (i : Int), 0 ≤ i → decide (idxGo l x i ≥ 0) = l.any (fun y => y.toList == x.toList)
  | [], _, _ => rfl
  | y :: r, i, h => by
    rw [idxGo, List.any_cons]
    by_cases hx : x.toList = y.toList
    · rw [if_pos hx, decide_eq_true h, show (y.toList == x.toList) = true from beq_iff_eq.2 hx.symm]; rfl
    · rw [if_neg hx, idxGo_any x r (i + 1) (by omega), show (y.toList == x.toList) = false from beq_eq_false_iff_ne.2 (fun e => hx e.symm)]; rfl
theorem contains_eq (l : List ByteArray) (x : ByteArray) (hl : l.length ≤ 1000000) : slices_Contains_string_string.f (l.length + 1) l x = some (l.any (fun y => y.toList == x.toList)) := by
  unfold slices_Contains_string_string.f
  rw [idx_eq l x hl, Option.bind_some, idxGo_any x l 0 (Int.le_refl _)]
end Go.Proofs.YtddbkcfdfgehkaaDoor.Q
