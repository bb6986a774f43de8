-- The same sets are told alike; a right set (chapter 5's reference; no program in sight).
-- NEEDS pendulum/pendulumref05.Same
-- NEEDS pendulum/pendulumref05.Right
-- PLAIN
import Derived.Test.YtefenbhcbpfihaaDoorM0
import Derived.Test.YtefenbhcbpfihaaDoorQ10
import Derived.Test.YtefenbhcbpfihaaDoorQ25
import Derived.Test.YtefenbhcbpfihaaDoorHwhyR
namespace Go.Proofs.YtefenbhcbpfihaaDoor.Q
open Go.RowKit Go.Proofs.YtefenbhcbpfihaaDoorW.PrintWords Go.Proofs.YtefenbhcbpfihaaDoorW.PrintLast Go.Proofs.YtefenbhcbpfihaaDoorW.PrintMore
attribute [local go_sem] max2_int min2_int max_two min_two max_three min_three max_four min_four   -- for this text's walks alone
set_option linter.unusedVariables false
set_option linter.unusedSimpArgs false

theorem right_eq (b : Int) (ts : List TK) : pendulumref05_Right.f b ts = some ((whyS b ts).1 == 0) := rfl
theorem wrap_ok5 {x : Int} (h0 : -1000000000000000000 ≤ x) (h1 : x ≤ 1000000000000000000) : wrap64 x = x := by unfold wrap64; omega
def tkNe (x y : TK) : Bool := (!(((x.f0).toList) == ((y.f0).toList)) || (!((x.f1) == (y.f1)) || (!((x.f2) == (y.f2)) || (!((x.f3) == (y.f3)) || (!((x.f4) == (y.f4)) || (!((x.f5) == (y.f5)) || (!((x.f6) == (y.f6)) || (!((x.f7) == (y.f7)) || (!((x.f8) == (y.f8)) || (!((x.f9) == (y.f9)) || (!((x.f10) == (y.f10)))))))))))))
theorem ba_ext {a b : ByteArray} (h : a.toList = b.toList) : a = b := by
 rw [Lib.toList_data, Lib.toList_data] at h
 cases a; cases b
 simp only [ByteArray.mk.injEq]
 exact Array.ext' h
theorem tkNe_eq (x y : TK) : tkNe x y = false ↔ x = y := by
 constructor
 ·intro h
  unfold tkNe at h
  simp only [Bool.or_eq_false_iff, Bool.not_eq_false', beq_iff_eq] at h
  obtain ⟨h0, h1, h2, h3, h4, h5, h6, h7, h8, h9, h10⟩ := h
  have h0 := ba_ext h0
  cases x; cases y
  simp_all
 ·rintro rfl
  unfold tkNe
  simp
def allEq : List TK → List TK → Bool
 | [], [] => true
 | x :: xs, y :: ys => !tkNe x y && allEq xs ys
 | _, _ => false
theorem allEq_iff : ∀ xs ys : List TK, allEq xs ys = true ↔ xs = ys
 | [], [] => by simp [allEq]
 | [], _ :: _ => by simp [allEq]
 | _ :: _, [] => by simp [allEq]
 | x :: xs, y :: ys => by
  rw [allEq, Bool.and_eq_true, allEq_iff xs ys, Bool.not_eq_true', tkNe_eq, List.cons.injEq]
def sameB (a : Int) (xs : List TK) (b : Int) (ys : List TK) : Bool := decide (a = b) && allEq xs ys
theorem sameB_iff (a : Int) (xs : List TK) (b : Int) (ys : List TK) : sameB a xs b ys = true ↔ a = b ∧ xs = ys := by
 unfold sameB; rw [Bool.and_eq_true, decide_eq_true_iff, allEq_iff]
theorem sameB_self (a : Int) (xs : List TK) : sameB a xs a xs = true := (sameB_iff _ _ _ _).2 ⟨rfl, rfl⟩
theorem same_loop (a b : Int) (xs ys : List TK) (hl : xs.length = ys.length) (hx : xs.length ≤ 1000000) : ∀ (n i k : Nat), i + n = xs.length → n < k → pendulumref05_Same.l0 k (i : Int) a xs b ys = some (allEq (xs.drop i) (ys.drop i))
 | 0, i, k, h, hk => by
  obtain ⟨k, rfl⟩ : ∃ j, k = j + 1 := ⟨k - 1, by omega⟩
  rw [List.drop_of_length_le (by omega), List.drop_of_length_le (by omega)]
  simp only [pendulumref05_Same.l0]
  rw [if_neg (by omega)]; rfl
 | n + 1, i, k, h, hk => by
  obtain ⟨k, rfl⟩ : ∃ j, k = j + 1 := ⟨k - 1, by omega⟩
  have hi : i < xs.length := by omega
  have hj : i < ys.length := by omega
  have gx : rd_T39 xs (i : Int) = xs[i] := by simp [rd_T39, List.getD_eq_getElem?_getD, List.getElem?_eq_getElem hi]
  have gy : rd_T39 ys (i : Int) = ys[i] := by simp [rd_T39, List.getD_eq_getElem?_getD, List.getElem?_eq_getElem hj]
  have ih := same_loop a b xs ys hl hx n (i + 1) k (by omega) (by omega)
  simp only [pendulumref05_Same.l0]
  rw [if_pos (by omega), if_pos (by omega), if_pos (by omega), gx, gy, wrap_ok5 (by omega) (by omega)]
  rw [show ((i : Int) + 1) = ((i + 1 : Nat) : Int) by omega, ih, List.drop_eq_getElem_cons hi, List.drop_eq_getElem_cons hj]
  show (if tkNe xs[i] ys[i] = true then _ else _) = _
  rw [allEq]
  cases hb : tkNe xs[i] ys[i] with
  | true => rw [if_pos rfl]; rfl
  | false => rw [if_neg (by decide)]; rfl
theorem same_eq (a : Int) (xs : List TK) (b : Int) (ys : List TK) (hx : xs.length ≤ 1000000) (hy : ys.length ≤ 1000000) (k : Nat) (hk : xs.length + 2 < k) : pendulumref05_Same.f k a xs b ys = some (sameB a xs b ys) := by
 obtain ⟨k, rfl⟩ : ∃ j, k = j + 1 := ⟨k - 1, by omega⟩
 unfold pendulumref05_Same.f sameB
 by_cases h : a = b
 ·rw [if_pos h, decide_eq_true h, Bool.true_and]
  by_cases hl : xs.length = ys.length
  ·have : ((xs.length : Int) != (ys.length : Int)) = false := by simp [hl]
   rw [this, pendulumref05_Same.j0, if_neg Bool.false_ne_true]
   have h2 := same_loop a b xs ys hl hx xs.length 0 k (by omega) (by omega)
   rw [List.drop_zero, List.drop_zero] at h2
   exact h2
  ·have : ((xs.length : Int) != (ys.length : Int)) = true := by simp; omega
   rw [this, pendulumref05_Same.j0, if_pos rfl]
   cases ha : allEq xs ys with
   | true => exact absurd (by rw [(allEq_iff _ _).1 ha]) hl
   | false => rfl
 ·rw [if_neg h, decide_eq_false h, pendulumref05_Same.j0, if_pos rfl]; rfl
end Go.Proofs.YtefenbhcbpfihaaDoor.Q
