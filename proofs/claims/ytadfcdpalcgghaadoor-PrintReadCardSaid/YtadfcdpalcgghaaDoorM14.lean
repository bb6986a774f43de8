-- Texts of this claim, put together: LsetS, LfewB.
import Derived.Test.YtadfcdpalcgghaaDoorM0
import Derived.Test.YtadfcdpalcgghaaDoorQ15
import Derived.Test.YtadfcdpalcgghaaDoorQ17
import Derived.Test.YtadfcdpalcgghaaDoorHwhyR
import Derived.Test.YtadfcdpalcgghaaDoorM1
-- The same sets are told alike; a right set (chapter 5's reference; no program in sight).
namespace Go.Proofs.YtadfcdpalcgghaaDoor.Q
open Go.RowKit Go.Proofs.YtadfcdpalcgghaaDoorW.PrintWords Go.Proofs.YtadfcdpalcgghaaDoorW.PrintLast Go.Proofs.YtadfcdpalcgghaaDoorW.PrintMore
attribute [local go_sem] max2_int min2_int max_two min_two max_three min_three max_four min_four   -- for this text's walks alone
set_option linter.unusedVariables false
set_option linter.unusedSimpArgs false

theorem right_eq (b : Int) (ts : List TK) : pendulumref05_Right.f b ts = some ((whyS b ts).1 == 0) := rfl
theorem wrap_ok5 {x : Int} (h0 : -1000000000000000000 ≤ x) (h1 : x ≤ 1000000000000000000) : wrap64 x = x := by unfold wrap64; omega
def tkNe (x y : TK) : Bool := (!(((x.f0).toList) == ((y.f0).toList)) || (!((x.f1) == (y.f1)) || (!((x.f2) == (y.f2)) || (!((x.f3) == (y.f3)) || (!((x.f4) == (y.f4)) || (!((x.f5) == (y.f5)) || (!((x.f6) == (y.f6)) || (!((x.f7) == (y.f7)) || (!((x.f8) == (y.f8)) || (!((x.f9) == (y.f9)) || (!((x.f10) == (y.f10)))))))))))))
theorem ba_ext {a b : ByteArray} (h : a.toList = b.toList) : a = b := by
 rw [Lib.toList_data, Lib.toList_data] at h
 cases a; cases b
 simp only [ByteArray.mk.injEq]
 exact Array.ext' h
theorem tkNe_eq (x y : TK) : tkNe x y = false ↔ x = y := by
 constructor
 ·intro h
  unfold tkNe at h
  simp only [Bool.or_eq_false_iff, Bool.not_eq_false', beq_iff_eq] at h
  obtain ⟨h0, h1, h2, h3, h4, h5, h6, h7, h8, h9, h10⟩ := h
  have h0 := ba_ext h0
  cases x; cases y
  simp_all
 ·rintro rfl
  unfold tkNe
  simp
def allEq : List TK → List TK → Bool
 | [], [] => true
 | x :: xs, y :: ys => !tkNe x y && allEq xs ys
 | _, _ => false
theorem allEq_iff : ∀ xs ys : List TK, allEq xs ys = true ↔ xs = ys
 | [], [] => by simp [allEq]
 | [], _ :: _ => by simp [allEq]
 | _ :: _, [] => by simp [allEq]
 | x :: xs, y :: ys => by
  rw [allEq, Bool.and_eq_true, allEq_iff xs ys, Bool.not_eq_true', tkNe_eq, List.cons.injEq]
def sameB (a : Int) (xs : List TK) (b : Int) (ys : List TK) : Bool := decide (a = b) && allEq xs ys
theorem sameB_iff (a : Int) (xs : List TK) (b : Int) (ys : List TK) : sameB a xs b ys = true ↔ a = b ∧ xs = ys := by
 unfold sameB; rw [Bool.and_eq_true, decide_eq_true_iff, allEq_iff]
theorem sameB_self (a : Int) (xs : List TK) : sameB a xs a xs = true := (sameB_iff _ _ _ _).2 ⟨rfl, rfl⟩
theorem same_loop (a b : Int) (xs ys : List TK) (hl : xs.length = ys.length) (hx : xs.length ≤ 1000000) : ∀ (n i k : Nat), i + n = xs.length → n < k → pendulumref05_Same.l0 k (i : Int) a xs b ys = some (allEq (xs.drop i) (ys.drop i))
 | 0, i, k, h, hk => by
  obtain ⟨k, rfl⟩ : ∃ j, k = j + 1 := ⟨k - 1, by omega⟩
  rw [List.drop_of_length_le (by omega), List.drop_of_length_le (by omega)]
  simp only [pendulumref05_Same.l0]
  rw [if_neg (by omega)]; rfl
 | n + 1, i, k, h, hk => by
  obtain ⟨k, rfl⟩ : ∃ j, k = j + 1 := ⟨k - 1, by omega⟩
  have hi : i < xs.length := by omega
  have hj : i < ys.length := by omega
  have gx : rd_T26 xs (i : Int) = xs[i] := by simp [rd_T26, List.getD_eq_getElem?_getD, List.getElem?_eq_getElem hi]
  have gy : rd_T26 ys (i : Int) = ys[i] := by simp [rd_T26, List.getD_eq_getElem?_getD, List.getElem?_eq_getElem hj]
  have ih := same_loop a b xs ys hl hx n (i + 1) k (by omega) (by omega)
  simp only [pendulumref05_Same.l0]
  rw [if_pos (by omega), if_pos (by omega), if_pos (by omega), gx, gy, wrap_ok5 (by omega) (by omega)]
  rw [show ((i : Int) + 1) = ((i + 1 : Nat) : Int) by omega, ih, List.drop_eq_getElem_cons hi, List.drop_eq_getElem_cons hj]
  show (if tkNe xs[i] ys[i] = true then _ else _) = _
  rw [allEq]
  cases hb : tkNe xs[i] ys[i] with
  | true => rw [if_pos rfl]; rfl
  | false => rw [if_neg (by decide)]; rfl
theorem same_eq (a : Int) (xs : List TK) (b : Int) (ys : List TK) (hx : xs.length ≤ 1000000) (hy : ys.length ≤ 1000000) (k : Nat) (hk : xs.length + 2 < k) : pendulumref05_Same.f k a xs b ys = some (sameB a xs b ys) := by
 obtain ⟨k, rfl⟩ : ∃ j, k = j + 1 := ⟨k - 1, by omega⟩
 unfold pendulumref05_Same.f sameB
 by_cases h : a = b
 ·rw [if_pos h, decide_eq_true h, Bool.true_and]
  by_cases hl : xs.length = ys.length
  ·have : ((xs.length : Int) != (ys.length : Int)) = false := by simp [hl]
   rw [this, pendulumref05_Same.j0, if_neg Bool.false_ne_true]
   have h2 := same_loop a b xs ys hl hx xs.length 0 k (by omega) (by omega)
   rw [List.drop_zero, List.drop_zero] at h2
   exact h2
  ·have : ((xs.length : Int) != (ys.length : Int)) = true := by simp; omega
   rw [this, pendulumref05_Same.j0, if_pos rfl]
   cases ha : allEq xs ys with
   | true => exact absurd (by rw [(allEq_iff _ _).1 ha]) hl
   | false => rfl
 ·rw [if_neg h, decide_eq_false h, pendulumref05_Same.j0, if_pos rfl]; rfl
end Go.Proofs.YtadfcdpalcgghaaDoor.Q

-- What the guard Few lets in (no program in sight).
namespace Go.Proofs.YtadfcdpalcgghaaDoor.Q
open Go.RowKit Go.Proofs.YtadfcdpalcgghaaDoorW.PrintWords Go.Proofs.YtadfcdpalcgghaaDoorW.PrintLast Go.Proofs.YtadfcdpalcgghaaDoorW.PrintMore
attribute [local go_sem] max2_int min2_int max_two min_two max_three min_three max_four min_four   -- for this text's walks alone
set_option linter.unusedVariables false
set_option linter.unusedSimpArgs false

def fewB (ts : List TK) : Bool := (ts.take 40).all (fun t => decide (t.f0.size ≤ 60)) && decide (ts.length ≤ 30)
theorem few_loop (b : Int) (ts : List TK) : ∀ (n i k : Nat), i + n = 40 → 2 * n + 2 < k → pendulumref05_Few.l0 k (i : Int) b ts = some (((ts.take 40).drop i).all (fun t => decide (t.f0.size ≤ 60)) && decide (ts.length ≤ 30))
 | n, i, k, h, hk => by
  obtain ⟨k, rfl⟩ : ∃ j, k = j + 2 := ⟨k - 2, by omega⟩
  have hd30 : decide ((ts.length : Int) ≤ 30) = decide (ts.length ≤ 30) := by rw [decide_eq_decide]; omega
  simp only [pendulumref05_Few.l0]
  by_cases hi : (i : Int) < (ts.length : Int)
  ·rw [if_pos hi]
   by_cases h40 : (i : Int) < 40
   ·rw [decide_eq_true h40]
    obtain ⟨n, rfl⟩ : ∃ m, n = m + 1 := ⟨n - 1, by omega⟩
    have hlt : i < ts.length := by omega
    have hg : rd_T26 ts (i : Int) = ts[i] := by simp [rd_T26, List.getD_eq_getElem?_getD, List.getElem?_eq_getElem hlt]
    have hlt2 : i < (ts.take 40).length := by rw [List.length_take]; omega
    have hg2 : (ts.take 40)[i] = ts[i] := List.getElem_take
    simp only [pendulumref05_Few.j1]
    rw [if_pos trivial, if_pos (by omega), if_pos hi, hg, List.drop_eq_getElem_cons hlt2, List.all_cons, hg2]
    by_cases hs : ((ts[i].f0.size : Int)) > 60
    ·rw [if_pos hs, decide_eq_false (by omega)]; rfl
    ·rw [if_neg hs, decide_eq_true (show ts[i].f0.size ≤ 60 by omega), wrap_ok5 (by omega) (by omega), show ((i : Int) + 1) = ((i + 1 : Nat) : Int) by omega, few_loop b ts n (i + 1) k (by omega) (by omega), Bool.true_and]
   ·rw [decide_eq_false h40]
    simp only [pendulumref05_Few.j1]
    rw [if_neg Bool.false_ne_true, List.drop_of_length_le (by rw [List.length_take]; omega), hd30]; rfl
  ·rw [if_neg hi]
   simp only [pendulumref05_Few.j1]
   rw [if_neg Bool.false_ne_true, List.drop_of_length_le (by rw [List.length_take]; omega), hd30]; rfl
termination_by n _ _ _ _ => n
theorem few_eq (b : Int) (ts : List TK) (k : Nat) (hk : 100 ≤ k) : pendulumref05_Few.f k b ts = some (fewB ts) := by
 have h := few_loop b ts 40 0 k (by omega) (by omega)
 rw [List.drop_zero] at h
 exact h
theorem fewB_len {ts : List TK} (h : fewB ts = true) : ts.length ≤ 30 := by unfold fewB at h; simp at h; exact h.2
theorem fewB_size {ts : List TK} (h : fewB ts = true) : ∀ t ∈ ts, t.f0.size ≤ 60 := by
 have hl := fewB_len h
 unfold fewB at h
 rw [List.take_of_length_le (by omega)] at h
 simp at h
 exact h.1
end Go.Proofs.YtadfcdpalcgghaaDoor.Q
