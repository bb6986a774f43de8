-- What lex.Tokens tells, as a plain function of bytes (no program in sight).
-- PLAIN
import Derived.Test.YtddbkcfdfgehkaaDoorQ0
namespace Go.Proofs.YtddbkcfdfgehkaaDoor.Q
open Go.RowKit Go.Proofs.YtddbkcfdfgehkaaDoorW.PrintWords Go.Proofs.YtddbkcfdfgehkaaDoorW.PrintLast Go.Proofs.YtddbkcfdfgehkaaDoorW.PrintMore
attribute [local go_sem] max2_int min2_int max_two min_two max_three min_three max_four min_four   -- for this text's walks alone
set_option linter.unusedVariables false
set_option linter.unusedSimpArgs false

def smB (c : Int) : Bool := decide (97 ≤ c) && decide (c ≤ 122)
def dgB (c : Int) : Bool := decide (48 ≤ c) && decide (c ≤ 57)
def wdB (c : Int) : Bool := smB c || dgB c || (c == 95)
def rkB (c : Int) : Bool := c != 10
/-- A number's value; none: it is over. -/
def valGo : Int → List Int → Option Int
  | n, [] => some n
  | n, c :: s => if 10 * n + (c - 48) > 1099511627776 then none else valGo (10 * n + (c - 48)) s
/-- The first piece of a text: an error, how many bytes it has, its token, whether it ends a line. -/
def piece : List Int → Int × Nat × Option (Int × ByteArray × Int) × Bool
  | [] => (0, 0, none, false)
  | c :: s =>
    if smB c = true then (0, ((c :: s).takeWhile wdB).length, some (1, strOfNums ((c :: s).takeWhile wdB), 0), false)
    else if dgB c = true then
      match valGo 0 ((c :: s).takeWhile dgB) with
      | none => (2, 0, none, false)
      | some n => (0, ((c :: s).takeWhile dgB).length, some (2, strOfNums ((c :: s).takeWhile dgB), n), false)
    else if c = 10 then (0, 1, some (3, (⟨#[]⟩ : ByteArray), 0), true)
    else if c = 32 then (0, 1, none, false)
    else if c = 9 then (0, 1, none, false)
    else if c = 35 then (0, ((c :: s).takeWhile rkB).length, none, false)
    else (5, 0, none, false)
def tokL (t : Option (Int × ByteArray × Int)) (line col : Int) : List S46 :=
  match t with
  | none => []
  | some (k, x, v) => [⟨k, x, v, line, col⟩]
def toks : Nat → List Int → Int → Int → List S46 → List S46 × Int × Int × Int
  | 0, _, _, _, _ => ([], 0, 0, 0)
  | k + 1, s, line, col, xs =>
    if s = [] then (xs ++ [⟨4, (⟨#[]⟩ : ByteArray), 0, line, col⟩], 0, 0, 0)
    else if (piece s).1 ≠ 0 then ([], (piece s).1, line, col)
    else toks k (s.drop (piece s).2.1) (if (piece s).2.2.2 = true then line + 1 else line) (if (piece s).2.2.2 = true then 1 else col + (piece s).2.1) (xs ++ tokL (piece s).2.2.1 line col)
def okBytes (l : List Int) : Bool := l.all fun x => decide (0 ≤ x) && decide (x ≤ 255)
def lexToks (l : List Int) : List S46 × Int × Int × Int := toks (l.length + 1) l 1 1 []

theorem takeWhile_le (P : Int → Bool) (s : List Int) : (s.takeWhile P).length ≤ s.length := by
  induction s with
  | nil => simp
  | cons c s ih => rw [List.takeWhile_cons]; split <;> simp <;> omega
theorem takeWhile_pos (P : Int → Bool) (c : Int) (s : List Int) (h : P c = true) : 1 ≤ ((c :: s).takeWhile P).length := by
  rw [List.takeWhile_cons, if_pos h]; simp
theorem sm_wd {c : Int} (h : smB c = true) : wdB c = true := by unfold wdB; rw [h]; rfl
/-- The ways of a piece. -/
theorem piece_word {c : Int} {s : List Int} (h1 : smB c = true) : piece (c :: s) = (0, ((c :: s).takeWhile wdB).length, some (1, strOfNums ((c :: s).takeWhile wdB), 0), false) := by
  unfold piece; dsimp only; rw [if_pos h1]
theorem piece_over {c : Int} {s : List Int} (h1 : ¬ smB c = true) (h2 : dgB c = true) (h : valGo 0 ((c :: s).takeWhile dgB) = none) : piece (c :: s) = (2, 0, none, false) := by
  unfold piece; dsimp only; rw [if_neg h1, if_pos h2, h]
theorem piece_number {c : Int} {s : List Int} {n : Int} (h1 : ¬ smB c = true) (h2 : dgB c = true) (h : valGo 0 ((c :: s).takeWhile dgB) = some n) : piece (c :: s) = (0, ((c :: s).takeWhile dgB).length, some (2, strOfNums ((c :: s).takeWhile dgB), n), false) := by
  unfold piece; dsimp only; rw [if_neg h1, if_pos h2, h]
theorem piece_line (s : List Int) : piece (10 :: s) = (0, 1, some (3, (⟨#[]⟩ : ByteArray), 0), true) := rfl
theorem piece_space (s : List Int) : piece (32 :: s) = (0, 1, none, false) := rfl
theorem piece_tab (s : List Int) : piece (9 :: s) = (0, 1, none, false) := rfl
theorem piece_remark (s : List Int) : piece (35 :: s) = (0, ((35 :: s).takeWhile rkB).length, none, false) := rfl
theorem piece_bad {c : Int} {s : List Int} (h1 : ¬ smB c = true) (h2 : ¬ dgB c = true) (h3 : c ≠ 10) (h4 : c ≠ 32) (h5 : c ≠ 9) (h6 : c ≠ 35) : piece (c :: s) = (5, 0, none, false) := by
  unfold piece; dsimp only; rw [if_neg h1, if_neg h2, if_neg h3, if_neg h4, if_neg h5, if_neg h6]
theorem piece_ways (c : Int) (s : List Int) : smB c = true ∨ (¬ smB c = true ∧ dgB c = true ∧ ((∃ n, valGo 0 ((c :: s).takeWhile dgB) = some n) ∨ valGo 0 ((c :: s).takeWhile dgB) = none)) ∨ c = 10 ∨ c = 32 ∨ c = 9 ∨ c = 35 ∨
    (¬ smB c = true ∧ ¬ dgB c = true ∧ c ≠ 10 ∧ c ≠ 32 ∧ c ≠ 9 ∧ c ≠ 35) := by
  by_cases h1 : smB c = true
  · exact .inl h1
  · by_cases h2 : dgB c = true
    · refine .inr (.inl ⟨h1, h2, ?_⟩)
      cases valGo 0 ((c :: s).takeWhile dgB) with
      | none => exact .inr rfl
      | some n => exact .inl ⟨n, rfl⟩
    · by_cases h3 : c = 10
      · exact .inr (.inr (.inl h3))
      · by_cases h4 : c = 32
        · exact .inr (.inr (.inr (.inl h4)))
        · by_cases h5 : c = 9
          · exact .inr (.inr (.inr (.inr (.inl h5))))
          · by_cases h6 : c = 35
            · exact .inr (.inr (.inr (.inr (.inr (.inl h6)))))
            · exact .inr (.inr (.inr (.inr (.inr (.inr ⟨h1, h2, h3, h4, h5, h6⟩)))))
theorem piece_le (s : List Int) : (piece s).2.1 ≤ s.length := by
  cases s with
  | nil => simp [piece]
  | cons c s =>
    rcases piece_ways c s with h | ⟨h1, h2, ⟨n, h⟩ | h⟩ | rfl | rfl | rfl | rfl | ⟨h1, h2, h3, h4, h5, h6⟩
    · rw [piece_word h]; exact takeWhile_le _ _
    · rw [piece_number h1 h2 h]; exact takeWhile_le _ _
    · rw [piece_over h1 h2 h]; exact Nat.zero_le _
    · rw [piece_line]; simp
    · rw [piece_space]; simp
    · rw [piece_tab]; simp
    · rw [piece_remark]; exact takeWhile_le _ _
    · rw [piece_bad h1 h2 h3 h4 h5 h6]; exact Nat.zero_le _
theorem piece_pos {s : List Int} (hs : s ≠ []) (he : (piece s).1 = 0) : 1 ≤ (piece s).2.1 := by
  cases s with
  | nil => exact absurd rfl hs
  | cons c s =>
    rcases piece_ways c s with h | ⟨h1, h2, ⟨n, h⟩ | h⟩ | rfl | rfl | rfl | rfl | ⟨h1, h2, h3, h4, h5, h6⟩
    · rw [piece_word h]; exact takeWhile_pos _ _ _ (sm_wd h)
    · rw [piece_number h1 h2 h]; exact takeWhile_pos _ _ _ h2
    · rw [piece_over h1 h2 h] at he; exact absurd he (by decide)
    · rw [piece_line]; exact Nat.le_refl _
    · rw [piece_space]; exact Nat.le_refl _
    · rw [piece_tab]; exact Nat.le_refl _
    · rw [piece_remark]; exact takeWhile_pos _ _ _ rfl
    · rw [piece_bad h1 h2 h3 h4 h5 h6] at he; exact absurd he (by decide)
end Go.Proofs.YtddbkcfdfgehkaaDoor.Q
