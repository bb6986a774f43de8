-- Texts put together, as the plain function of chapter 4 reads them.
import Derived.Test.YtadfcdpalcgghaaDoorM0
import Derived.Test.YtadfcdpalcgghaaDoorHlexA
import Derived.Test.YtadfcdpalcgghaaDoorM21
namespace Go.Proofs.YtadfcdpalcgghaaDoor.Q
open Go.RowKit Go.Proofs.YtadfcdpalcgghaaDoorW.PrintWords Go.Proofs.YtadfcdpalcgghaaDoorW.PrintLast Go.Proofs.YtadfcdpalcgghaaDoorW.PrintMore
attribute [local go_sem] max2_int min2_int max_two min_two max_three min_three max_four min_four   -- for this text's walks alone
set_option linter.unusedVariables false
set_option linter.unusedSimpArgs false

theorem tw_stop {P : Int → Bool} {h : Int} (hh : P h = false) (s t : List Int) : (s ++ h :: t).takeWhile P = s.takeWhile P := by
 induction s with
 | nil => simp [hh]
 | cons c s ih =>
  rw [List.cons_append, List.takeWhile_cons, List.takeWhile_cons, ih]
theorem toks_fuel (n : Nat) : ∀ (s : List Int), s.length ≤ n → ∀ (f g : Nat) (line col : Int) (xs : List S61), s.length < f → s.length < g → toks f s line col xs = toks g s line col xs := by
 induction n with
 | zero =>
  intro s hs f g line col xs hf hg
  obtain ⟨f, rfl⟩ : ∃ m, f = m + 1 := ⟨f - 1, by omega⟩
  obtain ⟨g, rfl⟩ : ∃ m, g = m + 1 := ⟨g - 1, by omega⟩
  have : s = [] := List.eq_nil_of_length_eq_zero (by omega)
  subst this
  rw [toks_end, toks_end]
 | succ n ih =>
  intro s hs f g line col xs hf hg
  obtain ⟨f, rfl⟩ : ∃ m, f = m + 1 := ⟨f - 1, by omega⟩
  obtain ⟨g, rfl⟩ : ∃ m, g = m + 1 := ⟨g - 1, by omega⟩
  by_cases h : s = []
  ·subst h; rw [toks_end, toks_end]
  ·by_cases he : (piece s).1 = 0
   ·have h1 := piece_pos h he
    have h2 : 0 < s.length := List.length_pos_iff.mpr h
    rw [toks_go h he, toks_go h he]
    exact ih _ (by rw [List.length_drop]; omega) _ _ _ _ _ (by rw [List.length_drop]; omega) (by rw [List.length_drop]; omega)
   ·rw [toks_err h he, toks_err h he]
end Go.Proofs.YtadfcdpalcgghaaDoor.Q
