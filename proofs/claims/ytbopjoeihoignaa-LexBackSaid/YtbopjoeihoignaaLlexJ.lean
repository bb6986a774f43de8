-- Texts put together, as the plain function of chapter 4 reads them.
import Derived.Test.YtbopjoeihoignaaQ0
import Derived.Test.YtbopjoeihoignaaHlexA
import Derived.Test.YtbopjoeihoignaaLlex
import Derived.Test.YtbopjoeihoignaaLlexR
namespace Go.Proofs.Ytbopjoeihoignaa.Q
open Go.RowKit Go.Proofs.YtbopjoeihoignaaW.PrintWords Go.Proofs.YtbopjoeihoignaaW.PrintLast Go.Proofs.YtbopjoeihoignaaW.PrintMore
attribute [local go_sem] max2_int min2_int max_two min_two max_three min_three max_four min_four   -- for this text's walks alone
set_option linter.unusedVariables false
set_option linter.unusedSimpArgs false

theorem tw_stop {P : Int → Bool} {h : Int} (hh : P h = false) (s t : List Int) : (s ++ h :: t).takeWhile P = s.takeWhile P := by
  induction s with
  | nil => simp [hh]
  | cons c s ih =>
    rw [List.cons_append, List.takeWhile_cons, List.takeWhile_cons, ih]
theorem tw_all {P : Int → Bool} {r : List Int} (hr : ∀ x ∈ r, P x = true) (s : List Int) : (s ++ r).takeWhile P = if s.takeWhile P = s then s ++ r else s.takeWhile P := by
  induction s with
  | nil =>
    have : ∀ l : List Int, (∀ x ∈ l, P x = true) → l.takeWhile P = l := by
      intro l hl
      induction l with
      | nil => rfl
      | cons x l ih => rw [List.takeWhile_cons, if_pos (hl x List.mem_cons_self), ih fun y hy => hl y (List.mem_cons_of_mem _ hy)]
    simp [this r hr]
  | cons c s ih =>
    rw [List.cons_append, List.takeWhile_cons, List.takeWhile_cons, ih]
    by_cases h : P c = true
    · rw [if_pos h, if_pos h]
      by_cases h2 : s.takeWhile P = s
      · rw [if_pos h2, if_pos (by rw [h2])]
      · rw [if_neg h2, if_neg (by intro e; exact h2 (List.cons.inj e).2)]
    · rw [if_neg h, if_neg h, if_neg (by simp)]
/-- A piece ends where a line's end begins. -/
theorem piece_join {s : List Int} (hs : s ≠ []) (b : List Int) : piece (s ++ 10 :: b) = piece s := by
  cases s with
  | nil => exact absurd rfl hs
  | cons c s =>
    have e1 : (c :: (s ++ 10 :: b)).takeWhile wdB = (c :: s).takeWhile wdB := tw_stop (P := wdB) rfl (c :: s) b
    have e2 : (c :: (s ++ 10 :: b)).takeWhile dgB = (c :: s).takeWhile dgB := tw_stop (P := dgB) rfl (c :: s) b
    have e3 : (c :: (s ++ 10 :: b)).takeWhile rkB = (c :: s).takeWhile rkB := tw_stop (P := rkB) rfl (c :: s) b
    simp only [List.cons_append, piece, e1, e2, e3]
/-- A piece, a remark behind it. -/
theorem piece_rem {s : List Int} (hs : s ≠ []) {q : List Int} (hq : ∀ x ∈ q, x ≠ 10) :
    piece (s ++ 35 :: q) = piece s ∨ (piece s = (0, s.length, none, false) ∧ piece (s ++ 35 :: q) = (0, s.length + (q.length + 1), none, false)) := by
  cases s with
  | nil => exact absurd rfl hs
  | cons c s =>
    have e1 : (c :: (s ++ 35 :: q)).takeWhile wdB = (c :: s).takeWhile wdB := tw_stop (P := wdB) rfl (c :: s) q
    have e2 : (c :: (s ++ 35 :: q)).takeWhile dgB = (c :: s).takeWhile dgB := tw_stop (P := dgB) rfl (c :: s) q
    by_cases h35 : c = 35
    · subst h35
      have hall : ∀ x ∈ 35 :: q, rkB x = true := by
        intro x hx
        rcases List.mem_cons.1 hx with rfl | hx
        · rfl
        · have := hq x hx; unfold rkB; simpa using this
      have e3 := tw_all (P := rkB) hall (35 :: s)
      rw [List.cons_append, piece_remark, piece_remark]
      rw [List.cons_append] at e3
      rw [e3]
      by_cases h : (35 :: s).takeWhile rkB = 35 :: s
      · rw [if_pos h]
        refine .inr ⟨by rw [h], ?_⟩
        simp; omega
      · rw [if_neg h]
        exact .inl rfl
    · refine .inl ?_
      simp only [List.cons_append, piece, e1, e2]
      rw [if_neg (c := c = 35) h35, if_neg (c := c = 35) h35]
theorem toks_fuel (n : Nat) : ∀ (s : List Int), s.length ≤ n → ∀ (f g : Nat) (line col : Int) (xs : List S33), s.length < f → s.length < g → toks f s line col xs = toks g s line col xs := by
  induction n with
  | zero =>
    intro s hs f g line col xs hf hg
    obtain ⟨f, rfl⟩ : ∃ m, f = m + 1 := ⟨f - 1, by omega⟩
    obtain ⟨g, rfl⟩ : ∃ m, g = m + 1 := ⟨g - 1, by omega⟩
    have : s = [] := List.eq_nil_of_length_eq_zero (by omega)
    subst this
    rw [toks_end, toks_end]
  | succ n ih =>
    intro s hs f g line col xs hf hg
    obtain ⟨f, rfl⟩ : ∃ m, f = m + 1 := ⟨f - 1, by omega⟩
    obtain ⟨g, rfl⟩ : ∃ m, g = m + 1 := ⟨g - 1, by omega⟩
    by_cases h : s = []
    · subst h; rw [toks_end, toks_end]
    · by_cases he : (piece s).1 = 0
      · have h1 := piece_pos h he
        have h2 : 0 < s.length := List.length_pos_iff.mpr h
        rw [toks_go h he, toks_go h he]
        exact ih _ (by rw [List.length_drop]; omega) _ _ _ _ _ (by rw [List.length_drop]; omega) (by rw [List.length_drop]; omega)
      · rw [toks_err h he, toks_err h he]
def cnt (s : List Int) : Nat := s.countP (· == 10)
def lns (ts : List S33) : Nat := ts.countP (fun t => t.f0 == 3)
/-- What a text comes to: told for itself, a line's end and more behind it, a remark behind it. -/
inductive Way (s : List Int) (line col : Int) : Prop
  | err (e l c : Int) (he : e = 2 ∨ e = 5) (hl : line ≤ l) (hc : 1 ≤ c)
      (h0 : ∀ F xs, s.length < F → toks F s line col xs = ([], e, l, c))
      (h1 : ∀ F xs b, (s ++ 10 :: b).length < F → toks F (s ++ 10 :: b) line col xs = ([], e, l, c))
      (h2 : ∀ F xs q, (∀ x ∈ q, x ≠ 10) → (s ++ 35 :: q).length < F → toks F (s ++ 35 :: q) line col xs = ([], e, l, c)) : Way s line col
  | ok (ys : List S33) (C : Int)
      (hn : lns ys = cnt s) (hk : ∀ t ∈ ys, t.f0 = 1 ∨ t.f0 = 2 ∨ t.f0 = 3) (hy : ys.length ≤ s.length)
      (h0 : ∀ F xs, s.length < F → toks F s line col xs = (xs ++ ys ++ [⟨4, (⟨#[]⟩ : ByteArray), 0, line + cnt s, C⟩], 0, 0, 0))
      (h1 : ∀ F xs b, (s ++ 10 :: b).length < F → toks F (s ++ 10 :: b) line col xs = toks (b.length + 1) b (line + cnt s + 1) 1 (xs ++ ys ++ [⟨3, (⟨#[]⟩ : ByteArray), 0, line + cnt s, C⟩]))
      (h2 : ∀ F xs q, (∀ x ∈ q, x ≠ 10) → (s ++ 35 :: q).length < F → toks F (s ++ 35 :: q) line col xs = (xs ++ ys ++ [⟨4, (⟨#[]⟩ : ByteArray), 0, line + cnt s, C + (q.length + 1)⟩], 0, 0, 0)) : Way s line col
theorem cnt_drop {s : List Int} (k : Nat) (h : ∀ x ∈ s.take k, x ≠ 10) : cnt (s.drop k) = cnt s := by
  have e : cnt s = cnt (s.take k) + cnt (s.drop k) := by
    unfold cnt; rw [← List.countP_append, List.take_append_drop]
  have : cnt (s.take k) = 0 := by
    unfold cnt; rw [List.countP_eq_zero]; intro x hx; simpa using h x hx
  omega
theorem tw_mem {P : Int → Bool} {s : List Int} : ∀ x ∈ s.takeWhile P, P x = true := by
  intro x hx
  induction s with
  | nil => simp at hx
  | cons c s ih =>
    rw [List.takeWhile_cons] at hx
    split at hx
    · rename_i hc
      rcases List.mem_cons.1 hx with rfl | hx
      · exact hc
      · exact ih hx
    · simp at hx
theorem tw_take (P : Int → Bool) (s : List Int) : s.take (s.takeWhile P).length = s.takeWhile P := by
  have := take_span P s 0
  simpa using this
/-- Which bytes a piece has, and what it adds. -/
theorem piece_adds {s : List Int} (hs : s ≠ []) (he : (piece s).1 = 0) :
    ((piece s).2.2.2 = true ∧ (piece s).2.1 = 1 ∧ s.take 1 = [10] ∧ (piece s).2.2.1 = some (3, (⟨#[]⟩ : ByteArray), 0)) ∨
    ((piece s).2.2.2 = false ∧ (∀ x ∈ s.take (piece s).2.1, x ≠ 10) ∧ ((piece s).2.2.1 = none ∨ ∃ k x v, (k = 1 ∨ k = 2) ∧ (piece s).2.2.1 = some (k, x, v))) := by
  cases s with
  | nil => exact absurd rfl hs
  | cons c s =>
    rcases piece_ways c s with h | ⟨h1, h2, ⟨n, h⟩ | h⟩ | rfl | rfl | rfl | rfl | ⟨h1, h2, h3, h4, h5, h6⟩
    · rw [piece_word h]
      refine .inr ⟨rfl, ?_, .inr ⟨1, _, _, .inl rfl, rfl⟩⟩
      show ∀ x ∈ (c :: s).take ((c :: s).takeWhile wdB).length, x ≠ 10
      rw [tw_take]
      rintro x hx rfl
      exact absurd (tw_mem _ hx) (by decide)
    · rw [piece_number h1 h2 h]
      refine .inr ⟨rfl, ?_, .inr ⟨2, _, _, .inr rfl, rfl⟩⟩
      show ∀ x ∈ (c :: s).take ((c :: s).takeWhile dgB).length, x ≠ 10
      rw [tw_take]
      rintro x hx rfl
      exact absurd (tw_mem _ hx) (by decide)
    · rw [piece_over h1 h2 h] at he; exact absurd he (by decide)
    · exact .inl ⟨rfl, rfl, rfl, rfl⟩
    · rw [piece_space]; exact .inr ⟨rfl, by simp, .inl rfl⟩
    · rw [piece_tab]; exact .inr ⟨rfl, by simp, .inl rfl⟩
    · rw [piece_remark]
      refine .inr ⟨rfl, ?_, .inl rfl⟩
      show ∀ x ∈ (35 :: s).take ((35 :: s).takeWhile rkB).length, x ≠ 10
      rw [tw_take]
      rintro x hx rfl
      exact absurd (tw_mem _ hx) (by decide)
    · rw [piece_bad h1 h2 h3 h4 h5 h6] at he; exact absurd he (by decide)
theorem piece_errs {s : List Int} (he : (piece s).1 ≠ 0) : (piece s).1 = 2 ∨ (piece s).1 = 5 := by
  cases s with
  | nil => exact absurd rfl he
  | cons c s =>
    rcases piece_ways c s with h | ⟨h1, h2, ⟨n, h⟩ | h⟩ | rfl | rfl | rfl | rfl | ⟨h1, h2, h3, h4, h5, h6⟩
    · rw [piece_word h] at he; exact absurd rfl he
    · rw [piece_number h1 h2 h] at he; exact absurd rfl he
    · rw [piece_over h1 h2 h]; exact .inl rfl
    · exact absurd rfl he
    · exact absurd rfl he
    · exact absurd rfl he
    · exact absurd rfl he
    · rw [piece_bad h1 h2 h3 h4 h5 h6]; exact .inr rfl
theorem way (n : Nat) : ∀ (s : List Int), s.length ≤ n → ∀ line col : Int, 1 ≤ col → Way s line col := by
  induction n with
  | zero =>
    intro s hs line col hcol
    have : s = [] := List.eq_nil_of_length_eq_zero (by omega)
    subst this
    refine .ok [] col rfl (by simp) (Nat.le_refl _) (fun F xs hF => ?_) (fun F xs b hF => ?_) (fun F xs q hq hF => ?_)
    · obtain ⟨F, rfl⟩ : ∃ m, F = m + 1 := ⟨F - 1, by omega⟩
      rw [toks_end]; simp [cnt]
    · obtain ⟨F, rfl⟩ : ∃ m, F = m + 1 := ⟨F - 1, by omega⟩
      simp only [List.nil_append, List.length_cons] at hF ⊢
      rw [toks_go (by simp) (by rw [piece_line]), piece_line]
      simp only [tokL, List.drop_succ_cons, List.drop_zero]
      rw [if_pos trivial, if_pos trivial]
      rw [toks_fuel _ b (Nat.le_refl _) F (b.length + 1) _ _ _ (by omega) (by omega)]
      simp [cnt]
    · obtain ⟨F, rfl⟩ : ∃ m, F = m + 1 := ⟨F - 1, by omega⟩
      obtain ⟨F, rfl⟩ : ∃ m, F = m + 1 := ⟨F - 1, by simp at hF; omega⟩
      have hall : ∀ x ∈ 35 :: q, rkB x = true := by
        intro x hx
        rcases List.mem_cons.1 hx with rfl | hx
        · rfl
        · have := hq x hx; unfold rkB; simpa using this
      have e := tw_all (P := rkB) hall []
      simp only [List.nil_append, List.takeWhile_nil, if_true] at e
      simp only [List.nil_append]
      rw [toks_go (by simp) (by rw [piece_remark]), piece_remark, e]
      simp only [tokL, List.append_nil, List.drop_length]
      rw [if_neg Bool.false_ne_true, if_neg Bool.false_ne_true, toks_end]
      simp [cnt]
  | succ n ih =>
    intro s hs line col hcol
    by_cases h : s = []
    · subst h; exact ih [] (by simp) line col hcol
    · have hlen : 0 < s.length := List.length_pos_iff.mpr h
      have ha : ∀ b, s ++ b ≠ [] := fun b e => h (List.append_eq_nil_iff.1 e).1
      by_cases he : (piece s).1 = 0
      · have hk1 := piece_pos h he
        have hk2 := piece_le s
        have hcol' : 1 ≤ (if (piece s).2.2.2 = true then 1 else col + ((piece s).2.1 : Int)) := by split <;> omega
        have hcnt : (if (piece s).2.2.2 = true then line + 1 else line) + (cnt (s.drop (piece s).2.1) : Int) = line + cnt s := by
          rcases piece_adds h he with ⟨a1, a2, a3, a4⟩ | ⟨a1, a2, a3⟩
          · rw [if_pos a1, a2]
            have e : cnt s = cnt (s.take 1) + cnt (s.drop 1) := by unfold cnt; rw [← List.countP_append, List.take_append_drop]
            rw [a3] at e
            have : cnt [10] = 1 := rfl
            omega
          · rw [if_neg (by rw [a1]; exact Bool.false_ne_true), cnt_drop _ a2]
        have htok : (lns (tokL (piece s).2.2.1 line col) + cnt (s.drop (piece s).2.1) = cnt s) ∧ (∀ t ∈ tokL (piece s).2.2.1 line col, t.f0 = 1 ∨ t.f0 = 2 ∨ t.f0 = 3) ∧ (tokL (piece s).2.2.1 line col).length ≤ 1 := by
          rcases piece_adds h he with ⟨a1, a2, a3, a4⟩ | ⟨a1, a2, a3⟩
          · have e : cnt s = cnt (s.take 1) + cnt (s.drop 1) := by unfold cnt; rw [← List.countP_append, List.take_append_drop]
            rw [a3] at e
            rw [a4, a2]
            refine ⟨?_, ?_, ?_⟩
            · have : cnt [10] = 1 := rfl
              have : lns (tokL (some (3, (⟨#[]⟩ : ByteArray), 0)) line col) = 1 := rfl
              omega
            · intro t ht; simp [tokL] at ht; subst ht; exact .inr (.inr rfl)
            · simp [tokL]
          · rw [cnt_drop _ a2]
            rcases a3 with a3 | ⟨k, x, v, hk, a3⟩
            · rw [a3]; exact ⟨by simp [tokL, lns], by simp [tokL], by simp [tokL]⟩
            · rw [a3]
              refine ⟨?_, ?_, by simp [tokL]⟩
              · rcases hk with rfl | rfl <;> simp [tokL, lns]
              · intro t ht; simp [tokL] at ht; subst ht; rcases hk with rfl | rfl
                · exact .inl rfl
                · exact .inr (.inl rfl)
        have hd1 : ∀ b, (s ++ b).drop (piece s).2.1 = s.drop (piece s).2.1 ++ b := fun b => List.drop_append_of_le_length hk2
        have hw := ih (s.drop (piece s).2.1) (by rw [List.length_drop]; omega) (if (piece s).2.2.2 = true then line + 1 else line) (if (piece s).2.2.2 = true then 1 else col + (piece s).2.1) hcol'
        -- a remark's last piece may grow: its own way
        have hrem : ∀ (q : List Int), (∀ x ∈ q, x ≠ 10) → piece (s ++ 35 :: q) = piece s ∨ (piece s = (0, s.length, none, false) ∧ piece (s ++ 35 :: q) = (0, s.length + (q.length + 1), none, false)) := fun q hq => piece_rem h hq
        cases hw with
        | err e l c he' hl hc h0 h1 h2 =>
          refine .err e l c he' (by split at hl <;> omega) hc (fun F xs hF => ?_) (fun F xs b hF => ?_) (fun F xs q hq hF => ?_)
          · obtain ⟨F, rfl⟩ : ∃ m, F = m + 1 := ⟨F - 1, by omega⟩
            rw [toks_go h he]
            exact h0 F _ (by rw [List.length_drop]; omega)
          · obtain ⟨F, rfl⟩ : ∃ m, F = m + 1 := ⟨F - 1, by omega⟩
            have hp := piece_join h b
            rw [toks_go (ha _) (by rw [hp]; exact he), hp, hd1]
            exact h1 F _ b (by simp at hF ⊢; omega)
          · obtain ⟨F, rfl⟩ : ∃ m, F = m + 1 := ⟨F - 1, by omega⟩
            rcases hrem q hq with hp | ⟨hp, hp2⟩
            · rw [toks_go (ha _) (by rw [hp]; exact he), hp, hd1]
              exact h2 F _ q hq (by simp at hF ⊢; omega)
            · exfalso
              have := h0 1 [] (by rw [hp, List.drop_length]; simp)
              rw [hp, List.drop_length, toks_end] at this
              simp only [Prod.mk.injEq] at this
              rcases he' with rfl | rfl <;> omega
        | ok ys C hn hk hy h0 h1 h2 =>
          refine .ok (tokL (piece s).2.2.1 line col ++ ys) C ?_ ?_ ?_ (fun F xs hF => ?_) (fun F xs b hF => ?_) (fun F xs q hq hF => ?_)
          · unfold lns at hn ⊢
            rw [List.countP_append, hn]
            exact htok.1
          · intro t ht
            rcases List.mem_append.1 ht with ht | ht
            · exact htok.2.1 t ht
            · exact hk t ht
          · rw [List.length_drop] at hy
            rw [List.length_append]; have := htok.2.2; omega
          · obtain ⟨F, rfl⟩ : ∃ m, F = m + 1 := ⟨F - 1, by omega⟩
            rw [toks_go h he, h0 F _ (by rw [List.length_drop]; omega), hcnt]
            simp
          · obtain ⟨F, rfl⟩ : ∃ m, F = m + 1 := ⟨F - 1, by omega⟩
            have hp := piece_join h b
            rw [toks_go (ha _) (by rw [hp]; exact he), hp, hd1, h1 F _ b (by simp at hF ⊢; omega), hcnt]
            simp
          · obtain ⟨F, rfl⟩ : ∃ m, F = m + 1 := ⟨F - 1, by omega⟩
            rcases hrem q hq with hp | ⟨hp, hp2⟩
            · rw [toks_go (ha _) (by rw [hp]; exact he), hp, hd1, h2 F _ q hq (by simp at hF ⊢; omega), hcnt]
              simp
            · have h00 := h0 1 [] (by rw [hp, List.drop_length]; simp)
              rw [hp, List.drop_length, toks_end] at h00
              simp only [Prod.mk.injEq, and_true, List.nil_append] at h00
              have hys : ys = [] := by
                have := congrArg List.length h00
                simp at this
                exact this
              subst hys
              simp only [List.nil_append, List.cons.injEq, and_true] at h00
              have hC : C = col + (s.length : Int) := by
                injection h00 with _ _ _ _ hC
                rw [if_neg Bool.false_ne_true] at hC
                exact hC.symm
              obtain ⟨F, rfl⟩ : ∃ m, F = m + 1 := ⟨F - 1, by simp at hF; omega⟩
              rw [toks_go (ha _) (by rw [hp2]), hp2]
              have hdl : (s ++ 35 :: q).drop (s.length + (q.length + 1)) = [] := List.drop_eq_nil_of_le (by simp)
              rw [hdl, toks_end, if_neg Bool.false_ne_true, if_neg Bool.false_ne_true]
              have hcs : cnt s = 0 := by rw [← cnt_drop (s := s) s.length (by
                rcases piece_adds h he with ⟨a1, _⟩ | ⟨_, a2, _⟩
                · rw [hp] at a1; exact absurd a1 Bool.false_ne_true
                · rw [hp] at a2; exact a2), List.drop_length]; rfl
              rw [hp, hcs, hC]
              simp [tokL]
              omega
      · refine .err (piece s).1 line col (piece_errs he) (Int.le_refl _) hcol (fun F xs hF => ?_) (fun F xs b hF => ?_) (fun F xs q hq hF => ?_)
        · obtain ⟨F, rfl⟩ : ∃ m, F = m + 1 := ⟨F - 1, by omega⟩
          rw [toks_err h he]
        · obtain ⟨F, rfl⟩ : ∃ m, F = m + 1 := ⟨F - 1, by omega⟩
          have hp := piece_join h b
          rw [toks_err (ha _) (by rw [hp]; exact he), hp]
        · obtain ⟨F, rfl⟩ : ∃ m, F = m + 1 := ⟨F - 1, by omega⟩
          rcases piece_rem h hq with hp | ⟨hp, _⟩
          · rw [toks_err (ha _) (by rw [hp]; exact he), hp]
          · rw [hp] at he; exact absurd rfl he
end Go.Proofs.Ytbopjoeihoignaa.Q
