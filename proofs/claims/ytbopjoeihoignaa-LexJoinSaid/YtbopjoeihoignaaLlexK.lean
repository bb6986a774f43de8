-- A text read further down: the same tokens, some lines further.
import Derived.Test.YtbopjoeihoignaaQ0
import Derived.Test.YtbopjoeihoignaaLlex
import Derived.Test.YtbopjoeihoignaaLlexJ
import Derived.Test.YtbopjoeihoignaaLlexR
namespace Go.Proofs.Ytbopjoeihoignaa.Q
open Go.RowKit Go.Proofs.YtbopjoeihoignaaW.PrintWords Go.Proofs.YtbopjoeihoignaaW.PrintLast Go.Proofs.YtbopjoeihoignaaW.PrintMore
attribute [local go_sem] max2_int min2_int max_two min_two max_three min_three max_four min_four   -- for this text's walks alone
set_option linter.unusedVariables false
set_option linter.unusedSimpArgs false

def shL (d : Int) (t : S33) : S33 := ⟨t.f0, t.f1, t.f2, t.f3 + d, t.f4⟩
theorem tokL_sh (t : Option (Int × ByteArray × Int)) (line d col : Int) : tokL t (line + d) col = (tokL t line col).map (shL d) := by
  unfold tokL; split <;> rfl
theorem toks_shift (F : Nat) : ∀ (s : List Int), s.length < F → ∀ (line d col : Int) (P xs : List S33),
    toks F s (line + d) col (P ++ xs.map (shL d)) = if (toks F s line col xs).2.1 = 0 then (P ++ (toks F s line col xs).1.map (shL d), 0, 0, 0) else ([], (toks F s line col xs).2.1, (toks F s line col xs).2.2.1 + d, (toks F s line col xs).2.2.2) := by
  induction F with
  | zero => intro s hs; omega
  | succ F ih =>
    intro s hs line d col P xs
    by_cases h : s = []
    · subst h
      rw [toks_end, toks_end, if_pos rfl]
      simp [shL]
    · by_cases he : (piece s).1 = 0
      · have h1 := piece_pos h he
        have h2 : 0 < s.length := List.length_pos_iff.mpr h
        rw [toks_go h he, toks_go h he]
        have e1 : (if (piece s).2.2.2 = true then line + d + 1 else line + d) = (if (piece s).2.2.2 = true then line + 1 else line) + d := by split <;> omega
        have e2 : P ++ xs.map (shL d) ++ tokL (piece s).2.2.1 (line + d) col = P ++ (xs ++ tokL (piece s).2.2.1 line col).map (shL d) := by rw [tokL_sh]; simp
        rw [e1, e2]
        exact ih _ (by rw [List.length_drop]; omega) _ _ _ _ _
      · rw [toks_err h he, toks_err h he, if_neg he]
/-- Lines and places stay small. -/
theorem toks_small (F : Nat) : ∀ (s : List Int), s.length < F → ∀ (line col : Int) (xs : List S33) (B : Int), (∀ t ∈ xs, 0 ≤ t.f3 ∧ t.f3 ≤ B) → 0 ≤ line → line + s.length ≤ B →
    (∀ t ∈ (toks F s line col xs).1, 0 ≤ t.f3 ∧ t.f3 ≤ B) ∧ 0 ≤ (toks F s line col xs).2.2.1 ∧ (toks F s line col xs).2.2.1 ≤ B := by
  induction F with
  | zero => intro s hs; omega
  | succ F ih =>
    intro s hs line col xs B hx hl0 hl
    by_cases h : s = []
    · subst h
      rw [toks_end]
      simp only [List.length_nil] at hl
      refine ⟨fun t ht => ?_, by simp, by simp; omega⟩
      rcases List.mem_append.1 ht with ht | ht
      · exact hx t ht
      · simp at ht; subst ht; simp; omega
    · by_cases he : (piece s).1 = 0
      · have h1 := piece_pos h he
        have h2 : 0 < s.length := List.length_pos_iff.mpr h
        have h3 := piece_le s
        rw [toks_go h he]
        refine ih _ (by rw [List.length_drop]; omega) _ _ _ B (fun t ht => ?_) (by split <;> omega) (by rw [List.length_drop]; split <;> omega)
        rcases List.mem_append.1 ht with ht | ht
        · exact hx t ht
        · have : t.f3 = line := by
            unfold tokL at ht; split at ht
            · simp at ht
            · simp at ht; subst ht; rfl
          omega
      · rw [toks_err h he]
        exact ⟨by simp, hl0, by simp; omega⟩
/-- Two texts, a line's end between. -/
inductive Joined (r1 : List S33) (e1 e2 e3 : Int) (r2 : List S33) (f1 f2 f3 : Int) (r3 : List S33) (h1 h2 h3 : Int) : Prop
  | first (he : e1 ≠ 0) (a1 : h1 = e1) (a2 : h2 = e2) (a3 : h3 = e3) (a4 : r3 = []) : Joined r1 e1 e2 e3 r2 f1 f2 f3 r3 h1 h2 h3
  | second (ys : List S33) (L C : Int) (b0 : 0 ≤ L) (b1 : L ≤ 10000) (c0 : 0 ≤ f2) (c1 : f2 ≤ 10000) (hy : ys.length ≤ 10000) (e : r1 = ys ++ [⟨4, (⟨#[]⟩ : ByteArray), 0, L, C⟩]) (he : e1 = 0) (hf : f1 ≠ 0) (a1 : h1 = f1) (a2 : h2 = f2 + L) (a3 : h3 = f3) : Joined r1 e1 e2 e3 r2 f1 f2 f3 r3 h1 h2 h3
  | both (ys : List S33) (L C : Int) (b0 : 0 ≤ L) (b1 : L ≤ 10000) (hs : ∀ t ∈ r2, 0 ≤ t.f3 ∧ t.f3 ≤ 10000) (hy : ys.length ≤ 10000) (hy2 : r2.length ≤ 10000) (e : r1 = ys ++ [⟨4, (⟨#[]⟩ : ByteArray), 0, L, C⟩]) (he : e1 = 0) (hf : f1 = 0) (hh : h1 = 0) (a : r3 = ys ++ [⟨3, (⟨#[]⟩ : ByteArray), 0, L, C⟩] ++ r2.map (shL L)) : Joined r1 e1 e2 e3 r2 f1 f2 f3 r3 h1 h2 h3
theorem joined (a b : List Int) (ha : a.length ≤ 2000) (hb : b.length ≤ 2000) : Joined (lexToks a).1 (lexToks a).2.1 (lexToks a).2.2.1 (lexToks a).2.2.2 (lexToks b).1 (lexToks b).2.1 (lexToks b).2.2.1 (lexToks b).2.2.2 (lexToks (a ++ 10 :: b)).1 (lexToks (a ++ 10 :: b)).2.1 (lexToks (a ++ 10 :: b)).2.2.1 (lexToks (a ++ 10 :: b)).2.2.2 := by
  have hlen : (a ++ 10 :: b).length = a.length + (b.length + 1) := by simp
  cases way _ a (Nat.le_refl _) 1 1 (Int.le_refl _) with
  | err e l c he hl hc g0 g1 g2 =>
    have e1 : lexToks a = ([], e, l, c) := g0 _ _ (by omega)
    have e2 : lexToks (a ++ 10 :: b) = ([], e, l, c) := g1 _ _ b (by omega)
    rw [e1, e2]
    exact .first (by show e ≠ 0; omega) rfl rfl rfl rfl
  | ok ys C hn hk hy g0 g1 g2 =>
    have e1 : lexToks a = ([] ++ ys ++ [⟨4, (⟨#[]⟩ : ByteArray), 0, 1 + (cnt a : Int), C⟩], 0, 0, 0) := g0 _ _ (by omega)
    have e2 : lexToks (a ++ 10 :: b) = toks (b.length + 1) b (1 + (cnt a : Int) + 1) 1 ([] ++ ys ++ [⟨3, (⟨#[]⟩ : ByteArray), 0, 1 + (cnt a : Int), C⟩]) := g1 _ _ b (by omega)
    have hcn : cnt a ≤ a.length := List.countP_le_length
    have hs := toks_shift (b.length + 1) b (by omega) 1 (1 + (cnt a : Int)) 1 (ys ++ [⟨3, (⟨#[]⟩ : ByteArray), 0, 1 + (cnt a : Int), C⟩]) []
    have hm := toks_small (b.length + 1) b (by omega) 1 1 [] 10000 (by simp) (by omega) (by omega)
    have hbl := toks_len (b.length + 1) b 1 1 []
    rw [List.map_nil, List.append_nil, show (1 : Int) + (1 + (cnt a : Int)) = 1 + (cnt a : Int) + 1 from by omega] at hs
    have e3 := e2
    rw [List.nil_append, hs] at e3
    rw [e1]
    by_cases hz : (lexToks b).2.1 = 0
    · have e4 : lexToks (a ++ 10 :: b) = (ys ++ [⟨3, (⟨#[]⟩ : ByteArray), 0, 1 + (cnt a : Int), C⟩] ++ (lexToks b).1.map (shL (1 + (cnt a : Int))), 0, 0, 0) := by rw [e3]; unfold lexToks at hz; rw [if_pos hz]; rfl
      rw [e4]
      refine .both ys (1 + (cnt a : Int)) C (by omega) (by omega) hm.1 (by omega) (by unfold lexToks; simp at hbl; omega) rfl rfl hz rfl rfl
    · have e4 : lexToks (a ++ 10 :: b) = ([], (lexToks b).2.1, (lexToks b).2.2.1 + (1 + (cnt a : Int)), (lexToks b).2.2.2) := by rw [e3]; unfold lexToks at hz; rw [if_neg hz]; rfl
      rw [e4]
      refine .second ys (1 + (cnt a : Int)) C (by omega) (by omega) hm.2.1 hm.2.2 (by omega) rfl rfl hz rfl rfl rfl
end Go.Proofs.Ytbopjoeihoignaa.Q
