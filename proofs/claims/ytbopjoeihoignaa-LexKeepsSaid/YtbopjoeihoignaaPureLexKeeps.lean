/- lex.Tokens leaves the bytes that are handed in as they are, and what it answers shares no memory with them (LexKeeps). No condition beyond the statement's own. -/
import Derived.Test.YtbopjoeihoignaaLlexR
import Derived.Test.YtbopjoeihoignaaQ0
import Derived.Test.YtbopjoeihoignaaQ7
import Derived.Test.YtbopjoeihoignaaQ8
import Derived.Test.YtbopjoeihoignaaQ9
import Derived.Test.YtbopjoeihoignaaHlexW
import Derived.Test.YtbopjoeihoignaaLlex
import Derived.Test.YtbopjoeihoignaaLlexR
namespace Go.Proofs.Ytbopjoeihoignaa.Pure
open Go.RowKit Go.Proofs.Ytbopjoeihoignaa.Q Go.Proofs.YtbopjoeihoignaaW.PrintWords Go.Proofs.YtbopjoeihoignaaW.PrintLast
theorem keeps_end (l : List Int) (xs : List _) (K : Nat) (h1 : ∀ k, K ≤ k → pendulumref04_Tokens.f k l = some (lexToks l)) (h2 : ∀ k, K ≤ k → pendulumref04_Same.f k (lexToks l).1 (lexToks l).1 = some true) (hx : xs = (lexToks l).1) (n : Nat) :
    ∀ (ys : List Int) (i : Nat), ys.length ≤ 1000000 → i + n = ys.length → ∃ K', ∀ k, K' ≤ k → pendulumlaw04_LexKeeps.l0 k l ys xs i = some true := by
  induction n with
  | zero =>
    intro ys i hl hi
    refine ⟨K + 1, fun k hk => ?_⟩
    obtain ⟨k, rfl⟩ : ∃ m, k = m + 1 := ⟨k - 1, by omega⟩
    simp only [pendulumlaw04_LexKeeps.l0]
    rw [if_neg (by omega), h1 k (by omega)]
    simp only [Option.bind_some]
    rw [hx, h2 k (by omega)]
    rfl
  | succ n ih =>
    intro ys i hl hi
    obtain ⟨K', h⟩ := ih (ys.set (i : Int).toNat 33) (i + 1) (by simp; omega) (by simp; omega)
    refine ⟨K' + 1, fun k hk => ?_⟩
    obtain ⟨k, rfl⟩ : ∃ m, k = m + 1 := ⟨k - 1, by omega⟩
    simp only [pendulumlaw04_LexKeeps.l0]
    rw [if_pos (by omega), if_pos (by omega), wrap_ok (by omega) (by omega)]
    exact h k (by omega)
theorem LexKeeps : pendulumlaw04_LexKeeps.Pure := by
  intro l hl hl2 hw
  have hok := ok_of_wf hw
  by_cases hlen : (l.length : Int) > 5000
  · refine ⟨1, ?_⟩
    unfold pendulumlaw04_LexKeeps.f pendulumlaw04_awake.f
    simp only [Option.bind_some, if_true, pendulumlaw04_LexKeeps.j0]
    rw [if_pos (decide_eq_true hlen)]
    rfl
  · have hl3 : l.length ≤ 1000000 := by omega
    obtain ⟨K1, h1⟩ := ref_tokens l hl3 hok
    obtain ⟨K2, h2⟩ := same_ev (lexToks l).1 (by have := toks_len (l.length + 1) l 1 1 []; unfold lexToks; simp at this; omega)
    obtain ⟨K, h⟩ := keeps_end l (lexToks l).1 (max K1 K2) (fun k hk => h1 k (by omega)) (fun k hk => h2 k (by omega)) rfl l.length l 0 hl3 (by omega)
    refine ⟨K + 1, ?_⟩
    unfold pendulumlaw04_LexKeeps.f pendulumlaw04_awake.f
    simp only [Option.bind_some, if_true, pendulumlaw04_LexKeeps.j0]
    rw [if_neg (by rw [decide_eq_false hlen]; decide), if_pos (by simp; omega)]
    simp only [List.nil_append]
    rw [lex_some hl3 hok]
    simp only [Option.bind_some, if_true]
    exact h K (Nat.le_refl _)
end Go.Proofs.Ytbopjoeihoignaa.Pure
