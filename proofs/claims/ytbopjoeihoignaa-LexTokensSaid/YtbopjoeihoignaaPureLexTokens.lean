/- Of whatever bytes lex.Tokens answers just the tokens, or the spot, that the reference answers (LexTokens). No condition beyond the statement's own. -/
import Derived.Test.YtbopjoeihoignaaLlexR
import Derived.Test.YtbopjoeihoignaaQ0
import Derived.Test.YtbopjoeihoignaaQ7
import Derived.Test.YtbopjoeihoignaaQ8
import Derived.Test.YtbopjoeihoignaaHlexW
import Derived.Test.YtbopjoeihoignaaLlex
import Derived.Test.YtbopjoeihoignaaLlexR
namespace Go.Proofs.Ytbopjoeihoignaa.Pure
open Go.RowKit Go.Proofs.Ytbopjoeihoignaa.Q Go.Proofs.YtbopjoeihoignaaW.PrintWords Go.Proofs.YtbopjoeihoignaaW.PrintLast
theorem LexTokens : pendulumlaw04_LexTokens.Pure := by
  intro l hl hl2 hw
  have hok := ok_of_wf hw
  by_cases hlen : (l.length : Int) > 5000
  · refine ⟨1, ?_⟩
    unfold pendulumlaw04_LexTokens.f pendulumlaw04_awake.f
    simp only [Option.bind_some, if_true, pendulumlaw04_LexTokens.j0]
    rw [if_pos (decide_eq_true hlen)]
    rfl
  · have hl3 : l.length ≤ 1000000 := by omega
    obtain ⟨K1, h1⟩ := ref_tokens l hl3 hok
    obtain ⟨K2, h2⟩ := same_ev (lexToks l).1 (by have := toks_len (l.length + 1) l 1 1 []; unfold lexToks; simp at this; omega)
    have h1' : pendulumref04_Tokens.f (max K1 K2) l = some (lexToks l) := h1 (max K1 K2) (by omega)
    have h2' : pendulumref04_Same.f (max K1 K2) (lexToks l).1 (lexToks l).1 = some true := h2 (max K1 K2) (by omega)
    refine ⟨max K1 K2 + 1, ?_⟩
    unfold pendulumlaw04_LexTokens.f pendulumlaw04_awake.f
    simp only [Option.bind_some, if_true, pendulumlaw04_LexTokens.j0]
    rw [if_neg (by rw [decide_eq_false hlen]; decide), lex_some hl3 hok]
    simp only [Option.bind_some]
    rw [h1']
    simp only [Option.bind_some]
    rw [if_pos (by simp), h2']
    rfl
end Go.Proofs.Ytbopjoeihoignaa.Pure
