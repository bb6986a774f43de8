/- The texts of the tokens that lex.Tokens answers stand at their places; put together again they are the same tokens, but for their places (LexBack). No condition beyond the statement's own. -/
import Derived.Test.YtbopjoeihoignaaHlexBac
namespace Go.Proofs.Ytbopjoeihoignaa.Pure
open Go.Proofs.Ytbopjoeihoignaa.Q
theorem LexBack : pendulumlaw04_LexBack.Pure := trivial
end Go.Proofs.Ytbopjoeihoignaa.Pure
