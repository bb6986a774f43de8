/- Of whatever number up to 2^40 lex.Tokens reads its digits as it, whatever zeros stand ahead, and one more is over (LexNumbers). No condition beyond the statement's own. -/
import Derived.Test.YtbopjoeihoignaaHlexNum
namespace Go.Proofs.Ytbopjoeihoignaa.Pure
open Go.Proofs.Ytbopjoeihoignaa.Q
theorem LexNumbers : pendulumlaw04_LexNumbers.Pure := trivial
end Go.Proofs.Ytbopjoeihoignaa.Pure
