/- A text that lex.Tokens reads has as many lines' ends as bytes 10, and one end; no token stands in a remark (LexLines). No condition beyond the statement's own. -/
import Derived.Test.YtbopjoeihoignaaHlexLin
namespace Go.Proofs.Ytbopjoeihoignaa.Pure
open Go.Proofs.Ytbopjoeihoignaa.Q
theorem LexLines : pendulumlaw04_LexLines.Pure := trivial
end Go.Proofs.Ytbopjoeihoignaa.Pure
