/- Two texts with a line's end between have both texts' tokens, the second's some lines further (LexJoin). No condition beyond the statement's own. -/
import Derived.Test.YtbopjoeihoignaaHlexJoi
namespace Go.Proofs.Ytbopjoeihoignaa.Pure
open Go.Proofs.Ytbopjoeihoignaa.Q
theorem LexJoin : pendulumlaw04_LexJoin.Pure := trivial
end Go.Proofs.Ytbopjoeihoignaa.Pure
