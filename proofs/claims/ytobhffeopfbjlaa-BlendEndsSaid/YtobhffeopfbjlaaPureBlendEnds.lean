/- With choices of 0 alone what lasts is left, with choices of 1 alone what is seen; of two that are the same that is, whatever the choices are. -/
import Derived.Test.YtobhffeopfbjlaaBe
namespace Go.Proofs.Ytobhffeopfbjlaa.Pure
theorem BlendEnds : QB.styluslaw06_BlendEnds.Pure := Bl.BlendEnds
end Go.Proofs.Ytobhffeopfbjlaa.Pure
