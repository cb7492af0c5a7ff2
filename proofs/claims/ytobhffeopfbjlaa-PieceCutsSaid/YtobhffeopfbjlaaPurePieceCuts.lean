/- Any row of bytes cut at sectors is what the page says, or refused. -/
import Derived.Test.YtobhffeopfbjlaaPa
namespace Go.Proofs.Ytobhffeopfbjlaa.Pure
theorem PieceCuts : QP.styluslaw05_PieceCuts.Pure := Pa.PieceCuts
end Go.Proofs.Ytobhffeopfbjlaa.Pure
