/- Any sector of any bytes, and those in which any two texts are unlike, are what the page says. -/
import Derived.Test.YtobhffeopfbjlaaPb
namespace Go.Proofs.Ytobhffeopfbjlaa.Pure
theorem PieceSlices : QP.styluslaw05_PieceSlices.Pure := Pb.PieceSlices
end Go.Proofs.Ytobhffeopfbjlaa.Pure
