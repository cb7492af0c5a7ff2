/- All sectors of a text, one behind the other, are the text, each but the last of 32 bytes; and two texts are alike in all sectors just if they are the same. -/
import Derived.Test.YtobhffeopfbjlaaPb
namespace Go.Proofs.Ytobhffeopfbjlaa.Pure
theorem PieceWhole : QP.styluslaw05_PieceWhole.Pure := Pb.PieceWhole
end Go.Proofs.Ytobhffeopfbjlaa.Pure
