/- Each byte that is left is the one that lasted at its place, the one that was seen there, or 0; and no more bytes are left than the longer one has. -/
import Derived.Test.YtobhffeopfbjlaaBe
namespace Go.Proofs.Ytobhffeopfbjlaa.Pure
theorem BlendBytes : QB.styluslaw06_BlendBytes.Pure := Bl.BlendBytes
end Go.Proofs.Ytobhffeopfbjlaa.Pure
