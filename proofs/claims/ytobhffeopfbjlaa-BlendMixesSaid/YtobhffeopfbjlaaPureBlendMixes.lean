/- What is left of any file, whatever the choices are, is what the page says. -/
import Derived.Test.YtobhffeopfbjlaaBm
namespace Go.Proofs.Ytobhffeopfbjlaa.Pure
theorem BlendMixes : QB.styluslaw06_BlendMixes.Pure := Bl.BlendMixes
end Go.Proofs.Ytobhffeopfbjlaa.Pure
