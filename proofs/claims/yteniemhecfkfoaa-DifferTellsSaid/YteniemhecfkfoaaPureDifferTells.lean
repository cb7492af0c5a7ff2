/- What lies between any two texts is told as the page says: for every input. -/
import Derived.Test.YteniemhecfkfoaaDt
namespace Go.Proofs.Yteniemhecfkfoaa.Pure
theorem DifferTells : QD.styluslaw48_DifferTells.Pure := Da.DifferTells
end Go.Proofs.Yteniemhecfkfoaa.Pure
