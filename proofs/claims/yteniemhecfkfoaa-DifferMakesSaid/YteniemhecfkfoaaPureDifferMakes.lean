/- What lies between two valid texts makes the one of the other. -/
import Derived.Test.YteniemhecfkfoaaDm
namespace Go.Proofs.Yteniemhecfkfoaa.Pure
theorem DifferMakes : QD.styluslaw48_DifferMakes.Pure := Da.DifferMakes
end Go.Proofs.Yteniemhecfkfoaa.Pure
