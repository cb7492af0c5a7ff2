/- Valid texts, one behind the other, are valid, with as many runes as both, and a valid text cut at an edge is two valid ones: for every input. -/
import Derived.Test.YteniemhecfkfoaaLa
namespace Go.Proofs.Yteniemhecfkfoaa.Pure
theorem UtfWhole : QL.styluslaw01_UtfWhole.Pure := La.UtfWhole
end Go.Proofs.Yteniemhecfkfoaa.Pure
