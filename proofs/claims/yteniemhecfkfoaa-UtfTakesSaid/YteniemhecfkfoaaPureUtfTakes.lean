/- The rune that stands at any place of any bytes is the one of the page, or none: for every input. -/
import Derived.Test.YteniemhecfkfoaaLa
namespace Go.Proofs.Yteniemhecfkfoaa.Pure
theorem UtfTakes : QL.styluslaw01_UtfTakes.Pure := La.UtfTakes
end Go.Proofs.Yteniemhecfkfoaa.Pure
