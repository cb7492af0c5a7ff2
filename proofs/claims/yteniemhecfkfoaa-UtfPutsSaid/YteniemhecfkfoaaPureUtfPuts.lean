/- Any number's bytes, and what is taken of these, are what the page says: for every input. -/
import Derived.Test.YteniemhecfkfoaaLa
namespace Go.Proofs.Yteniemhecfkfoaa.Pure
theorem UtfPuts : QL.styluslaw01_UtfPuts.Pure := La.UtfPuts
end Go.Proofs.Yteniemhecfkfoaa.Pure
