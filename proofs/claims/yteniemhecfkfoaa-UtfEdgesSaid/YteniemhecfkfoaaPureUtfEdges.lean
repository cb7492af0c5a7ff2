/- Which places of any bytes are edges, and the greatest one up to any place, is told as the page says: for every input. -/
import Derived.Test.YteniemhecfkfoaaLa
namespace Go.Proofs.Yteniemhecfkfoaa.Pure
theorem UtfEdges : QL.styluslaw01_UtfEdges.Pure := La.UtfEdges
end Go.Proofs.Yteniemhecfkfoaa.Pure
