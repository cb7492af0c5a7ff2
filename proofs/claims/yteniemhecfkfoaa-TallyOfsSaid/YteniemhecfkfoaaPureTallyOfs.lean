/- How many bytes, runes and line ends any bytes have, and their first ones, is told as the page says: for every input. -/
import Derived.Test.YteniemhecfkfoaaLb
namespace Go.Proofs.Yteniemhecfkfoaa.Pure
theorem TallyOfs : QL.styluslaw04_TallyOfs.Pure := La.TallyOfs
end Go.Proofs.Yteniemhecfkfoaa.Pure
