/- What any two texts have together is what both have, and what stands ahead of a place and behind it is all: for every input. -/
import Derived.Test.YteniemhecfkfoaaLb
namespace Go.Proofs.Yteniemhecfkfoaa.Pure
theorem TallyJoins : QL.styluslaw04_TallyJoins.Pure := La.TallyJoins
end Go.Proofs.Yteniemhecfkfoaa.Pure
