/- Where any bytes are no runes, and how many of them begin something, or end a line, is told as the page says: for every input. -/
import Derived.Test.YteniemhecfkfoaaLa
namespace Go.Proofs.Yteniemhecfkfoaa.Pure
theorem UtfTexts : QL.styluslaw01_UtfTexts.Pure := La.UtfTexts
end Go.Proofs.Yteniemhecfkfoaa.Pure
