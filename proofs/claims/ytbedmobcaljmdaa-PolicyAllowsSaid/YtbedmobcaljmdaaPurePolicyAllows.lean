/- Whether a call of any kind may be in any mode, and changes something, is told as the page says. -/
import Derived.Test.YtbedmobcaljmdaaYa
namespace Go.Proofs.Ytbedmobcaljmdaa.Pure
theorem PolicyAllows : QY.styluslaw40_PolicyAllows.Pure := Ya.PolicyAllows
end Go.Proofs.Ytbedmobcaljmdaa.Pure
