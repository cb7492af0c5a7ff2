/- The mode behind any call of the disk is what the page says. -/
import Derived.Test.YtbedmobcaljmdaaYa
namespace Go.Proofs.Ytbedmobcaljmdaa.Pure
theorem PolicyNexts : QY.styluslaw40_PolicyNexts.Pure := Ya.PolicyNexts
end Go.Proofs.Ytbedmobcaljmdaa.Pure
