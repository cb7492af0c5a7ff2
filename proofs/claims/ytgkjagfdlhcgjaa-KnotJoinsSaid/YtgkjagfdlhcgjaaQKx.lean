-- Written by a program of this session (wip/tools/bundle.sh), which turns the kit's print for functions given by hand. Lean checks it.
import Derived.Test.YtgkjagfdlhcgjaaQKx0
import Derived.Test.YtgkjagfdlhcgjaaQKx1
import Derived.Test.YtgkjagfdlhcgjaaQKx2
import Derived.Test.YtgkjagfdlhcgjaaQKx3
import Derived.Test.YtgkjagfdlhcgjaaQKx4
namespace Go.Proofs.Ytgkjagfdlhcgjaa.QK
open Go.RowKit Go.Proofs.Ytgkjagfdlhcgjaa.U Go.Proofs.YtgkjagfdlhcgjaaW.PrintWords Go.Proofs.YtgkjagfdlhcgjaaW.PrintLast Go.Proofs.YtgkjagfdlhcgjaaW.PrintMore
attribute [local go_sem] max2_int min2_int max_two min_two max_three min_three max_four min_four   -- for this text's walks alone
set_option linter.unusedVariables false
set_option linter.unusedSimpArgs false

end Go.Proofs.Ytgkjagfdlhcgjaa.QK
