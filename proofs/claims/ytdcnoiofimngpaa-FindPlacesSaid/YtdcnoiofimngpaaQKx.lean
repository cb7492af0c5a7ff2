-- Written by a program of this session (wip/tools/bundle.sh), which turns the kit's print for functions given by hand. Lean checks it.
import Derived.Test.YtdcnoiofimngpaaQKx0
import Derived.Test.YtdcnoiofimngpaaQKx1
import Derived.Test.YtdcnoiofimngpaaQKx2
import Derived.Test.YtdcnoiofimngpaaQKx3
namespace Go.Proofs.Ytdcnoiofimngpaa.QK
open Go.RowKit Go.Proofs.Ytdcnoiofimngpaa.U Go.Proofs.YtdcnoiofimngpaaW.PrintWords Go.Proofs.YtdcnoiofimngpaaW.PrintLast Go.Proofs.YtdcnoiofimngpaaW.PrintMore
attribute [local go_sem] max2_int min2_int max_two min_two max_three min_three max_four min_four   -- for this text's walks alone
set_option linter.unusedVariables false
set_option linter.unusedSimpArgs false

end Go.Proofs.Ytdcnoiofimngpaa.QK
