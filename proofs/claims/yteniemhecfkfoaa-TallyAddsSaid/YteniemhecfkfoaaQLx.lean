-- Written by a program of this session (wip/tools/bundle.sh), which turns the kit's print for functions given by hand. Lean checks it.
import Derived.Test.YteniemhecfkfoaaQLx0
import Derived.Test.YteniemhecfkfoaaQLx1
import Derived.Test.YteniemhecfkfoaaQLx2
import Derived.Test.YteniemhecfkfoaaQLx3
import Derived.Test.YteniemhecfkfoaaQLx4
import Derived.Test.YteniemhecfkfoaaQLx5
import Derived.Test.YteniemhecfkfoaaQLx6
namespace Go.Proofs.Yteniemhecfkfoaa.QL
open Go.RowKit Go.Proofs.Yteniemhecfkfoaa.U Go.Proofs.YteniemhecfkfoaaW.PrintWords Go.Proofs.YteniemhecfkfoaaW.PrintLast Go.Proofs.YteniemhecfkfoaaW.PrintMore
attribute [local go_sem] max2_int min2_int max_two min_two max_three min_three max_four min_four   -- for this text's walks alone
set_option linter.unusedVariables false
set_option linter.unusedSimpArgs false

end Go.Proofs.Yteniemhecfkfoaa.QL
