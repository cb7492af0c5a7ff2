-- Written by a program of this session (wip/tools/bundle.sh), which turns the kit's print for functions given by hand. Lean checks it.
import Derived.Test.YtdcnoiofimngpaaProg
import Derived.Below
import Derived.Deep.Draws
import Derived.Deep.AppendLies
import Derived.Maps.AppendAt
import Derived.OwnWalk
import Derived.Laws.BytesArg
import Derived.Laws.MakeOwn
import Derived.Laws.OwnMore
import Derived.Deep.OwnRows
import Derived.Tactics
import Derived.Lib.ConvBytes
import Derived.Laws.Slices
import Derived.WalkKit
import Derived.KernelRfl
import Derived.RowKit3
import Derived.Deep.LoopGhost
import Derived.Deep.QuietTactic
import Derived.BigQuiet
import Derived.WideLaws
import Derived.Deep.DeepCutAuto
import Derived.Deep.CutBlock
import Derived.Deep.RegionHeld3
import Derived.Laws.Rows
import Derived.Lib.AppendStr
import Derived.ArgAppend
import Derived.Laws.IdiomCopy
import Derived.OrdersHeld
import Derived.Laws.BitsLemmas
import Derived.RowKit
import Derived.Test.YtdcnoiofimngpaaU
import Derived.Test.YtdcnoiofimngpaaWWords
import Derived.Test.YtdcnoiofimngpaaWLast
import Derived.Test.YtdcnoiofimngpaaWTab
import Derived.Test.YtdcnoiofimngpaaWFour
import Derived.Test.YtdcnoiofimngpaaWQPut
import Derived.Test.YtdcnoiofimngpaaWApart
import Derived.Test.YtdcnoiofimngpaaWArr
import Derived.Test.YtdcnoiofimngpaaWZeros
import Derived.Test.YtdcnoiofimngpaaWFoot
import Derived.Test.YtdcnoiofimngpaaWKept
import Derived.Test.YtdcnoiofimngpaaWShare
import Derived.Test.YtdcnoiofimngpaaWN
import Derived.Test.YtdcnoiofimngpaaWFootNe
import Derived.Test.YtdcnoiofimngpaaWAt
import Derived.Test.YtdcnoiofimngpaaWEqStruct
import Derived.Test.YtdcnoiofimngpaaWRepsOne
import Derived.Test.YtdcnoiofimngpaaWInv
import Derived.Test.YtdcnoiofimngpaaWInvWords
import Derived.Test.YtdcnoiofimngpaaWGuard
import Derived.Test.YtdcnoiofimngpaaWNEv
import Derived.Test.YtdcnoiofimngpaaWMore
namespace Go.Proofs.Ytdcnoiofimngpaa.QS
open Go.RowKit Go.Proofs.Ytdcnoiofimngpaa.U Go.Proofs.YtdcnoiofimngpaaW.PrintWords Go.Proofs.YtdcnoiofimngpaaW.PrintLast Go.Proofs.YtdcnoiofimngpaaW.PrintMore
attribute [local go_sem] max2_int min2_int max_two min_two max_three min_three max_four min_four   -- for this text's walks alone
set_option linter.unusedVariables false
set_option linter.unusedSimpArgs false



def errW : Option Int → Value
  | none => .nilIface
  | some c => .iface 0 (.int .i64 c)
theorem errW_none : errW none = .nilIface := rfl
theorem errW_some (c : Int) : errW (some c) = .iface 0 (.int .i64 c) := rfl

-- the values' own types

end Go.Proofs.Ytdcnoiofimngpaa.QS
