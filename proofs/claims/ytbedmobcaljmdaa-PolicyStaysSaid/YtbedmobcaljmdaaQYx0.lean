-- Written by a program of this session (wip/tools/bundle.sh), which turns the kit's print for functions given by hand. Lean checks it.
import Derived.Test.YtbedmobcaljmdaaProg
import Derived.Below
import Derived.Deep.Draws
import Derived.Deep.AppendLies
import Derived.Maps.AppendAt
import Derived.OwnWalk
import Derived.Laws.BytesArg
import Derived.Laws.MakeOwn
import Derived.Laws.OwnMore
import Derived.Deep.OwnRows
import Derived.Tactics
import Derived.Lib.ConvBytes
import Derived.Laws.Slices
import Derived.WalkKit
import Derived.KernelRfl
import Derived.RowKit3
import Derived.Deep.LoopGhost
import Derived.Deep.QuietTactic
import Derived.BigQuiet
import Derived.WideLaws
import Derived.Deep.DeepCutAuto
import Derived.Deep.CutBlock
import Derived.Deep.RegionHeld3
import Derived.Laws.Rows
import Derived.Lib.AppendStr
import Derived.ArgAppend
import Derived.Laws.IdiomCopy
import Derived.OrdersHeld
import Derived.Laws.BitsLemmas
import Derived.RowKit
import Derived.Test.YtbedmobcaljmdaaSa
import Derived.Test.YtbedmobcaljmdaaWWords
import Derived.Test.YtbedmobcaljmdaaWLast
import Derived.Test.YtbedmobcaljmdaaWTab
import Derived.Test.YtbedmobcaljmdaaWFour
import Derived.Test.YtbedmobcaljmdaaWQPut
import Derived.Test.YtbedmobcaljmdaaWApart
import Derived.Test.YtbedmobcaljmdaaWArr
import Derived.Test.YtbedmobcaljmdaaWZeros
import Derived.Test.YtbedmobcaljmdaaWFoot
import Derived.Test.YtbedmobcaljmdaaWKept
import Derived.Test.YtbedmobcaljmdaaWShare
import Derived.Test.YtbedmobcaljmdaaWN
import Derived.Test.YtbedmobcaljmdaaWFootNe
import Derived.Test.YtbedmobcaljmdaaWAt
import Derived.Test.YtbedmobcaljmdaaWEqStruct
import Derived.Test.YtbedmobcaljmdaaWRepsOne
import Derived.Test.YtbedmobcaljmdaaWInv
import Derived.Test.YtbedmobcaljmdaaWInvWords
import Derived.Test.YtbedmobcaljmdaaWGuard
import Derived.Test.YtbedmobcaljmdaaWNEv
import Derived.Test.YtbedmobcaljmdaaWMore
namespace Go.Proofs.Ytbedmobcaljmdaa.QY
open Go.RowKit Go.Proofs.YtbedmobcaljmdaaW.PrintWords Go.Proofs.YtbedmobcaljmdaaW.PrintLast Go.Proofs.YtbedmobcaljmdaaW.PrintMore
attribute [local go_sem] max2_int min2_int max_two min_two max_three min_three max_four min_four   -- for this text's walks alone
set_option linter.unusedVariables false
set_option linter.unusedSimpArgs false



def errW : Option Int → Value
  | none => .nilIface
  | some c => .iface 0 (.int .i64 c)
theorem errW_none : errW none = .nilIface := rfl
theorem errW_some (c : Int) : errW (some c) = .iface 0 (.int .i64 c) := rfl

-- the values' own types

end Go.Proofs.Ytbedmobcaljmdaa.QY
