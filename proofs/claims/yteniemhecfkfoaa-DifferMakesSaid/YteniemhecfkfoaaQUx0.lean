-- Written by a program of this session (wip/tools/bundle.sh), which turns the kit's print for functions given by hand. Lean checks it.
import Derived.Test.YteniemhecfkfoaaProg
import Derived.Below
import Derived.Deep.Draws
import Derived.Deep.AppendLies
import Derived.Maps.AppendAt
import Derived.OwnWalk
import Derived.Laws.BytesArg
import Derived.Laws.MakeOwn
import Derived.Laws.OwnMore
import Derived.Deep.OwnRows
import Derived.Tactics
import Derived.Lib.ConvBytes
import Derived.Laws.Slices
import Derived.WalkKit
import Derived.KernelRfl
import Derived.RowKit3
import Derived.Deep.LoopGhost
import Derived.Deep.QuietTactic
import Derived.BigQuiet
import Derived.WideLaws
import Derived.Deep.DeepCutAuto
import Derived.Deep.CutBlock
import Derived.Deep.RegionHeld3
import Derived.Laws.Rows
import Derived.Lib.AppendStr
import Derived.ArgAppend
import Derived.Laws.IdiomCopy
import Derived.OrdersHeld
import Derived.Laws.BitsLemmas
import Derived.RowKit
import Derived.Test.YteniemhecfkfoaaWWords
import Derived.Test.YteniemhecfkfoaaWLast
import Derived.Test.YteniemhecfkfoaaWTab
import Derived.Test.YteniemhecfkfoaaWFour
import Derived.Test.YteniemhecfkfoaaWQPut
import Derived.Test.YteniemhecfkfoaaWApart
import Derived.Test.YteniemhecfkfoaaWArr
import Derived.Test.YteniemhecfkfoaaWZeros
import Derived.Test.YteniemhecfkfoaaWFoot
import Derived.Test.YteniemhecfkfoaaWKept
import Derived.Test.YteniemhecfkfoaaWShare
import Derived.Test.YteniemhecfkfoaaWN
import Derived.Test.YteniemhecfkfoaaWFootNe
import Derived.Test.YteniemhecfkfoaaWAt
import Derived.Test.YteniemhecfkfoaaWEqStruct
import Derived.Test.YteniemhecfkfoaaWRepsOne
import Derived.Test.YteniemhecfkfoaaWInv
import Derived.Test.YteniemhecfkfoaaWInvWords
import Derived.Test.YteniemhecfkfoaaWGuard
import Derived.Test.YteniemhecfkfoaaWNEv
import Derived.Test.YteniemhecfkfoaaWMore
namespace Go.Proofs.Yteniemhecfkfoaa.QU
open Go.RowKit Go.Proofs.YteniemhecfkfoaaW.PrintWords Go.Proofs.YteniemhecfkfoaaW.PrintLast Go.Proofs.YteniemhecfkfoaaW.PrintMore
attribute [local go_sem] max2_int min2_int max_two min_two max_three min_three max_four min_four   -- for this text's walks alone
set_option linter.unusedVariables false
set_option linter.unusedSimpArgs false



def errW : Option Int → Value
  | none => .nilIface
  | some c => .iface 0 (.int .i64 c)
theorem errW_none : errW none = .nilIface := rfl
theorem errW_some (c : Int) : errW (some c) = .iface 0 (.int .i64 c) := rfl

theorem info5 : (Try.prog.info? 5).map (fun i => (i.zero, i.size, i.bytes)) = some (some (.int .u8 0), 1, 1) := by kernel_rfl
-- the values' own types

end Go.Proofs.Yteniemhecfkfoaa.QU
