-- Written by a program of this session (wip/tools/bundle.sh), which turns the kit's print for functions given by hand. Lean checks it.
import Derived.Test.YtgkjagfdlhcgjaaProg
import Derived.Below
import Derived.Deep.Draws
import Derived.Deep.AppendLies
import Derived.Maps.AppendAt
import Derived.OwnWalk
import Derived.Laws.BytesArg
import Derived.Laws.MakeOwn
import Derived.Laws.OwnMore
import Derived.Deep.OwnRows
import Derived.Tactics
import Derived.Lib.ConvBytes
import Derived.Laws.Slices
import Derived.WalkKit
import Derived.KernelRfl
import Derived.RowKit3
import Derived.Deep.LoopGhost
import Derived.Deep.QuietTactic
import Derived.BigQuiet
import Derived.WideLaws
import Derived.Deep.DeepCutAuto
import Derived.Deep.CutBlock
import Derived.Deep.RegionHeld3
import Derived.Laws.Rows
import Derived.Lib.AppendStr
import Derived.ArgAppend
import Derived.Laws.IdiomCopy
import Derived.OrdersHeld
import Derived.Laws.BitsLemmas
import Derived.RowKit
import Derived.Test.YtgkjagfdlhcgjaaWWords
import Derived.Test.YtgkjagfdlhcgjaaWLast
import Derived.Test.YtgkjagfdlhcgjaaWTab
import Derived.Test.YtgkjagfdlhcgjaaWFour
import Derived.Test.YtgkjagfdlhcgjaaWQPut
import Derived.Test.YtgkjagfdlhcgjaaWApart
import Derived.Test.YtgkjagfdlhcgjaaWArr
import Derived.Test.YtgkjagfdlhcgjaaWZeros
import Derived.Test.YtgkjagfdlhcgjaaWFoot
import Derived.Test.YtgkjagfdlhcgjaaWKept
import Derived.Test.YtgkjagfdlhcgjaaWShare
import Derived.Test.YtgkjagfdlhcgjaaWN
import Derived.Test.YtgkjagfdlhcgjaaWFootNe
import Derived.Test.YtgkjagfdlhcgjaaWAt
import Derived.Test.YtgkjagfdlhcgjaaWEqStruct
import Derived.Test.YtgkjagfdlhcgjaaWRepsOne
import Derived.Test.YtgkjagfdlhcgjaaWInv
import Derived.Test.YtgkjagfdlhcgjaaWInvWords
import Derived.Test.YtgkjagfdlhcgjaaWGuard
import Derived.Test.YtgkjagfdlhcgjaaWNEv
import Derived.Test.YtgkjagfdlhcgjaaWMore
namespace Go.Proofs.Ytgkjagfdlhcgjaa.QU
open Go.RowKit Go.Proofs.YtgkjagfdlhcgjaaW.PrintWords Go.Proofs.YtgkjagfdlhcgjaaW.PrintLast Go.Proofs.YtgkjagfdlhcgjaaW.PrintMore
attribute [local go_sem] max2_int min2_int max_two min_two max_three min_three max_four min_four   -- for this text's walks alone
set_option linter.unusedVariables false
set_option linter.unusedSimpArgs false



def errW : Option Int → Value
  | none => .nilIface
  | some c => .iface 0 (.int .i64 c)
theorem errW_none : errW none = .nilIface := rfl
theorem errW_some (c : Int) : errW (some c) = .iface 0 (.int .i64 c) := rfl

theorem info5 : (Try.prog.info? 5).map (fun i => (i.zero, i.size, i.bytes)) = some (some (.int .u8 0), 1, 1) := by kernel_rfl
-- the values' own types

end Go.Proofs.Ytgkjagfdlhcgjaa.QU
