-- printed for this claim by a program (pall.sh)
import Derived.Test.YtbebkogkeepfoaaProg
import Derived.Below
import Derived.Deep.Draws
import Derived.Deep.AppendLies
import Derived.Maps.AppendAt
import Derived.OwnWalk
import Derived.Laws.BytesArg
import Derived.Laws.MakeOwn
import Derived.Laws.OwnMore
import Derived.Deep.OwnRows
import Derived.Tactics
import Derived.Lib.ConvBytes
import Derived.Laws.Slices
import Derived.WalkKit
import Derived.KernelRfl
import Derived.RowKit3
import Derived.Deep.LoopGhost
import Derived.Deep.QuietTactic
import Derived.BigQuiet
import Derived.WideLaws
import Derived.Deep.DeepCutAuto
import Derived.Deep.CutBlock
import Derived.Deep.RegionHeld3
import Derived.Laws.Rows
import Derived.Lib.AppendStr
import Derived.ArgAppend
import Derived.Laws.IdiomCopy
import Derived.OrdersHeld
import Derived.Laws.BitsLemmas
import Derived.RowKit
import Derived.Test.YtbebkogkeepfoaaWWords
import Derived.Test.YtbebkogkeepfoaaWLast
import Derived.Test.YtbebkogkeepfoaaWTab
import Derived.Test.YtbebkogkeepfoaaWFour
import Derived.Test.YtbebkogkeepfoaaWQPut
import Derived.Test.YtbebkogkeepfoaaWApart
import Derived.Test.YtbebkogkeepfoaaWArr
import Derived.Test.YtbebkogkeepfoaaWZeros
import Derived.Test.YtbebkogkeepfoaaWFoot
import Derived.Test.YtbebkogkeepfoaaWKept
import Derived.Test.YtbebkogkeepfoaaWShare
import Derived.Test.YtbebkogkeepfoaaWN
import Derived.Test.YtbebkogkeepfoaaWFootNe
import Derived.Test.YtbebkogkeepfoaaWAt
import Derived.Test.YtbebkogkeepfoaaWEqStruct
import Derived.Test.YtbebkogkeepfoaaWRepsOne
import Derived.Test.YtbebkogkeepfoaaWInv
import Derived.Test.YtbebkogkeepfoaaWInvWords
import Derived.Test.YtbebkogkeepfoaaWGuard
import Derived.Test.YtbebkogkeepfoaaWNEv
import Derived.Test.YtbebkogkeepfoaaWMore
namespace Go.Proofs.Ytbebkogkeepfoaa.PZ
open Go.RowKit Go.Proofs.YtbebkogkeepfoaaW.PrintWords Go.Proofs.YtbebkogkeepfoaaW.PrintLast Go.Proofs.YtbebkogkeepfoaaW.PrintMore
attribute [local go_sem] max2_int min2_int max_two min_two max_three min_three max_four min_four   -- for this text's walks alone
set_option linter.unusedVariables false
set_option linter.unusedSimpArgs false



def errW : Option Int → Value
  | none => .nilIface
  | some c => .iface 0 (.int .i64 c)
theorem errW_none : errW none = .nilIface := rfl
theorem errW_some (c : Int) : errW (some c) = .iface 0 (.int .i64 c) := rfl

theorem info5 : (Try.prog.info? 5).map (fun i => (i.zero, i.size, i.bytes)) = some (some (.int .u8 0), 1, 1) := by kernel_rfl
-- the values' own types

end Go.Proofs.Ytbebkogkeepfoaa.PZ
