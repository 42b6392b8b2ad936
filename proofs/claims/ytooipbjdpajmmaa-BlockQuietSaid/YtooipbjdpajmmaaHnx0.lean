/- The machine's side of laws of the seat Ytooipbjdpajmmaa, printed by a program of this session over the kit's printer: functions of the Go program as Lean functions, each with a proof that the call computes it. Conditions: none beyond each theorem's own. -/
import Derived.Test.YtooipbjdpajmmaaProg
import Derived.Below
import Derived.Deep.Draws
import Derived.Deep.AppendLies
import Derived.Maps.AppendAt
import Derived.OwnWalk
import Derived.Laws.BytesArg
import Derived.Laws.MakeOwn
import Derived.Laws.OwnMore
import Derived.Deep.OwnRows
import Derived.Tactics
import Derived.Lib.ConvBytes
import Derived.Laws.Slices
import Derived.WalkKit
import Derived.KernelRfl
import Derived.RowKit3
import Derived.Deep.LoopGhost
import Derived.Deep.QuietTactic
import Derived.BigQuiet
import Derived.WideLaws
import Derived.Deep.DeepCutAuto
import Derived.Deep.CutBlock
import Derived.Deep.RegionHeld3
import Derived.Laws.Rows
import Derived.Lib.AppendStr
import Derived.ArgAppend
import Derived.Laws.IdiomCopy
import Derived.OrdersHeld
import Derived.Laws.BitsLemmas
import Derived.RowKit
import Derived.RangeFuncNested
import Derived.RangeFuncBound
import Derived.RangeFuncCalls
import Derived.RangeFuncLeaves
import Derived.Shelf.Abstract
import Derived.Shelf.RegionOpen
import Derived.OwnWalkIn
import Derived.TacticsInMore
import Derived.LoopNIn
import Derived.LoopIn
import Derived.RangeFuncBox
import Derived.Lib.Hide
import Derived.StillTailTactics
import Derived.Test.YtooipbjdpajmmaaWWords
import Derived.Test.YtooipbjdpajmmaaWLast
import Derived.Test.YtooipbjdpajmmaaWTab
import Derived.Test.YtooipbjdpajmmaaWFour
import Derived.Test.YtooipbjdpajmmaaWQPut
import Derived.Test.YtooipbjdpajmmaaWApart
import Derived.Test.YtooipbjdpajmmaaWArr
import Derived.Test.YtooipbjdpajmmaaWZeros
import Derived.Test.YtooipbjdpajmmaaWFoot
import Derived.Test.YtooipbjdpajmmaaWKept
import Derived.Test.YtooipbjdpajmmaaWShare
import Derived.Test.YtooipbjdpajmmaaWN
import Derived.Test.YtooipbjdpajmmaaWFootNe
import Derived.Test.YtooipbjdpajmmaaWAt
import Derived.Test.YtooipbjdpajmmaaWEqStruct
import Derived.Test.YtooipbjdpajmmaaWRepsOne
import Derived.Test.YtooipbjdpajmmaaWInv
import Derived.Test.YtooipbjdpajmmaaWInvWords
import Derived.Test.YtooipbjdpajmmaaWGuard
import Derived.Test.YtooipbjdpajmmaaWNEv
import Derived.Test.YtooipbjdpajmmaaWMore
namespace Go.Proofs.Ytooipbjdpajmmaa.Hn
open Go.RowKit Go.Proofs.YtooipbjdpajmmaaW.PrintWords Go.Proofs.YtooipbjdpajmmaaW.PrintLast Go.Proofs.YtooipbjdpajmmaaW.PrintMore
attribute [local go_sem] max2_int min2_int max_two min_two max_three min_three max_four min_four   -- for this text's walks alone
set_option linter.unusedVariables false
set_option linter.unusedSimpArgs false



def errW : Option Int → Value
  | none => .nilIface
  | some c => .iface 0 (.int .i64 c)
theorem errW_none : errW none = .nilIface := rfl
theorem errW_some (c : Int) : errW (some c) = .iface 0 (.int .i64 c) := rfl

theorem info3 : (Try.prog.info? 3).map (fun i => (i.zero, i.size, i.bytes)) = some (some (.int .i64 0), 1, 8) := by kernel_rfl
theorem info4 : (Try.prog.info? 4).map (fun i => (i.zero, i.size, i.bytes)) = some (some (.bool false), 1, 1) := by kernel_rfl
-- the values' own types

end Go.Proofs.Ytooipbjdpajmmaa.Hn
