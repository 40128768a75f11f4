-- PRINTED BY print.sh 35421559b90ae4d0a3588c463048766b98c2df88dd9212a6774a882060cdf62d: not written by this session
import Derived.Test.YtkkockpnnoifeaaProg
import Derived.Below
import Derived.Deep.Draws
import Derived.Deep.AppendLies
import Derived.Maps.AppendAt
import Derived.OwnWalk
import Derived.Laws.BytesArg
import Derived.Laws.MakeOwn
import Derived.Laws.OwnMore
import Derived.Deep.OwnRows
import Derived.Tactics
import Derived.Lib.ConvBytes
import Derived.Laws.Slices
import Derived.WalkKit
import Derived.KernelRfl
import Derived.RowKit3
import Derived.Deep.LoopGhost
import Derived.Deep.QuietTactic
import Derived.BigQuiet
import Derived.WideLaws
import Derived.Deep.DeepCutAuto
import Derived.Deep.CutBlock
import Derived.Deep.RegionHeld3
import Derived.Laws.Rows
import Derived.Lib.AppendStr
import Derived.ArgAppend
import Derived.Laws.IdiomCopy
import Derived.OrdersHeld
import Derived.Laws.BitsLemmas
import Derived.RowKit
import Derived.Test.YtkkockpnnoifeaaWWords
import Derived.Test.YtkkockpnnoifeaaWLast
import Derived.Test.YtkkockpnnoifeaaWTab
import Derived.Test.YtkkockpnnoifeaaWFour
import Derived.Test.YtkkockpnnoifeaaWQPut
import Derived.Test.YtkkockpnnoifeaaWApart
import Derived.Test.YtkkockpnnoifeaaWArr
import Derived.Test.YtkkockpnnoifeaaWZeros
import Derived.Test.YtkkockpnnoifeaaWFoot
import Derived.Test.YtkkockpnnoifeaaWKept
import Derived.Test.YtkkockpnnoifeaaWShare
import Derived.Test.YtkkockpnnoifeaaWN
import Derived.Test.YtkkockpnnoifeaaWFootNe
import Derived.Test.YtkkockpnnoifeaaWAt
import Derived.Test.YtkkockpnnoifeaaWEqStruct
import Derived.Test.YtkkockpnnoifeaaWRepsOne
import Derived.Test.YtkkockpnnoifeaaWInv
import Derived.Test.YtkkockpnnoifeaaWInvWords
import Derived.Test.YtkkockpnnoifeaaWGuard
import Derived.Test.YtkkockpnnoifeaaWNEv
import Derived.Test.YtkkockpnnoifeaaWMore
namespace Go.Proofs.Ytkkockpnnoifeaa.PFnExactPlanFrom
open Go.RowKit Go.Proofs.YtkkockpnnoifeaaW.PrintWords Go.Proofs.YtkkockpnnoifeaaW.PrintLast Go.Proofs.YtkkockpnnoifeaaW.PrintMore
attribute [local go_sem] max2_int min2_int max_two min_two max_three min_three max_four min_four   -- for this text's walks alone
set_option linter.unusedVariables false
set_option linter.unusedSimpArgs false



def errW : Option Int → Value
  | none => .nilIface
  | some c => .iface 0 (.int .i64 c)
theorem errW_none : errW none = .nilIface := rfl
theorem errW_some (c : Int) : errW (some c) = .iface 0 (.int .i64 c) := rfl

theorem info3 : (Try.prog.info? 3).map (fun i => (i.zero, i.size, i.bytes)) = some (some (.int .i64 0), 1, 8) := by kernel_rfl
-- the values' own types

end Go.Proofs.Ytkkockpnnoifeaa.PFnExactPlanFrom
