/- Written by a program of this session (inject.py) with the help of the kit's print: contracts of the law's functions, each a plain Lean function and the proof that the machine's call answers it; the functions with function values are walked by hand. -/
import Derived.Test.YtbdbogpmnmcaeaaProg
import Derived.Below
import Derived.Deep.Draws
import Derived.Deep.AppendLies
import Derived.Maps.AppendAt
import Derived.OwnWalk
import Derived.Laws.BytesArg
import Derived.Laws.MakeOwn
import Derived.Laws.OwnMore
import Derived.Deep.OwnRows
import Derived.Tactics
import Derived.Lib.ConvBytes
import Derived.Laws.Slices
import Derived.WalkKit
import Derived.KernelRfl
import Derived.RowKit3
import Derived.Deep.LoopGhost
import Derived.Deep.QuietTactic
import Derived.BigQuiet
import Derived.WideLaws
import Derived.Deep.DeepCutAuto
import Derived.Deep.CutBlock
import Derived.Deep.RegionHeld3
import Derived.Laws.Rows
import Derived.Lib.AppendStr
import Derived.ArgAppend
import Derived.Laws.IdiomCopy
import Derived.OrdersHeld
import Derived.Laws.BitsLemmas
import Derived.RowKit
import Derived.Test.YtbdbogpmnmcaeaaShelf
import Derived.Test.YtbdbogpmnmcaeaaWWords
import Derived.Test.YtbdbogpmnmcaeaaWLast
import Derived.Test.YtbdbogpmnmcaeaaWTab
import Derived.Test.YtbdbogpmnmcaeaaWFour
import Derived.Test.YtbdbogpmnmcaeaaWQPut
import Derived.Test.YtbdbogpmnmcaeaaWApart
import Derived.Test.YtbdbogpmnmcaeaaWArr
import Derived.Test.YtbdbogpmnmcaeaaWZeros
import Derived.Test.YtbdbogpmnmcaeaaWFoot
import Derived.Test.YtbdbogpmnmcaeaaWKept
import Derived.Test.YtbdbogpmnmcaeaaWShare
import Derived.Test.YtbdbogpmnmcaeaaWN
import Derived.Test.YtbdbogpmnmcaeaaWFootNe
import Derived.Test.YtbdbogpmnmcaeaaWAt
import Derived.Test.YtbdbogpmnmcaeaaWEqStruct
import Derived.Test.YtbdbogpmnmcaeaaWRepsOne
import Derived.Test.YtbdbogpmnmcaeaaWInv
import Derived.Test.YtbdbogpmnmcaeaaWInvWords
import Derived.Test.YtbdbogpmnmcaeaaWGuard
import Derived.Test.YtbdbogpmnmcaeaaWNEv
import Derived.Test.YtbdbogpmnmcaeaaWMore
namespace Go.Proofs.Ytbdbogpmnmcaeaa.PFnExactJoinStrings
open Go.RowKit Go.Proofs.YtbdbogpmnmcaeaaW.PrintWords Go.Proofs.YtbdbogpmnmcaeaaW.PrintLast Go.Proofs.YtbdbogpmnmcaeaaW.PrintMore
attribute [local go_sem] max2_int min2_int max_two min_two max_three min_three max_four min_four   -- for this text's walks alone
set_option linter.unusedVariables false
set_option linter.unusedSimpArgs false



def errW : Option Int → Value
  | none => .nilIface
  | some c => .iface 0 (.int .i64 c)
theorem errW_none : errW none = .nilIface := rfl
theorem errW_some (c : Int) : errW (some c) = .iface 0 (.int .i64 c) := rfl

theorem info9 : (Try.prog.info? 9).map (fun i => (i.zero, i.size, i.bytes)) = some (some (.string ⟨#[]⟩), 1, 16) := by kernel_rfl
-- the values' own types

end Go.Proofs.Ytbdbogpmnmcaeaa.PFnExactJoinStrings
