/- Written by a program of this session (inject.py) with the help of the kit's print: contracts of the law's functions, each a plain Lean function and the proof that the machine's call answers it; the functions with function values are walked by hand. -/
import Derived.Test.YtdphfhjlbjkdgaaProg
import Derived.Below
import Derived.Deep.Draws
import Derived.Deep.AppendLies
import Derived.Maps.AppendAt
import Derived.OwnWalk
import Derived.Laws.BytesArg
import Derived.Laws.MakeOwn
import Derived.Laws.OwnMore
import Derived.Deep.OwnRows
import Derived.Tactics
import Derived.Lib.ConvBytes
import Derived.Laws.Slices
import Derived.WalkKit
import Derived.KernelRfl
import Derived.RowKit3
import Derived.Deep.LoopGhost
import Derived.Deep.QuietTactic
import Derived.BigQuiet
import Derived.WideLaws
import Derived.Deep.DeepCutAuto
import Derived.Deep.CutBlock
import Derived.Deep.RegionHeld3
import Derived.Laws.Rows
import Derived.Lib.AppendStr
import Derived.ArgAppend
import Derived.Laws.IdiomCopy
import Derived.OrdersHeld
import Derived.Laws.BitsLemmas
import Derived.RowKit
import Derived.Test.YtdphfhjlbjkdgaaWWords
import Derived.Test.YtdphfhjlbjkdgaaWLast
import Derived.Test.YtdphfhjlbjkdgaaWTab
import Derived.Test.YtdphfhjlbjkdgaaWFour
import Derived.Test.YtdphfhjlbjkdgaaWQPut
import Derived.Test.YtdphfhjlbjkdgaaWApart
import Derived.Test.YtdphfhjlbjkdgaaWArr
import Derived.Test.YtdphfhjlbjkdgaaWZeros
import Derived.Test.YtdphfhjlbjkdgaaWFoot
import Derived.Test.YtdphfhjlbjkdgaaWKept
import Derived.Test.YtdphfhjlbjkdgaaWShare
import Derived.Test.YtdphfhjlbjkdgaaWN
import Derived.Test.YtdphfhjlbjkdgaaWFootNe
import Derived.Test.YtdphfhjlbjkdgaaWAt
import Derived.Test.YtdphfhjlbjkdgaaWEqStruct
import Derived.Test.YtdphfhjlbjkdgaaWRepsOne
import Derived.Test.YtdphfhjlbjkdgaaWInv
import Derived.Test.YtdphfhjlbjkdgaaWInvWords
import Derived.Test.YtdphfhjlbjkdgaaWGuard
import Derived.Test.YtdphfhjlbjkdgaaWNEv
import Derived.Test.YtdphfhjlbjkdgaaWMore
namespace Go.Proofs.Ytdphfhjlbjkdgaa.PFnExactOrderUpTo
open Go.RowKit Go.Proofs.YtdphfhjlbjkdgaaW.PrintWords Go.Proofs.YtdphfhjlbjkdgaaW.PrintLast Go.Proofs.YtdphfhjlbjkdgaaW.PrintMore
attribute [local go_sem] max2_int min2_int max_two min_two max_three min_three max_four min_four   -- for this text's walks alone
set_option linter.unusedVariables false
set_option linter.unusedSimpArgs false



def errW : Option Int → Value
  | none => .nilIface
  | some c => .iface 0 (.int .i64 c)
theorem errW_none : errW none = .nilIface := rfl
theorem errW_some (c : Int) : errW (some c) = .iface 0 (.int .i64 c) := rfl

theorem info3 : (Try.prog.info? 3).map (fun i => (i.zero, i.size, i.bytes)) = some (some (.int .i64 0), 1, 8) := by kernel_rfl
-- the values' own types

end Go.Proofs.Ytdphfhjlbjkdgaa.PFnExactOrderUpTo
