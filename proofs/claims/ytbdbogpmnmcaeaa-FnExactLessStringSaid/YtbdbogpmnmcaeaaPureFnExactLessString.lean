/- The pure statement of the law FnExactLessString: what the program's function answers is what the reference answers, for all arguments of the kinds of its parameters. -/
import Derived.Test.YtbdbogpmnmcaeaaPFnExactLessStringx1
import Derived.Test.YtbdbogpmnmcaeaaBase
namespace Go.Proofs.Ytbdbogpmnmcaeaa.Pure
set_option linter.unusedSimpArgs false
open Go.RowKit Go.Proofs.Ytbdbogpmnmcaeaa.PFnExactLessString Go.Proofs.YtbdbogpmnmcaeaaW.PrintWords Go.Proofs.YtbdbogpmnmcaeaaW.PrintLast Go.Proofs.Ytbdbogpmnmcaeaa.Base

/-! LAW FnExactLessString -/
theorem FnExactLessString : laws_FnExactLessString.Pure := by
  intro a b _ _
  unfold laws_FnExactLessString.f spec_LessString.f impl_LessString.f
  simp


end Go.Proofs.Ytbdbogpmnmcaeaa.Pure
