/- The pure statement of the law FnExactConstants: what the program's function answers is what the reference answers, for all arguments of the kinds of its parameters. -/
import Derived.Test.YtnojmhcmngejnaaPFnExactConstantsx1
import Derived.Test.YtnojmhcmngejnaaBase
namespace Go.Proofs.Ytnojmhcmngejnaa.Pure
set_option linter.unusedSimpArgs false
open Go.RowKit Go.Proofs.Ytnojmhcmngejnaa.PFnExactConstants Go.Proofs.YtnojmhcmngejnaaW.PrintWords Go.Proofs.YtnojmhcmngejnaaW.PrintLast Go.Proofs.Ytnojmhcmngejnaa.Base

/-! LAW FnExactConstants -/
theorem FnExactConstants : laws_FnExactConstants.Pure := by
  unfold laws_FnExactConstants.Pure
  rfl

end Go.Proofs.Ytnojmhcmngejnaa.Pure
