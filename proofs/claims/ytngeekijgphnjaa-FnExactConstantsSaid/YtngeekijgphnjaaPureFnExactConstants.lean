/- The statement FnExactConstants: what the given program's printed functions answer, as the law asks; no condition. -/
import Derived.Test.YtngeekijgphnjaaPFnExactConstantsx1
set_option linter.unusedVariables false
set_option linter.unusedSimpArgs false
namespace Go.Proofs.Ytngeekijgphnjaa.Pure
open Go.RowKit Go.Proofs.Ytngeekijgphnjaa.PFnExactConstants Go.Proofs.YtngeekijgphnjaaW.PrintWords Go.Proofs.YtngeekijgphnjaaW.PrintLast Go.Proofs.YtngeekijgphnjaaW.PrintMore
/-! snippet FnExactConstants -/
theorem FnExactConstants : laws_FnExactConstants.Pure := rfl

end Go.Proofs.Ytngeekijgphnjaa.Pure
