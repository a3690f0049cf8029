/- The pure statement of the law FnExactConstants holds: the printed function answers true; there are no conditions. -/
import Derived.Test.YtidcobnbnedjdaaPFnExactConstantsx1
namespace Go.Proofs.Ytidcobnbnedjdaa.Pure
open Go.RowKit Go.Proofs.Ytidcobnbnedjdaa.PFnExactConstants Go.Proofs.YtidcobnbnedjdaaW.PrintWords Go.Proofs.YtidcobnbnedjdaaW.PrintLast Go.Proofs.YtidcobnbnedjdaaW.PrintMore
set_option linter.unusedVariables false
set_option linter.unusedSimpArgs false


theorem FnExactConstants : laws_FnExactConstants.Pure := by
  unfold laws_FnExactConstants.Pure laws_FnExactConstants.f
  rfl

end Go.Proofs.Ytidcobnbnedjdaa.Pure
