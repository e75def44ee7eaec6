/- The law FnExactConstants, over numbers and lists alone: for every input that the statement lets in, some number of rounds tells true. -/
import Derived.Test.YtohbbdklddinoaaPFnExactConstantsx1
import Derived.Test.YtohbbdklddinoaaMath
import Derived.Test.YtohbbdklddinoaaMath2
set_option linter.unusedVariables false
set_option linter.unusedSimpArgs false
namespace Go.Proofs.Ytohbbdklddinoaa.Pure
open Go.RowKit Go.Proofs.Ytohbbdklddinoaa.PFnExactConstants Go.Proofs.YtohbbdklddinoaaW.PrintWords Go.Proofs.YtohbbdklddinoaaW.PrintLast Go.Proofs.YtohbbdklddinoaaW.PrintMore Go.Proofs.Ytohbbdklddinoaa.M

theorem FnExactConstants : laws_FnExactConstants.Pure := by
  unfold laws_FnExactConstants.Pure
  first | rfl | exact ⟨0, rfl⟩ | (simp [laws_FnExactConstants.f])

end Go.Proofs.Ytohbbdklddinoaa.Pure
