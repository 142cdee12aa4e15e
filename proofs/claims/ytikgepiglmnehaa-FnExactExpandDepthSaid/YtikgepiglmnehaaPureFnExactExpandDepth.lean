/- The program's ExpandDepth answers what the reference's answers, at every two numbers. -/
import Derived.Test.YtikgepiglmnehaaDepth
import Derived.Test.YtikgepiglmnehaaQ1
namespace Go.Proofs.Ytikgepiglmnehaa.Pure
open Go.RowKit Go.Proofs.Ytikgepiglmnehaa.Q Go.Proofs.Ytikgepiglmnehaa.B Go.Proofs.YtikgepiglmnehaaW.PrintWords Go.Proofs.YtikgepiglmnehaaW.PrintLast Go.Proofs.YtikgepiglmnehaaW.PrintMore
set_option linter.unusedVariables false

theorem FnExactExpandDepth : laws_FnExactExpandDepth.Pure := by
  intro n d _ _
  unfold laws_FnExactExpandDepth.f
  rw [specExp_eq, implExp_eq]
  simp

end Go.Proofs.Ytikgepiglmnehaa.Pure
