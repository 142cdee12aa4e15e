/- The program's ReduceDepth answers what the reference's answers, at every two numbers. -/
import Derived.Test.YtikgepiglmnehaaDepth
import Derived.Test.YtikgepiglmnehaaQ1
namespace Go.Proofs.Ytikgepiglmnehaa.Pure
open Go.RowKit Go.Proofs.Ytikgepiglmnehaa.Q Go.Proofs.Ytikgepiglmnehaa.B Go.Proofs.YtikgepiglmnehaaW.PrintWords Go.Proofs.YtikgepiglmnehaaW.PrintLast Go.Proofs.YtikgepiglmnehaaW.PrintMore
set_option linter.unusedVariables false

theorem FnExactReduceDepth : laws_FnExactReduceDepth.Pure := by
  intro n d _ _
  unfold laws_FnExactReduceDepth.f
  rw [specRed_eq, implRed_eq]
  simp

end Go.Proofs.Ytikgepiglmnehaa.Pure
