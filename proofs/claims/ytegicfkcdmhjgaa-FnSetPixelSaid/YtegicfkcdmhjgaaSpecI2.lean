/- What the reference's copy of an image answers. No conditions. -/
import Derived.Test.YtegicfkcdmhjgaaSpecI
import Derived.Test.YtegicfkcdmhjgaaQ1
namespace Go.Proofs.Ytegicfkcdmhjgaa.B
open Go.RowKit Go.Proofs.Ytegicfkcdmhjgaa.Q Go.Proofs.YtegicfkcdmhjgaaW.PrintWords Go.Proofs.YtegicfkcdmhjgaaW.PrintLast Go.Proofs.YtegicfkcdmhjgaaW.PrintMore
set_option linter.unusedVariables false

theorem specCopyImage_eq (w h p : Int) (D : List Int) (hn : D.length ≤ 2000000) : spec_copyImage.f w h p D = some (w, h, p, D) := by
  unfold spec_copyImage.f
  rw [specCopy D (by omega)]
  rfl

end Go.Proofs.Ytegicfkcdmhjgaa.B
