/- What the reference's copy of an image answers. No conditions. -/
import Derived.Test.YtibbkaoghbmncaaSpecI
import Derived.Test.YtibbkaoghbmncaaQ4
namespace Go.Proofs.Ytibbkaoghbmncaa.B
open Go.RowKit Go.Proofs.Ytibbkaoghbmncaa.Q Go.Proofs.YtibbkaoghbmncaaW.PrintWords Go.Proofs.YtibbkaoghbmncaaW.PrintLast Go.Proofs.YtibbkaoghbmncaaW.PrintMore
set_option linter.unusedVariables false

theorem specCopyImage_eq (w h p : Int) (D : List Int) (hn : D.length ≤ 2000000) : spec_copyImage.f w h p D = some (w, h, p, D) := by
  unfold spec_copyImage.f
  rw [specCopy D (by omega)]
  rfl

end Go.Proofs.Ytibbkaoghbmncaa.B
