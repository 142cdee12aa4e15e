/- What the reference's test of a place answers. No conditions. -/
import Derived.Test.YtegicfkcdmhjgaaSpecI
import Derived.Test.YtegicfkcdmhjgaaQ1
namespace Go.Proofs.Ytegicfkcdmhjgaa.B
open Go.RowKit Go.Proofs.Ytegicfkcdmhjgaa.Q Go.Proofs.YtegicfkcdmhjgaaW.PrintWords Go.Proofs.YtegicfkcdmhjgaaW.PrintLast Go.Proofs.YtegicfkcdmhjgaaW.PrintMore
set_option linter.unusedVariables false

theorem specOnImage_eq (w h p : Int) (D : List Int) (x y : Int) (hw : 0 ≤ w ∧ w ≤ 1000) (hh : 0 ≤ h ∧ h ≤ 1000) : spec_onImage.f w h p D x y = some ((decide (0 ≤ x) && decide (x < w)) && (decide (0 ≤ y) && decide (y < h))) := by
  unfold spec_onImage.f
  rw [inRange_eq, inRange_eq, w64 (x := w - 1) (by omega) (by omega), w64 (x := h - 1) (by omega) (by omega)]
  simp only [Option.bind_some]
  rw [show decide (x ≤ w - 1) = decide (x < w) from by rw [decide_eq_decide]; omega, show decide (y ≤ h - 1) = decide (y < h) from by rw [decide_eq_decide]; omega]
  cases (decide (0 ≤ x) && decide (x < w)) <;> simp

end Go.Proofs.Ytegicfkcdmhjgaa.B
