/- What the reference's copy of an image and its test of a place answer. No conditions. -/
import Derived.Test.YtmljcnhecjlinaaSpecI
import Derived.Test.YtmljcnhecjlinaaQ11
namespace Go.Proofs.Ytmljcnhecjlinaa.B
open Go.RowKit Go.Proofs.Ytmljcnhecjlinaa.Q Go.Proofs.YtmljcnhecjlinaaW.PrintWords Go.Proofs.YtmljcnhecjlinaaW.PrintLast Go.Proofs.YtmljcnhecjlinaaW.PrintMore
set_option linter.unusedVariables false

theorem specCopyImage_eq (w h p : Int) (D : List Int) (hn : D.length ≤ 2000000) : spec_copyImage.f w h p D = some (w, h, p, D) := by
  unfold spec_copyImage.f
  rw [specCopy D (by omega)]
  rfl
theorem specOnImage_eq (w h p : Int) (D : List Int) (x y : Int) (hw : 0 ≤ w ∧ w ≤ 1000) (hh : 0 ≤ h ∧ h ≤ 1000) : spec_onImage.f w h p D x y = some ((decide (0 ≤ x) && decide (x < w)) && (decide (0 ≤ y) && decide (y < h))) := by
  unfold spec_onImage.f
  rw [inRange_eq, inRange_eq, w64 (x := w - 1) (by omega) (by omega), w64 (x := h - 1) (by omega) (by omega)]
  simp only [Option.bind_some]
  rw [show decide (x ≤ w - 1) = decide (x < w) from by rw [decide_eq_decide]; omega, show decide (y ≤ h - 1) = decide (y < h) from by rw [decide_eq_decide]; omega]
  cases (decide (0 ≤ x) && decide (x < w)) <;> simp

end Go.Proofs.Ytmljcnhecjlinaa.B
