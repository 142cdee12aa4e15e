/- The transposing of valid images, as the functions answer them. No conditions. -/
import Derived.Test.YtibbkaoghbmncaaTurnX
import Derived.Test.YtibbkaoghbmncaaTurnL
namespace Go.Proofs.Ytibbkaoghbmncaa.B
open Go.RowKit Go.Proofs.Ytibbkaoghbmncaa.Q Go.Proofs.YtibbkaoghbmncaaW.PrintWords Go.Proofs.YtibbkaoghbmncaaW.PrintLast Go.Proofs.YtibbkaoghbmncaaW.PrintMore
set_option linter.unusedVariables false

theorem transposeP_N {W H p : Nat} {D : List Int} (h : okImg (W : Int) (H : Int) (p : Int) D = true) : transposeP (W : Int) (H : Int) (p : Int) D = ((H : Int), (W : Int), (p : Int), traN W H p D) := by
  unfold transposeP
  rw [if_pos h]
  simp only [Int.toNat_natCast]
  rfl

end Go.Proofs.Ytibbkaoghbmncaa.B
