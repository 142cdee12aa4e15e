/- The mirror of valid images, as the functions answer them. No conditions. -/
import Derived.Test.YtibbkaoghbmncaaTurnM
import Derived.Test.YtibbkaoghbmncaaTurnL
namespace Go.Proofs.Ytibbkaoghbmncaa.B
open Go.RowKit Go.Proofs.Ytibbkaoghbmncaa.Q Go.Proofs.YtibbkaoghbmncaaW.PrintWords Go.Proofs.YtibbkaoghbmncaaW.PrintLast Go.Proofs.YtibbkaoghbmncaaW.PrintMore
set_option linter.unusedVariables false

theorem mirrorP_N {W H p : Nat} {D : List Int} (h : okImg (W : Int) (H : Int) (p : Int) D = true) : mirrorP (W : Int) (H : Int) (p : Int) D = ((W : Int), (H : Int), (p : Int), mirN W H p D) := by
  unfold mirrorP
  rw [if_pos h]
  simp only [Int.toNat_natCast]
  rfl

end Go.Proofs.Ytibbkaoghbmncaa.B
