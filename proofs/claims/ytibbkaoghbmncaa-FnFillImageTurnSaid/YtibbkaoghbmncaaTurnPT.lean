/- The turns of valid images, as the functions answer them. No conditions. -/
import Derived.Test.YtibbkaoghbmncaaTurnT
import Derived.Test.YtibbkaoghbmncaaTurnL
namespace Go.Proofs.Ytibbkaoghbmncaa.B
open Go.RowKit Go.Proofs.Ytibbkaoghbmncaa.Q Go.Proofs.YtibbkaoghbmncaaW.PrintWords Go.Proofs.YtibbkaoghbmncaaW.PrintLast Go.Proofs.YtibbkaoghbmncaaW.PrintMore
set_option linter.unusedVariables false

theorem turnN_1 (W H p : Nat) (D : List Int) : turnN (p : Int) 1 ((W : Int), (H : Int), D) = ((H : Int), (W : Int), turN W H p D) := turn1_nat W H p D
theorem turnN_2 (W H p : Nat) (D : List Int) : turnN (p : Int) 2 ((W : Int), (H : Int), D) = ((W : Int), (H : Int), turN H W p (turN W H p D)) := by
  show turn1 (p : Int) (turnN (p : Int) 1 ((W : Int), (H : Int), D)) = _
  rw [turnN_1, turn1_nat]
  rfl
theorem turnN_3 (W H p : Nat) (D : List Int) : turnN (p : Int) 3 ((W : Int), (H : Int), D) = ((H : Int), (W : Int), turN W H p (turN H W p (turN W H p D))) := by
  show turn1 (p : Int) (turnN (p : Int) 2 ((W : Int), (H : Int), D)) = _
  rw [turnN_2, turn1_nat]
  rfl
theorem turnP_0 {W H p : Nat} {D : List Int} (h : okImg (W : Int) (H : Int) (p : Int) D = true) : turnP (W : Int) (H : Int) (p : Int) D 0 = ((W : Int), (H : Int), (p : Int), D) := by
  unfold turnP
  rw [if_pos ⟨h, by omega⟩]
  rfl
theorem turnP_1 {W H p : Nat} {D : List Int} (h : okImg (W : Int) (H : Int) (p : Int) D = true) : turnP (W : Int) (H : Int) (p : Int) D 1 = ((H : Int), (W : Int), (p : Int), turN W H p D) := by
  unfold turnP
  rw [if_pos ⟨h, by omega⟩, show (1 : Int).toNat = 1 from rfl, turnN_1]
theorem turnP_2 {W H p : Nat} {D : List Int} (h : okImg (W : Int) (H : Int) (p : Int) D = true) : turnP (W : Int) (H : Int) (p : Int) D 2 = ((W : Int), (H : Int), (p : Int), turN H W p (turN W H p D)) := by
  unfold turnP
  rw [if_pos ⟨h, by omega⟩, show (2 : Int).toNat = 2 from rfl, turnN_2]
theorem turnP_3 {W H p : Nat} {D : List Int} (h : okImg (W : Int) (H : Int) (p : Int) D = true) : turnP (W : Int) (H : Int) (p : Int) D 3 = ((H : Int), (W : Int), (p : Int), turN W H p (turN H W p (turN W H p D))) := by
  unfold turnP
  rw [if_pos ⟨h, by omega⟩, show (3 : Int).toNat = 3 from rfl, turnN_3]
theorem turnP_no (w h p : Int) (D : List Int) (n : Int) (g : ¬ (okImg w h p D = true ∧ (0 ≤ n ∧ n ≤ 3))) : turnP w h p D n = (0, 0, 0, []) := by
  unfold turnP
  rw [if_neg g]

end Go.Proofs.Ytibbkaoghbmncaa.B
