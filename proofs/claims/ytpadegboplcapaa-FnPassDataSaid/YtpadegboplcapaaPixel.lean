/- What PixelAt answers, in the program. No conditions. -/
import Derived.Test.YtpadegboplcapaaSpecI
import Derived.Test.YtpadegboplcapaaQ7
namespace Go.Proofs.Ytpadegboplcapaa.B
open Go.RowKit Go.Proofs.Ytpadegboplcapaa.Q Go.Proofs.YtpadegboplcapaaW.PrintWords Go.Proofs.YtpadegboplcapaaW.PrintLast Go.Proofs.YtpadegboplcapaaW.PrintMore
set_option linter.unusedVariables false

def pixelP (w h p : Int) (D : List Int) (x y : Int) : List Int := if okImg w h p D = true ∧ onImg w h x y = true then pix D w.toNat p.toNat x.toNat y.toNat else []
theorem implPixel_eq (w h p : Int) (D : List Int) (x y : Int) : impl_PixelAt.f w h p D x y = some (pixelP w h p D x y) := by
  unfold impl_PixelAt.f pixelP
  split <;> rfl
theorem pixelP_in {W H p x y : Nat} {D : List Int} (hv : okImg (W : Int) (H : Int) (p : Int) D = true) (hx : x < W) (hy : y < H) : pixelP (W : Int) (H : Int) (p : Int) D (x : Int) (y : Int) = pix D W p x y := by
  unfold pixelP
  rw [if_pos ⟨hv, by simp only [onImg, Bool.and_eq_true, decide_eq_true_eq]; omega⟩]
  simp only [Int.toNat_natCast]
theorem pixelP_out (w h p : Int) (D : List Int) (x y : Int) (hx : ¬ ((0 ≤ x ∧ x < w) ∧ (0 ≤ y ∧ y < h))) : pixelP w h p D x y = [] := by
  unfold pixelP
  rw [if_neg (fun g => hx (by have := g.2; simpa only [onImg, Bool.and_eq_true, decide_eq_true_eq] using this))]
theorem pixelP_length (w h p : Int) (D : List Int) (x y : Int) : (pixelP w h p D x y).length ≤ 2000000 := by
  unfold pixelP
  by_cases c : okImg w h p D = true ∧ onImg w h x y = true
  · rw [if_pos c]
    have hp := (okImg_img c.1).1.2.2.2.2.2.1
    unfold pix chunk
    rw [List.length_take]
    omega
  · rw [if_neg c]
    simp

end Go.Proofs.Ytpadegboplcapaa.B
