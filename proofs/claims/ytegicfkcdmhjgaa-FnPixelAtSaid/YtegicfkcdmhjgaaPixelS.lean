/- What PixelAt answers, in the reference. No conditions. -/
import Derived.Test.YtegicfkcdmhjgaaSpecO
import Derived.Test.YtegicfkcdmhjgaaPixel
import Derived.Test.YtegicfkcdmhjgaaQ5
namespace Go.Proofs.Ytegicfkcdmhjgaa.B
open Go.RowKit Go.Proofs.Ytegicfkcdmhjgaa.Q Go.Proofs.YtegicfkcdmhjgaaW.PrintWords Go.Proofs.YtegicfkcdmhjgaaW.PrintLast Go.Proofs.YtegicfkcdmhjgaaW.PrintMore
set_option linter.unusedVariables false

theorem specPixel_ev (w h p : Int) (D : List Int) (x y : Int) (hn : D.length ≤ 2000000) : Ev (fun k => spec_PixelAt.f k w h p D x y) (pixelP w h p D x y) := by
  unfold spec_PixelAt.f
  rw [ev_bind_iff (validImage_ev w h p D hn)]
  by_cases hv : okImg w h p D = true
  · refine ev_pos hv ?_
    obtain ⟨W, H, P, rfl, rfl, rfl, o⟩ := (okImg_img hv).1.toN
    have o1 := o.1
    have o2 := o.2.1
    rw [specOnImage_eq (W : Int) (H : Int) (P : Int) D x y (by omega) (by omega)]
    simp only [Option.bind_some]
    by_cases c : (0 ≤ x ∧ x < (W : Int)) ∧ (0 ≤ y ∧ y < (H : Int))
    · refine ev_pos (by simp only [Bool.and_eq_true, decide_eq_true_eq]; exact c) ?_
      obtain ⟨x, rfl⟩ := Int.eq_ofNat_of_zero_le c.1.1
      obtain ⟨y, rfl⟩ := Int.eq_ofNat_of_zero_le c.2.1
      rw [specPixelAt_eq o (by omega) (by omega), pixelP_in hv (by omega) (by omega)]
      exact Ev.now _
    · rw [pixelP_out _ _ _ _ _ _ c]
      exact ev_neg (by simp only [Bool.and_eq_true, decide_eq_true_eq]; exact c) (Ev.now _)
  · have e : pixelP w h p D x y = [] := by unfold pixelP; rw [if_neg (fun g => hv g.1)]
    rw [e]
    exact ev_neg hv (Ev.now _)

end Go.Proofs.Ytegicfkcdmhjgaa.B
