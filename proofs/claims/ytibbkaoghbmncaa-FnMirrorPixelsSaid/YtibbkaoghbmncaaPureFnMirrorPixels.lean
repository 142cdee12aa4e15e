/- A mirror exchanges columns, and the transposed image has the pixel where column and row are exchanged; at every code. -/
import Derived.Test.YtibbkaoghbmncaaLoopsE
import Derived.Test.YtibbkaoghbmncaaDrawI
import Derived.Test.YtibbkaoghbmncaaTurnPM
import Derived.Test.YtibbkaoghbmncaaTurnPX
import Derived.Test.YtibbkaoghbmncaaPixelS
import Derived.Test.YtibbkaoghbmncaaQ20
namespace Go.Proofs.Ytibbkaoghbmncaa.Pure
open Go.RowKit Go.Proofs.Ytibbkaoghbmncaa.Q Go.Proofs.Ytibbkaoghbmncaa.B Go.Proofs.YtibbkaoghbmncaaW.PrintWords Go.Proofs.YtibbkaoghbmncaaW.PrintLast Go.Proofs.YtibbkaoghbmncaaW.PrintMore
set_option linter.unusedVariables false

theorem DrawPixel_ok (l : List Int) (h : ∀ x ∈ l, (Lit.int .u8 x).wf = true) : ∃ w h p D x y, Ev (fun k => spec_DrawPixelAt.f k l) (w, h, p, D, x, y) ∧ D.length ≤ 256 := by
  obtain ⟨b, hl, hb⟩ := newReader_ok l h
  obtain ⟨w, h, p, D, q, hq, hD, q0, q1⟩ := anyImage_ok b hb 0 (by omega) (by omega)
  obtain ⟨x, hx, _⟩ := one_ok b q [0, 1, 2, 3, 5, 7, -1, 15, 16] hb (by omega) (by omega) (by simp)
  obtain ⟨y, hy, _⟩ := one_ok b (q + 1) [0, 1, 2, 3, 5, 7, -1, 15, 16] hb (by omega) (by omega) (by simp)
  have px : Ev (fun k => spec_anyPlace.f k b q) (x, q + 1) := by
    unfold spec_anyPlace.f
    rw [ev_bind_iff hx]
    exact Ev.now _
  have py : Ev (fun k => spec_anyPlace.f k b (q + 1)) (y, q + 1 + 1) := by
    unfold spec_anyPlace.f
    rw [ev_bind_iff hy]
    exact Ev.now _
  refine ⟨w, h, p, D, x, y, ?_, hD⟩
  unfold spec_DrawPixelAt.f
  rw [hl]
  simp only [Option.bind_some]
  rw [ev_bind_iff hq, ev_bind_iff px, ev_bind_iff py]
  exact Ev.now _
theorem FnMirrorPixels : laws_FnMirrorPixels.Pure := by
  intro l0 _ _ hw0
  refine Ev.rounds (g := fun k => laws_FnMirrorPixels.f k l0) (r := true) ?_
  unfold laws_FnMirrorPixels.f
  by_cases hl : (l0.length : Int) > 1048576
  · exact ev_pos hl (Ev.now _)
  refine ev_neg hl ?_
  obtain ⟨w, h, p, D, x, y, hd, hD⟩ := DrawPixel_ok l0 hw0
  have h1 := specPixel_ev w h p D x y (by omega)
  have h2 := implPixel_eq w h p D x y
  have hlen := pixelP_length w h p D x y
  rw [ev_bind_iff hd, h2]
  simp only [Option.bind_some]
  rw [ev_bind_iff h1, ev_bind_iff (laws_equalInts_same _ hlen)]
  refine ev_pos rfl ?_
  have hstop : ∀ v : List Int, v = pixelP w h p D x y → Ev (fun k => laws_FnMirrorPixels.j0 k x y v true w h p D) true := fun v ev => by
    refine Ev.step (f := fun k => (spec_PixelAt.f k w h p D x y).bind fun t => (laws_equalInts.f k v t).bind fun t => some t) (fun k => by simp only [laws_FnMirrorPixels.j0, if_true]) ?_
    rw [ev_bind_iff h1, ev, ev_bind_iff (laws_equalInts_same _ hlen)]
    exact Ev.now _
  by_cases hv : okImg w h p D = true ∧ ((0 ≤ x ∧ x < w) ∧ (0 ≤ y ∧ y < h))
  · obtain ⟨hv, c⟩ := hv
    obtain ⟨W, H, P, rfl, rfl, rfl, o⟩ := (okImg_img hv).1.toN
    obtain ⟨x, rfl⟩ := Int.eq_ofNat_of_zero_le c.1.1
    obtain ⟨y, rfl⟩ := Int.eq_ofNat_of_zero_le c.2.1
    have hx : x < W := by omega
    have hy : y < H := by omega
    have o1 := o.1
    have o2 := o.2.1
    have o3 := o.2.2.1
    rw [pixelP_in hv hx hy] at hlen ⊢
    have hpl := pix_length D W H P x y o.2.2.2 hx hy
    have hm := mirrorP_N hv
    have ht := transposeP_N hv
    have hp1 : pixelP (W : Int) (H : Int) (P : Int) (mirN W H P D) (wrap64 ((wrap64 ((W : Int) - 1)) - (x : Int))) (y : Int) = pix D W P x y := by
      have := pixelP_in (ok_mir hv) (show W - 1 - x < W by omega) hy
      rw [pix_mir o _ _ (by omega) hy, show W - 1 - (W - 1 - x) = x by omega] at this
      rw [show wrap64 ((wrap64 ((W : Int) - 1)) - (x : Int)) = ((W - 1 - x : Nat) : Int) by rw [w64 (x := (W : Int) - 1) (by omega) (by omega), w64 (by omega) (by omega)]; omega]
      exact this
    have hp2 : pixelP (H : Int) (W : Int) (P : Int) (traN W H P D) (y : Int) (x : Int) = pix D W P x y := by
      rw [pixelP_in (ok_tra hv) hy hx, pix_tra o y x hy hx]
    generalize pix D W P x y = v at hlen hpl hp1 hp2 ⊢
    have hne : ((v.length : Int) == 0) = false := by rw [beq_eq_false_iff_ne]; omega
    rw [hne]
    refine Ev.step (f := fun k => (laws_equalInts.f k v v).bind fun t => (if t = true then ((laws_equalInts.f k v v).bind fun t => (some t)) else (some false))) (fun k => ?_) ?_
    · simp only [laws_FnMirrorPixels.j0, Bool.false_eq_true, if_false, implMirror_eq, hm, implTranspose_eq, ht, Option.bind_some, implPixel_eq, hp1, hp2]
    · rw [ev_bind_iff (laws_equalInts_same _ hlen)]
      refine ev_pos rfl ?_
      rw [ev_bind_iff (laws_equalInts_same _ hlen)]
      exact Ev.now _
  · have e : pixelP w h p D x y = [] := by
      by_cases g : okImg w h p D = true
      · exact pixelP_out _ _ _ _ _ _ (fun c => hv ⟨g, c⟩)
      · unfold pixelP
        rw [if_neg (fun c => g c.1)]
    have := hstop _ rfl
    rw [e] at this ⊢
    exact this

end Go.Proofs.Ytibbkaoghbmncaa.Pure
