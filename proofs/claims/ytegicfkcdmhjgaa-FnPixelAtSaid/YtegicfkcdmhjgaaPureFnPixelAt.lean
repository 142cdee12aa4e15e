/- A pixel is the Planes numbers of Data at its index; at every code. -/
import Derived.Test.YtegicfkcdmhjgaaLoopsE
import Derived.Test.YtegicfkcdmhjgaaDrawP
import Derived.Test.YtegicfkcdmhjgaaPixelS
import Derived.Test.YtegicfkcdmhjgaaQ13
namespace Go.Proofs.Ytegicfkcdmhjgaa.Pure
open Go.RowKit Go.Proofs.Ytegicfkcdmhjgaa.Q Go.Proofs.Ytegicfkcdmhjgaa.B Go.Proofs.YtegicfkcdmhjgaaW.PrintWords Go.Proofs.YtegicfkcdmhjgaaW.PrintLast Go.Proofs.YtegicfkcdmhjgaaW.PrintMore
set_option linter.unusedVariables false

theorem FnPixelAt : laws_FnPixelAt.Pure := by
  intro l0 _ _ hw0
  refine Ev.rounds (g := fun k => laws_FnPixelAt.f k l0) (r := true) ?_
  unfold laws_FnPixelAt.f
  by_cases hl : (l0.length : Int) > 1048576
  · exact ev_pos hl (Ev.now _)
  refine ev_neg hl ?_
  obtain ⟨w, h, p, D, x, y, hd, hD⟩ := DrawPixel_ok l0 hw0
  have h1 := specPixel_ev w h p D x y (by omega)
  have h2 := implPixel_eq w h p D x y
  have hlen := pixelP_length w h p D x y
  rw [ev_bind_iff hd, h2]
  simp only [Option.bind_some]
  rw [ev_bind_iff h1, ev_bind_iff (laws_equalInts_same _ hlen)]
  refine ev_pos rfl ?_
  have hstop : ∀ v : List Int, v = pixelP w h p D x y → Ev (fun k => laws_FnPixelAt.j0 k x y v true w h p D) true := fun v ev => by
    refine Ev.step (f := fun k => (spec_PixelAt.f k w h p D x y).bind fun t => (laws_equalInts.f k v t).bind fun t => some t) (fun k => by simp only [laws_FnPixelAt.j0, if_true]) ?_
    rw [ev_bind_iff h1, ev, ev_bind_iff (laws_equalInts_same _ hlen)]
    exact Ev.now _
  by_cases hv : okImg w h p D = true ∧ ((0 ≤ x ∧ x < w) ∧ (0 ≤ y ∧ y < h))
  · obtain ⟨hv, c⟩ := hv
    obtain ⟨W, H, P, rfl, rfl, rfl, o⟩ := (okImg_img hv).1.toN
    obtain ⟨x, rfl⟩ := Int.eq_ofNat_of_zero_le c.1.1
    obtain ⟨y, rfl⟩ := Int.eq_ofNat_of_zero_le c.2.1
    have hx : x < W := by omega
    have hy : y < H := by omega
    have o3 := o.2.2.1
    obtain ⟨e1, e2⟩ := idxN o hx hy
    have hb := o.bound
    rw [pixelP_in hv hx hy] at hlen ⊢
    have hpl := pix_length D W H P x y o.2.2.2 hx hy
    have hpm := pix_mid D W P x y ((y * W + x) * P + P) rfl
    have hne : ((((pix D W P x y).length : Nat) : Int) == 0) = false := by rw [beq_eq_false_iff_ne]; omega
    rw [hne]
    generalize hn : (y * W + x) * P = n at e1 e2 hpm
    have E1 := Aside0.mk e1
    clear e1
    have E3 : Aside0 (wrap64 ((n : Int) + (P : Int)) = ((n + P : Nat) : Int)) := ⟨by rw [w64 (by omega) (by omega)]; omega⟩
    generalize pix D W P x y = v at hlen hpl hpm ⊢
    refine Ev.step (f := fun k => (laws_equalInts.f k v v).bind fun t => some t) (fun k => ?_) ?_
    · simp only [laws_FnPixelAt.j0, Bool.false_eq_true, if_false, E1.out, E3.out, Int.toNat_natCast]
      rw [if_pos (Int.natCast_nonneg n), if_pos (by omega), if_pos (by omega), hpm]
    · rw [ev_bind_iff (laws_equalInts_same _ hlen)]
      exact Ev.now _
  · have e : pixelP w h p D x y = [] := by
      by_cases g : okImg w h p D = true
      · exact pixelP_out _ _ _ _ _ _ (fun c => hv ⟨g, c⟩)
      · unfold pixelP
        rw [if_neg (fun c => g c.1)]
    have := hstop _ rfl
    rw [e] at this ⊢
    exact this

end Go.Proofs.Ytegicfkcdmhjgaa.Pure
