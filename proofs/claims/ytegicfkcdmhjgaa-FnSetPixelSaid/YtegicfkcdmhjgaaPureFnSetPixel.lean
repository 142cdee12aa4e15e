/- A pixel that was set has its numbers, and setting can be undone; at every code. -/
import Derived.Test.YtegicfkcdmhjgaaLoopsE
import Derived.Test.YtegicfkcdmhjgaaDrawS
import Derived.Test.YtegicfkcdmhjgaaSet
import Derived.Test.YtegicfkcdmhjgaaPixel
import Derived.Test.YtegicfkcdmhjgaaQ9
namespace Go.Proofs.Ytegicfkcdmhjgaa.Pure
open Go.RowKit Go.Proofs.Ytegicfkcdmhjgaa.Q Go.Proofs.Ytegicfkcdmhjgaa.B Go.Proofs.YtegicfkcdmhjgaaW.PrintWords Go.Proofs.YtegicfkcdmhjgaaW.PrintLast Go.Proofs.YtegicfkcdmhjgaaW.PrintMore
set_option linter.unusedVariables false

theorem FnSetPixel : laws_FnSetPixel.Pure := by
  intro l0 _ _ hw0
  refine Ev.rounds (g := fun k => laws_FnSetPixel.f k l0) (r := true) ?_
  unfold laws_FnSetPixel.f
  by_cases hl : (l0.length : Int) > 1048576
  · exact ev_pos hl (Ev.now _)
  refine ev_neg hl ?_
  obtain ⟨w, h, p, D, x, y, v, hd, hD, hV⟩ := DrawSet_ok l0 hw0
  have h1 := specSet_ev w h p D x y v (by omega) (by omega)
  have hlen := setP_length w h p D x y v
  rw [ev_bind_iff hd, implSet_eq]
  simp only [Option.bind_some]
  rw [ev_bind_iff h1, ev_bind_iff (equalImage_same _ _ _ _ hlen)]
  refine ev_pos rfl (ev_neg (by simp) ?_)
  by_cases g : okImg w h p D = true ∧ okPlace w h p x y v = true
  · obtain ⟨hv, hp⟩ := g
    obtain ⟨W, H, P, rfl, rfl, rfl, o⟩ := (okImg_img hv).1.toN
    have hp' := hp
    obtain ⟨X, Y, rfl, rfl, hX, hY, hvl, hb⟩ := okPlace_N hp
    rw [setP_N hv hp]
    simp only
    have o3 := o.2.2.1
    have oE := ok_set hv o hX hY hvl hb
    have hpx : pixelP (W : Int) (H : Int) (P : Int) D (X : Int) (Y : Int) = pix D W P X Y := pixelP_in hv hX hY
    have hpE : pixelP (W : Int) (H : Int) (P : Int) (setPix D W P X Y v) (X : Int) (Y : Int) = v := by
      rw [pixelP_in oE hX hY]
      exact pix_set_same D v W H P X Y o.2.2.2 hX hY hvl
    have hpb : okPlace (W : Int) (H : Int) (P : Int) (X : Int) (Y : Int) (pix D W P X Y) = true := by
      have l1 := pix_length D W H P X Y o.2.2.2 hX hY
      have b1 := pix_bytes (okImg_img hv).2 W P X Y
      unfold okPlace
      simp only [Bool.and_eq_true, decide_eq_true_eq, List.all_eq_true]
      exact ⟨⟨by omega, by omega⟩, by omega, b1⟩
    have hback := setP_N oE hpb
    rw [setPix_back o hX hY hvl] at hback
    generalize setPix D W P X Y v = E at hpE hback
    refine Ev.step (f := fun k => (laws_equalInts.f k v v).bind fun t => (if t = true then (if true = true then ((laws_equalImage.f k (W : Int) (H : Int) (P : Int) D (W : Int) (H : Int) (P : Int) D).bind fun t => some t) else (some false)) else (some false))) (fun k => ?_) ?_
    · simp only [laws_FnSetPixel.j0, Bool.not_true, Bool.false_eq_true, if_false, implPixel_eq, implSet_eq, Option.bind_some, hpx, hpE, hback]
    · rw [ev_bind_iff (laws_equalInts_same _ (by omega))]
      refine ev_pos rfl (ev_pos rfl ?_)
      rw [ev_bind_iff (equalImage_same _ _ _ _ (by omega))]
      exact Ev.now _
  · have e : setP w h p D x y v = (0, 0, 0, [], false) := by unfold setP; rw [if_neg g]
    rw [e]
    refine Ev.step (f := fun k => (laws_equalImage.f k 0 0 0 [] 0 0 0 []).bind fun t => if t = true then some (false == false) else some false) (fun k => by simp [laws_FnSetPixel.j0]) ?_
    rw [ev_bind_iff (equalImage_same _ _ _ _ (by simp))]
    exact ev_pos rfl (Ev.now _)

end Go.Proofs.Ytegicfkcdmhjgaa.Pure
