/- A mirror can be undone, and the first pixel becomes the last one; at every code. -/
import Derived.Test.YtibbkaoghbmncaaLoopsE
import Derived.Test.YtibbkaoghbmncaaDrawI
import Derived.Test.YtibbkaoghbmncaaTurnPM
import Derived.Test.YtibbkaoghbmncaaPixel
import Derived.Test.YtibbkaoghbmncaaQ19
namespace Go.Proofs.Ytibbkaoghbmncaa.Pure
open Go.RowKit Go.Proofs.Ytibbkaoghbmncaa.Q Go.Proofs.Ytibbkaoghbmncaa.B Go.Proofs.YtibbkaoghbmncaaW.PrintWords Go.Proofs.YtibbkaoghbmncaaW.PrintLast Go.Proofs.YtibbkaoghbmncaaW.PrintMore
set_option linter.unusedVariables false

theorem DrawMirror_ok (l : List Int) (h : ∀ x ∈ l, (Lit.int .u8 x).wf = true) : ∃ w h p D, Ev (fun k => spec_DrawMirrorImage.f k l) (w, h, p, D) ∧ D.length ≤ 256 := by
  obtain ⟨b, hl, hb⟩ := newReader_ok l h
  obtain ⟨w, h, p, D, q, hq, hD, q0, q1⟩ := anyImage_ok b hb 0 (by omega) (by omega)
  refine ⟨w, h, p, D, ?_, hD⟩
  unfold spec_DrawMirrorImage.f
  rw [hl]
  simp only [Option.bind_some]
  rw [ev_bind_iff hq]
  exact Ev.now _
theorem FnMirrorImage : laws_FnMirrorImage.Pure := by
  intro l0 _ _ hw0
  refine Ev.rounds (g := fun k => laws_FnMirrorImage.f k l0) (r := true) ?_
  unfold laws_FnMirrorImage.f
  by_cases hl : (l0.length : Int) > 1048576
  · exact ev_pos hl (Ev.now _)
  refine ev_neg hl ?_
  obtain ⟨w, h, p, D, hd, hD⟩ := DrawMirror_ok l0 hw0
  have h1 := specMirror_ev w h p D (by omega)
  have h2 := implMirror_eq w h p D
  have hlen := mirrorP_length w h p D
  rw [ev_bind_iff hd, h2]
  simp only [Option.bind_some]
  rw [ev_bind_iff h1, ev_bind_iff (equalImage_same _ _ _ _ hlen)]
  refine ev_pos rfl ?_
  by_cases hv : okImg w h p D = true
  · obtain ⟨W, H, P, rfl, rfl, rfl, o⟩ := (okImg_img hv).1.toN
    rw [mirrorP_N hv]
    simp only
    have o1 := o.1
    have o2 := o.2.1
    have o3 := o.2.2.1
    have hk := mirrorP_N (ok_mir hv)
    rw [mir_mir o] at hk
    have hp1 : pixelP (W : Int) (H : Int) (P : Int) (mirN W H P D) (wrap64 ((W : Int) - 1)) 0 = pix D W P 0 0 := by
      have := pixelP_in (ok_mir hv) (show W - 1 < W by omega) (show 0 < H by omega)
      rw [pix_mir o _ _ (by omega) (by omega), show W - 1 - (W - 1) = 0 by omega] at this
      rw [show wrap64 ((W : Int) - 1) = ((W - 1 : Nat) : Int) by rw [w64 (by omega) (by omega)]; omega]
      exact this
    have hp2 : pixelP (W : Int) (H : Int) (P : Int) D 0 0 = pix D W P 0 0 := pixelP_in hv (show 0 < W by omega) (show 0 < H by omega)
    have hpl : (pix D W P 0 0).length ≤ 2000000 := by rw [pix_length D W H P 0 0 o.2.2.2 (by omega) (by omega)]; omega
    generalize mirN W H P D = E at hk hp1 ⊢
    have hne : ((W : Int) == 0) = false := by rw [beq_eq_false_iff_ne]; omega
    rw [hne]
    refine Ev.step (f := fun k => (laws_equalImage.f k (W : Int) (H : Int) (P : Int) D (W : Int) (H : Int) (P : Int) D).bind fun t => (if t = true then ((laws_equalInts.f k (pix D W P 0 0) (pix D W P 0 0)).bind fun t => (some t)) else (some false))) (fun k => ?_) ?_
    · simp only [laws_FnMirrorImage.j0, Bool.false_eq_true, if_false, implMirror_eq, hk, Option.bind_some, implPixel_eq, hp1, hp2]
    · rw [ev_bind_iff (equalImage_same _ _ _ _ (by omega))]
      refine ev_pos rfl ?_
      rw [ev_bind_iff (laws_equalInts_same _ hpl)]
      exact Ev.now _
  · have e : mirrorP w h p D = (0, 0, 0, []) := by unfold mirrorP; rw [if_neg hv]
    rw [e] at h1 hlen ⊢
    refine Ev.step (f := fun k => (spec_MirrorImage.f k w h p D).bind fun bt => (laws_equalImage.f k 0 0 0 [] bt.1 bt.2.1 bt.2.2.1 bt.2.2.2).bind fun t => some t) (fun k => by simp [laws_FnMirrorImage.j0]) ?_
    rw [ev_bind_iff h1, ev_bind_iff (equalImage_same _ _ _ _ (by simp))]
    exact Ev.now _

end Go.Proofs.Ytibbkaoghbmncaa.Pure
