/- Columns and rows can be exchanged back, and the exchange is a mirrored quarter; at every code. -/
import Derived.Test.YtibbkaoghbmncaaLoopsE
import Derived.Test.YtibbkaoghbmncaaDrawI
import Derived.Test.YtibbkaoghbmncaaTurnPM
import Derived.Test.YtibbkaoghbmncaaTurnPT
import Derived.Test.YtibbkaoghbmncaaTurnPX
import Derived.Test.YtibbkaoghbmncaaQ21
namespace Go.Proofs.Ytibbkaoghbmncaa.Pure
open Go.RowKit Go.Proofs.Ytibbkaoghbmncaa.Q Go.Proofs.Ytibbkaoghbmncaa.B Go.Proofs.YtibbkaoghbmncaaW.PrintWords Go.Proofs.YtibbkaoghbmncaaW.PrintLast Go.Proofs.YtibbkaoghbmncaaW.PrintMore
set_option linter.unusedVariables false

theorem DrawTranspose_ok (l : List Int) (h : ∀ x ∈ l, (Lit.int .u8 x).wf = true) : ∃ w h p D, Ev (fun k => spec_DrawTransposeImage.f k l) (w, h, p, D) ∧ D.length ≤ 256 := by
  obtain ⟨b, hl, hb⟩ := newReader_ok l h
  obtain ⟨w, h, p, D, q, hq, hD, q0, q1⟩ := anyImage_ok b hb 0 (by omega) (by omega)
  refine ⟨w, h, p, D, ?_, hD⟩
  unfold spec_DrawTransposeImage.f
  rw [hl]
  simp only [Option.bind_some]
  rw [ev_bind_iff hq]
  exact Ev.now _
theorem FnTransposeImage : laws_FnTransposeImage.Pure := by
  intro l0 _ _ hw0
  refine Ev.rounds (g := fun k => laws_FnTransposeImage.f k l0) (r := true) ?_
  unfold laws_FnTransposeImage.f
  by_cases hl : (l0.length : Int) > 1048576
  · exact ev_pos hl (Ev.now _)
  refine ev_neg hl ?_
  obtain ⟨w, h, p, D, hd, hD⟩ := DrawTranspose_ok l0 hw0
  have h1 := specTranspose_ev w h p D (by omega)
  have h2 := implTranspose_eq w h p D
  have hlen := transposeP_length w h p D
  rw [ev_bind_iff hd, h2]
  simp only [Option.bind_some]
  rw [ev_bind_iff h1, ev_bind_iff (equalImage_same _ _ _ _ hlen)]
  refine ev_pos rfl ?_
  by_cases hv : okImg w h p D = true
  · obtain ⟨W, H, P, rfl, rfl, rfl, o⟩ := (okImg_img hv).1.toN
    rw [transposeP_N hv] at hlen ⊢
    simp only at hlen ⊢
    have o2 := o.2.1
    have hk := transposeP_N (ok_tra hv)
    rw [tra_tra o] at hk
    have ht := turnP_1 hv
    have hm := mirrorP_N (ok_tur hv)
    rw [mir_tur o] at hm
    have hne : ((H : Int) == 0) = false := by rw [beq_eq_false_iff_ne]; omega
    rw [hne]
    generalize traN W H P D = E at hlen hk hm ⊢
    generalize turN W H P D = F at ht hm
    refine Ev.step (f := fun k => (laws_equalImage.f k (W : Int) (H : Int) (P : Int) D (W : Int) (H : Int) (P : Int) D).bind fun t => (if t = true then ((laws_equalImage.f k (H : Int) (W : Int) (P : Int) E (H : Int) (W : Int) (P : Int) E).bind fun t => (some t)) else (some false))) (fun k => ?_) ?_
    · simp only [laws_FnTransposeImage.j0, Bool.false_eq_true, if_false, implTranspose_eq, hk, Option.bind_some, implTurn_eq, ht, implMirror_eq, hm]
    · rw [ev_bind_iff (equalImage_same _ _ _ _ (by omega))]
      refine ev_pos rfl ?_
      rw [ev_bind_iff (equalImage_same _ _ _ _ hlen)]
      exact Ev.now _
  · have e : transposeP w h p D = (0, 0, 0, []) := by unfold transposeP; rw [if_neg hv]
    rw [e] at h1 hlen ⊢
    refine Ev.step (f := fun k => (spec_TransposeImage.f k w h p D).bind fun bt => (laws_equalImage.f k 0 0 0 [] bt.1 bt.2.1 bt.2.2.1 bt.2.2.2).bind fun t => some t) (fun k => by simp [laws_FnTransposeImage.j0]) ?_
    rw [ev_bind_iff h1, ev_bind_iff (equalImage_same _ _ _ _ (by simp))]
    exact Ev.now _

end Go.Proofs.Ytibbkaoghbmncaa.Pure
