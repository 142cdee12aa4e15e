/- A number and its inverted one are 255 together, and inverting can be undone; at every code. -/
import Derived.Test.YtegicfkcdmhjgaaLoopsE
import Derived.Test.YtegicfkcdmhjgaaDrawI
import Derived.Test.YtegicfkcdmhjgaaInvert
import Derived.Test.YtegicfkcdmhjgaaQ12
namespace Go.Proofs.Ytegicfkcdmhjgaa.Pure
open Go.RowKit Go.Proofs.Ytegicfkcdmhjgaa.Q Go.Proofs.Ytegicfkcdmhjgaa.B Go.Proofs.YtegicfkcdmhjgaaW.PrintWords Go.Proofs.YtegicfkcdmhjgaaW.PrintLast Go.Proofs.YtegicfkcdmhjgaaW.PrintMore
set_option linter.unusedVariables false

theorem DrawInvert_ok (l : List Int) (h : ∀ x ∈ l, (Lit.int .u8 x).wf = true) : ∃ w h p D, Ev (fun k => spec_DrawInvertImage.f k l) (w, h, p, D) ∧ D.length ≤ 256 := by
  obtain ⟨b, hl, hb⟩ := newReader_ok l h
  obtain ⟨w, h, p, D, q, hq, hD, q0, q1⟩ := anyImage_ok b hb 0 (by omega) (by omega)
  refine ⟨w, h, p, D, ?_, hD⟩
  unfold spec_DrawInvertImage.f
  rw [hl]
  simp only [Option.bind_some]
  rw [ev_bind_iff hq]
  exact Ev.now _
theorem FnInvertImage : laws_FnInvertImage.Pure := by
  intro l0 _ _ hw0
  refine Ev.rounds (g := fun k => laws_FnInvertImage.f k l0) (r := true) ?_
  unfold laws_FnInvertImage.f
  by_cases hl : (l0.length : Int) > 1048576
  · exact ev_pos hl (Ev.now _)
  refine ev_neg hl ?_
  obtain ⟨w, h, p, D, hd, hD⟩ := DrawInvert_ok l0 hw0
  have h1 := specInvert_ev w h p D (by omega)
  have h2 := implInvert_eq w h p D
  have hlen := invertP_length w h p D (by omega)
  rw [ev_bind_iff hd, h2]
  simp only [Option.bind_some]
  rw [ev_bind_iff h1, ev_bind_iff (equalImage_same _ _ _ _ hlen)]
  refine ev_pos rfl ?_
  by_cases hv : okImg w h p D = true
  · have e : invertP w h p D = (w, h, p, D.map inv) := by unfold invertP; rw [if_pos hv]
    have e2 : invertP w h p (D.map inv) = (w, h, p, D) := by unfold invertP; rw [if_pos (ok_inv hv), inv_inv (okImg_img hv).2]
    rw [e]
    simp only
    obtain ⟨o, hb⟩ := okImg_img hv
    have hne : (w == 0) = false := by rw [beq_eq_false_iff_ne]; have := o.1; omega
    rw [hne]
    refine Ev.step (f := fun k => laws_FnInvertImage.l0 k ((0 : Nat) : Int) w h p D w h p (D.map inv)) (fun k => by simp only [laws_FnInvertImage.j0, Bool.false_eq_true, if_false]; rfl) ?_
    have := ev_for (fun k (_ : Unit) i => laws_FnInvertImage.l0 k (i : Int) w h p D w h p (D.map inv)) D.length (fun _ => ()) (fun i hi r g => ?_) true ?_
    · exact this
    · have hi' : i < 1000000000 := by omega
      have p1 : (i : Int) < (D.length : Int) := by omega
      have p2 : (i : Int) < ((D.map inv).length : Int) := by rw [List.length_map]; exact p1
      have hx := hb D[i] (List.getElem_mem hi)
      have r1 : rd D (i : Int) = D[i] := by rw [rd_nat]; simp [hi]
      have r2 : rd (D.map inv) (i : Int) = 255 - D[i] := by
        rw [rd_nat, ← inv_byte hx]
        simp [hi]
      refine Ev.step (fun k => ?_) g
      simp only [laws_FnInvertImage.l0, up1 i hi', r1, r2]
      rw [if_pos p1, if_pos (Int.natCast_nonneg i), if_pos p2, if_pos (by rw [w64 (by omega) (by omega)]; omega)]
    · refine Ev.step (f := fun k => (laws_equalImage.f k w h p D w h p D).bind fun t => some t) (fun k => ?_) ?_
      · simp only [laws_FnInvertImage.l0]
        rw [if_neg (by omega), implInvert_eq, e2]
        rfl
      · rw [ev_bind_iff (equalImage_same _ _ _ _ (by omega))]
        exact Ev.now _
  · have e : invertP w h p D = (0, 0, 0, []) := by unfold invertP; rw [if_neg hv]
    rw [e] at h1 hlen ⊢
    refine Ev.step (f := fun k => (spec_InvertImage.f k w h p D).bind fun bt => (laws_equalImage.f k 0 0 0 [] bt.1 bt.2.1 bt.2.2.1 bt.2.2.2).bind fun t => some t) (fun k => by simp [laws_FnInvertImage.j0]) ?_
    rw [ev_bind_iff h1, ev_bind_iff (equalImage_same _ _ _ _ (by simp))]
    exact Ev.now _

end Go.Proofs.Ytegicfkcdmhjgaa.Pure
