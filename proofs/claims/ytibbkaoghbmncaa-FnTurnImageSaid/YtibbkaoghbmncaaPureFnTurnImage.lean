/- Quarters up to a whole turn give the image again, and two turns follow each other; at every code. -/
import Derived.Test.YtibbkaoghbmncaaLoopsE
import Derived.Test.YtibbkaoghbmncaaDrawI
import Derived.Test.YtibbkaoghbmncaaTurnPT
import Derived.Test.YtibbkaoghbmncaaQ22
namespace Go.Proofs.Ytibbkaoghbmncaa.Pure
open Go.RowKit Go.Proofs.Ytibbkaoghbmncaa.Q Go.Proofs.Ytibbkaoghbmncaa.B Go.Proofs.YtibbkaoghbmncaaW.PrintWords Go.Proofs.YtibbkaoghbmncaaW.PrintLast Go.Proofs.YtibbkaoghbmncaaW.PrintMore
set_option linter.unusedVariables false

theorem DrawTurn_ok (l : List Int) (h : ∀ x ∈ l, (Lit.int .u8 x).wf = true) : ∃ w h p D n, Ev (fun k => spec_DrawTurnImage.f k l) (w, h, p, D, n) ∧ D.length ≤ 256 := by
  obtain ⟨b, hl, hb⟩ := newReader_ok l h
  obtain ⟨w, h, p, D, q, hq, hD, q0, q1⟩ := anyImage_ok b hb 0 (by omega) (by omega)
  obtain ⟨n, hn, _⟩ := one_ok b q [0, 1, 2, 3, 4, -1] hb (by omega) (by omega) (by simp)
  refine ⟨w, h, p, D, n, ?_, hD⟩
  unfold spec_DrawTurnImage.f
  rw [hl]
  simp only [Option.bind_some]
  rw [ev_bind_iff hq, ev_bind_iff hn]
  exact Ev.now _
/-- The law behind the first turn, at valid images. -/
theorem turn_back (W H P : Nat) (D : List Int) (o : NImg W H P D) (hv : okImg (W : Int) (H : Int) (P : Int) D = true) (hE : D.length ≤ 2000000) (hW : ((W : Int) == 0) = false) (hH : ((H : Int) == 0) = false) (n : Int) (hn : 0 ≤ n ∧ n ≤ 3) :
    Ev (fun k => laws_FnTurnImage.j0 k n ((turnP (W : Int) (H : Int) (P : Int) D n).1 == 0) (W : Int) (H : Int) (P : Int) D (turnP (W : Int) (H : Int) (P : Int) D n).1 (turnP (W : Int) (H : Int) (P : Int) D n).2.1 (turnP (W : Int) (H : Int) (P : Int) D n).2.2.1 (turnP (W : Int) (H : Int) (P : Int) D n).2.2.2) true := by
  have k1 := ok_tur hv
  have k2 := ok_tur k1
  have k3 := ok_tur k2
  have o1 := img_tur o
  have o2 := img_tur o1
  have o3 := img_tur o2
  have t4 := tur4 o
  have key : ∀ (a b : Int) (E : List Int) (c d : Int) (F : List Int) (m1 m2 : Int), (a == 0) = false → F.length ≤ 2000000 → Int.tmod (wrap64 (4 - n)) 4 = m1 → Int.tmod (wrap64 (n + 1)) 4 = m2 → turnP a b (P : Int) E m1 = ((W : Int), (H : Int), (P : Int), D) → turnP a b (P : Int) E 1 = (c, d, (P : Int), F) → turnP (W : Int) (H : Int) (P : Int) D m2 = (c, d, (P : Int), F) →
      Ev (fun k => laws_FnTurnImage.j0 k n (a == 0) (W : Int) (H : Int) (P : Int) D a b (P : Int) E) true := by
    intro a b E c d F m1 m2 ha hF e1 e2 g1 g2 g3
    rw [ha]
    refine Ev.step (f := fun k => (laws_equalImage.f k (W : Int) (H : Int) (P : Int) D (W : Int) (H : Int) (P : Int) D).bind fun t => (if t = true then ((laws_equalImage.f k c d (P : Int) F c d (P : Int) F).bind fun t => (some t)) else (some false))) (fun k => ?_) ?_
    · simp only [laws_FnTurnImage.j0, Bool.false_eq_true, if_false, implTurn_eq, e1, e2, g1, g2, g3, Option.bind_some]
    · rw [ev_bind_iff (equalImage_same _ _ _ _ hE)]
      refine ev_pos rfl ?_
      rw [ev_bind_iff (equalImage_same _ _ _ _ hF)]
      exact Ev.now _
  have b1 := o1.bound
  have b2 := o2.bound
  have b3 := o3.bound
  have hc : n = 0 ∨ n = 1 ∨ n = 2 ∨ n = 3 := by omega
  rcases hc with rfl | rfl | rfl | rfl
  · rw [turnP_0 hv]
    exact key (W : Int) (H : Int) D (H : Int) (W : Int) (turN W H P D) 0 1 hW (by omega) (by rw [w64 (by omega) (by omega)]; decide) (by rw [w64 (by omega) (by omega)]; decide) (turnP_0 hv) (turnP_1 hv) (turnP_1 hv)
  · rw [turnP_1 hv]
    exact key (H : Int) (W : Int) (turN W H P D) (W : Int) (H : Int) (turN H W P (turN W H P D)) 3 2 hH (by omega) (by rw [w64 (by omega) (by omega)]; decide) (by rw [w64 (by omega) (by omega)]; decide) ((turnP_3 k1).trans (by rw [t4])) (turnP_1 k1) (turnP_2 hv)
  · rw [turnP_2 hv]
    exact key (W : Int) (H : Int) (turN H W P (turN W H P D)) (H : Int) (W : Int) (turN W H P (turN H W P (turN W H P D))) 2 3 hW (by omega) (by rw [w64 (by omega) (by omega)]; decide) (by rw [w64 (by omega) (by omega)]; decide) ((turnP_2 k2).trans (by rw [t4])) (turnP_1 k2) (turnP_3 hv)
  · rw [turnP_3 hv]
    exact key (H : Int) (W : Int) (turN W H P (turN H W P (turN W H P D))) (W : Int) (H : Int) D 1 0 hH hE (by rw [w64 (by omega) (by omega)]; decide) (by rw [w64 (by omega) (by omega)]; decide) ((turnP_1 k3).trans (by rw [t4])) ((turnP_1 k3).trans (by rw [t4])) (turnP_0 hv)
theorem FnTurnImage : laws_FnTurnImage.Pure := by
  intro l0 _ _ hw0
  refine Ev.rounds (g := fun k => laws_FnTurnImage.f k l0) (r := true) ?_
  unfold laws_FnTurnImage.f
  by_cases hl : (l0.length : Int) > 1048576
  · exact ev_pos hl (Ev.now _)
  refine ev_neg hl ?_
  obtain ⟨w, h, p, D, n, hd, hD⟩ := DrawTurn_ok l0 hw0
  have h1 := specTurn_ev w h p D n (by omega)
  have h2 := implTurn_eq w h p D n
  have hlen := turnP_length w h p D n
  rw [ev_bind_iff hd, h2]
  simp only [Option.bind_some]
  rw [ev_bind_iff h1, ev_bind_iff (equalImage_same _ _ _ _ hlen)]
  refine ev_pos rfl ?_
  by_cases hv : okImg w h p D = true ∧ (0 ≤ n ∧ n ≤ 3)
  · obtain ⟨hv, hn⟩ := hv
    obtain ⟨W, H, P, rfl, rfl, rfl, o⟩ := (okImg_img hv).1.toN
    have o1 := o.1
    have o2 := o.2.1
    have hW : ((W : Int) == 0) = false := by rw [beq_eq_false_iff_ne]; omega
    have hH : ((H : Int) == 0) = false := by rw [beq_eq_false_iff_ne]; omega
    have hE : D.length ≤ 2000000 := by omega
    exact turn_back W H P D o hv hE hW hH n hn
  · have e := turnP_no w h p D n hv
    rw [e] at h1 hlen ⊢
    refine Ev.step (f := fun k => (spec_TurnImage.f k w h p D n).bind fun bt => (laws_equalImage.f k 0 0 0 [] bt.1 bt.2.1 bt.2.2.1 bt.2.2.2).bind fun t => some t) (fun k => by simp [laws_FnTurnImage.j0]) ?_
    rw [ev_bind_iff h1, ev_bind_iff (equalImage_same _ _ _ _ (by simp))]
    exact Ev.now _

end Go.Proofs.Ytibbkaoghbmncaa.Pure
