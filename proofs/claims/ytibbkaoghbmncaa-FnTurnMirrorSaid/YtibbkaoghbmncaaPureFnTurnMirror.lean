/- A mirrored turn is undone by a mirrored turn; at every code. -/
import Derived.Test.YtibbkaoghbmncaaLoopsE
import Derived.Test.YtibbkaoghbmncaaDrawI
import Derived.Test.YtibbkaoghbmncaaTurnPM
import Derived.Test.YtibbkaoghbmncaaTurnPT
import Derived.Test.YtibbkaoghbmncaaQ23
namespace Go.Proofs.Ytibbkaoghbmncaa.Pure
open Go.RowKit Go.Proofs.Ytibbkaoghbmncaa.Q Go.Proofs.Ytibbkaoghbmncaa.B Go.Proofs.YtibbkaoghbmncaaW.PrintWords Go.Proofs.YtibbkaoghbmncaaW.PrintLast Go.Proofs.YtibbkaoghbmncaaW.PrintMore
set_option linter.unusedVariables false

theorem DrawTurn_ok (l : List Int) (h : ∀ x ∈ l, (Lit.int .u8 x).wf = true) : ∃ w h p D n, Ev (fun k => spec_DrawTurnImage.f k l) (w, h, p, D, n) ∧ D.length ≤ 256 := by
  obtain ⟨b, hl, hb⟩ := newReader_ok l h
  obtain ⟨w, h, p, D, q, hq, hD, q0, q1⟩ := anyImage_ok b hb 0 (by omega) (by omega)
  obtain ⟨n, hn, _⟩ := one_ok b q [0, 1, 2, 3, 4, -1] hb (by omega) (by omega) (by simp)
  refine ⟨w, h, p, D, n, ?_, hD⟩
  unfold spec_DrawTurnImage.f
  rw [hl]
  simp only [Option.bind_some]
  rw [ev_bind_iff hq, ev_bind_iff hn]
  exact Ev.now _
/-- A mirrored turn undoes a mirrored turn. -/
theorem turn_mirror (W H P : Nat) (D : List Int) (o : NImg W H P D) (hv : okImg (W : Int) (H : Int) (P : Int) D = true) (hE : D.length ≤ 2000000) (hW : ((W : Int) == 0) = false) (hH : ((H : Int) == 0) = false) (n : Int) (hn : 0 ≤ n ∧ n ≤ 3) :
    Ev (fun k => laws_FnTurnMirror.j0 k n ((turnP (W : Int) (H : Int) (P : Int) D n).1 == 0) (W : Int) (H : Int) (P : Int) D (turnP (W : Int) (H : Int) (P : Int) D n).1 (turnP (W : Int) (H : Int) (P : Int) D n).2.1 (turnP (W : Int) (H : Int) (P : Int) D n).2.2.1 (turnP (W : Int) (H : Int) (P : Int) D n).2.2.2) true := by
  have m0 := ok_mir hv
  have k1 := ok_tur m0
  have k2 := ok_tur k1
  have k3 := ok_tur k2
  have p0 := img_mir o
  have p1 := img_tur p0
  have p2 := img_tur p1
  have p3 := img_tur p2
  have key : ∀ (a b : Int) (E : List Int) (c d : Int) (F G : List Int), (a == 0) = false → turnP (W : Int) (H : Int) (P : Int) (mirN W H P D) n = (c, d, (P : Int), F) → mirrorP c d (P : Int) F = (c, d, (P : Int), G) → turnP c d (P : Int) G n = ((W : Int), (H : Int), (P : Int), D) →
      Ev (fun k => laws_FnTurnMirror.j0 k n (a == 0) (W : Int) (H : Int) (P : Int) D a b (P : Int) E) true := by
    intro a b E c d F G ha g1 g2 g3
    rw [ha]
    refine Ev.step (f := fun k => (laws_equalImage.f k (W : Int) (H : Int) (P : Int) D (W : Int) (H : Int) (P : Int) D).bind fun t => (some t)) (fun k => ?_) ?_
    · simp only [laws_FnTurnMirror.j0, Bool.false_eq_true, if_false, implMirror_eq, mirrorP_N hv, implTurn_eq, g1, g2, g3, Option.bind_some]
    · rw [ev_bind_iff (equalImage_same _ _ _ _ hE)]
      exact Ev.now _
  -- the turn of the mirror of what was turned and mirrored
  have a1 : turN H W P (mirN H W P (turN W H P (mirN W H P D))) = D := by rw [tur_mir_tur p0, mir_mir o]
  have a2 : turN H W P (turN W H P (mirN W H P (turN H W P (turN W H P (mirN W H P D))))) = D := by rw [tur_mir_tur p1, a1]
  have a3 : turN H W P (turN W H P (turN H W P (mirN H W P (turN W H P (turN H W P (turN W H P (mirN W H P D))))))) = D := by rw [tur_mir_tur p2, a2]
  have hc : n = 0 ∨ n = 1 ∨ n = 2 ∨ n = 3 := by omega
  rcases hc with rfl | rfl | rfl | rfl
  · rw [turnP_0 hv]
    refine key _ _ _ _ _ _ _ hW (turnP_0 m0) (mirrorP_N m0) ?_
    rw [mir_mir o]
    exact turnP_0 hv
  · rw [turnP_1 hv]
    exact key _ _ _ _ _ _ _ hH (turnP_1 m0) (mirrorP_N k1) ((turnP_1 (ok_mir k1)).trans (by rw [a1]))
  · rw [turnP_2 hv]
    exact key _ _ _ _ _ _ _ hW (turnP_2 m0) (mirrorP_N k2) ((turnP_2 (ok_mir k2)).trans (by rw [a2]))
  · rw [turnP_3 hv]
    exact key _ _ _ _ _ _ _ hH (turnP_3 m0) (mirrorP_N k3) ((turnP_3 (ok_mir k3)).trans (by rw [a3]))
theorem FnTurnMirror : laws_FnTurnMirror.Pure := by
  intro l0 _ _ hw0
  refine Ev.rounds (g := fun k => laws_FnTurnMirror.f k l0) (r := true) ?_
  unfold laws_FnTurnMirror.f
  by_cases hl : (l0.length : Int) > 1048576
  · exact ev_pos hl (Ev.now _)
  refine ev_neg hl ?_
  obtain ⟨w, h, p, D, n, hd, hD⟩ := DrawTurn_ok l0 hw0
  have h1 := specTurn_ev w h p D n (by omega)
  have h2 := implTurn_eq w h p D n
  have hlen := turnP_length w h p D n
  rw [ev_bind_iff hd, h2]
  simp only [Option.bind_some]
  rw [ev_bind_iff h1, ev_bind_iff (equalImage_same _ _ _ _ hlen)]
  refine ev_pos rfl ?_
  by_cases hv : okImg w h p D = true ∧ (0 ≤ n ∧ n ≤ 3)
  · obtain ⟨hv, hn⟩ := hv
    obtain ⟨W, H, P, rfl, rfl, rfl, o⟩ := (okImg_img hv).1.toN
    have o1 := o.1
    have o2 := o.2.1
    have hW : ((W : Int) == 0) = false := by rw [beq_eq_false_iff_ne]; omega
    have hH : ((H : Int) == 0) = false := by rw [beq_eq_false_iff_ne]; omega
    have hE : D.length ≤ 2000000 := by omega
    exact turn_mirror W H P D o hv hE hW hH n hn
  · have e := turnP_no w h p D n hv
    rw [e] at h1 hlen ⊢
    refine Ev.step (f := fun k => (spec_TurnImage.f k w h p D n).bind fun bt => (laws_equalImage.f k 0 0 0 [] bt.1 bt.2.1 bt.2.2.1 bt.2.2.2).bind fun t => some t) (fun k => by simp [laws_FnTurnMirror.j0]) ?_
    rw [ev_bind_iff h1, ev_bind_iff (equalImage_same _ _ _ _ (by simp))]
    exact Ev.now _

end Go.Proofs.Ytibbkaoghbmncaa.Pure
