/- The passes of the image that JoinPasses makes are the lists, and the image is valid; the program and the reference answer the same; at every code. -/
import Derived.Test.YtpadegboplcapaaLoopsE
import Derived.Test.YtpadegboplcapaaDrawI
import Derived.Test.YtpadegboplcapaaPassD
import Derived.Test.YtpadegboplcapaaJoinD
import Derived.Test.YtpadegboplcapaaJoinS
import Derived.Test.YtpadegboplcapaaQ8
namespace Go.Proofs.Ytpadegboplcapaa.Pure
open Go.RowKit Go.Proofs.Ytpadegboplcapaa.Q Go.Proofs.Ytpadegboplcapaa.B Go.Proofs.YtpadegboplcapaaW.PrintWords Go.Proofs.YtpadegboplcapaaW.PrintLast Go.Proofs.YtpadegboplcapaaW.PrintMore
set_option linter.unusedVariables false

theorem drawRows_ok (w h p : Int) (D : List Int) (hD : D.length ≤ 2000000) : ∀ d (i : Int) (L : List (List Int)), (∀ x ∈ L, x.length ≤ 2304) → ∃ R, Ev (fun k => drawRows k w h p D d i L) R ∧ ∀ x ∈ R, x.length ≤ 2304 := by
  intro d
  induction d with
  | zero => intro i L hL; exact ⟨L, Ev.now _, hL⟩
  | succ d ih =>
    intro i L hL
    obtain ⟨R, hR, hl⟩ := ih (i + 1) (L ++ [passP w h p D i]) (fun x hx => by
      rcases List.mem_append.1 hx with hx | hx
      · exact hL x hx
      · rw [List.mem_singleton.1 hx]
        exact passP_length w h p D i)
    refine ⟨R, ?_, hl⟩
    simp only [drawRows]
    rw [ev_bind_iff (specPass_ev w h p D i hD)]
    exact hR
theorem rd_small {L : List (List Int)} (h : ∀ x ∈ L, x.length ≤ 2304) (i : Int) : (rd_L1 L i).length ≤ 2304 := by
  unfold rd_L1
  rw [List.getD_eq_getElem?_getD]
  cases e : L[i.toNat]? with
  | none => simp
  | some x => exact h x (List.mem_of_getElem? e)
theorem DrawJoin_ok (l : List Int) (h : ∀ x ∈ l, (Lit.int .u8 x).wf = true) : ∃ w h p L, Ev (fun k => spec_DrawJoinPasses.f k l) (w, h, p, L) := by
  obtain ⟨b, hl, hb⟩ := newReader_ok l h
  obtain ⟨w, h, p, D, q, hq, hD, q0, q1⟩ := anyImage_ok b hb 0 (by omega) (by omega)
  obtain ⟨R, hR, hs⟩ := drawRows_ok w h p D (by omega) 7 0 [] (fun x hx => by cases hx)
  have hsp : ∃ L s, Ev (fun k => drawSpoil k b q R) (L, s) ∧ 0 ≤ s ∧ s ≤ 200000 := by
    unfold drawSpoil
    obtain ⟨z, hz, z0, z1⟩ := pick_ok b q 10 hb (by omega) (by omega) (by omega)
    by_cases c : z = 0
    · obtain ⟨a, ha, a0, a1⟩ := pick_ok b (q + 1) 7 hb (by omega) (by omega) (by omega)
      obtain ⟨v, s, hv, s0, s1, _, _⟩ := spoil_ok b (q + 1 + 1) (rd_L1 R a) 256 hb (by omega) (by omega) (by have := rd_small hs a; omega)
      refine ⟨R.set a.toNat v, s, ?_, by omega, by omega⟩
      rw [ev_bind_iff hz]
      refine ev_pos c ?_
      rw [ev_bind_iff ha]
      refine ev_pos ⟨a0, a1⟩ ?_
      rw [ev_bind_iff hv]
      exact Ev.now _
    · refine ⟨R, q + 1, ?_, by omega, by omega⟩
      rw [ev_bind_iff hz]
      exact ev_neg c (Ev.now _)
  obtain ⟨L, s, hL, s0, s1⟩ := hsp
  obtain ⟨z, hz, _⟩ := pick_ok b s 30 hb (by omega) (by omega) (by omega)
  have hcut : Ev (fun k => drawCut k b s L) (if z = 0 then L.drop 1 else L) := by
    unfold drawCut
    rw [ev_bind_iff hz]
    exact Ev.now _
  refine ⟨w, h, p, (if z = 0 then L.drop 1 else L), ?_⟩
  unfold spec_DrawJoinPasses.f
  rw [hl]
  simp only [Option.bind_some]
  rw [ev_bind_iff hq, ev_bind_iff hR, ev_bind_iff hL, ev_bind_iff hcut]
  exact Ev.now _
theorem FnJoinPasses : laws_FnJoinPasses.Pure := by
  intro l0 _ _ hw0
  refine Ev.rounds (g := fun k => laws_FnJoinPasses.f k l0) (r := true) ?_
  unfold laws_FnJoinPasses.f
  by_cases hl : (l0.length : Int) > 1048576
  · exact ev_pos hl (Ev.now _)
  refine ev_neg hl ?_
  obtain ⟨w, h, p, L, hd⟩ := DrawJoin_ok l0 hw0
  have h1 := specJoin_ev w h p L
  have h2 := implJoin_ev w h p L
  have hlen := joinP_length w h p L
  rw [ev_bind_iff hd]
  simp only
  rw [ev_bind_iff h2, ev_bind_iff h1]
  have hstop : ∀ (tw th tp : Int) (E : List Int) (ok : Bool), E.length ≤ 1024 → Ev (fun k => laws_FnJoinPasses.j0 k L ok ok true tw th tp E tw th tp E) true := fun tw th tp E ok hE => by
    refine Ev.step (f := fun k => (laws_equalImage.f k tw th tp E tw th tp E).bind fun t => if t = true then some (ok == ok) else some false) (fun k => by simp only [laws_FnJoinPasses.j0, if_true]) ?_
    rw [ev_bind_iff (equalImage_same tw th tp E (by omega))]
    exact ev_pos rfl (ev_now (by simp))
  by_cases g : okShape w h p ∧ L.length = 7
  · obtain ⟨W, H, P, rfl, rfl, rfl, hW, hH, hP⟩ := okShape_N g.1
    rw [joinP_N hW hH hP g.2] at hlen ⊢
    by_cases o : okRest W H P L 7 0 = true
    · rw [if_pos o] at hlen ⊢
      simp only at hlen ⊢
      rw [ev_bind_iff (equalImage_same (W : Int) (H : Int) (P : Int) (joinTo W H P L 7) (by omega))]
      refine ev_pos rfl (ev_neg (by simp) ?_)
      have hv : okImg (W : Int) (H : Int) (P : Int) (joinTo W H P L 7) = true := img_okImg (joinTo_img hW hH hP o (by omega)).toI (joinTo_bytes o)
      have oi := joinTo_img hW hH hP o (k := 7) (by omega)
      refine Ev.step (f := fun k => laws_FnJoinPasses.l0 k L ((0 : Nat) : Int) (W : Int) (H : Int) (P : Int) (joinTo W H P L 7)) (fun k => by simp only [laws_FnJoinPasses.j0, Bool.not_true, Bool.false_eq_true, if_false]; rfl) ?_
      refine ev_for (fun k (s : Unit) i => laws_FnJoinPasses.l0 k L (i : Int) (W : Int) (H : Int) (P : Int) (joinTo W H P L 7)) 7 (fun _ => ()) (fun i hi r gg => ?_) true ?_
      · have hp := implPass_ev (W : Int) (H : Int) (P : Int) (joinTo W H P L 7) (i : Int)
        rw [passP_N hv hi] at hp
        have hsm := data_small oi hi
        have hjd := join_data o hi
        rw [hjd] at hp hsm
        generalize joinTo W H P L 7 = E at hp gg ⊢
        generalize hx : rd_L1 L (i : Int) = x at hp hsm
        have hL7 := g.2
        refine Ev.step (f := fun k => (impl_PassData.f k (W : Int) (H : Int) (P : Int) E (i : Int)).bind fun t => (laws_equalInts.f k t x).bind fun u => if u = true then laws_FnJoinPasses.l0 k L ((i + 1 : Nat) : Int) (W : Int) (H : Int) (P : Int) E else some false) (fun k => ?_) ?_
        · simp only [laws_FnJoinPasses.l0, hx, pup1 i (show i < 1000000000 by omega), if_pos (show (0 : Int) ≤ (i : Int) by omega), if_pos (show (i : Int) < (L.length : Int) by omega)]
          rw [if_pos (by omega)]
        · rw [ev_bind_iff hp, ev_bind_iff (laws_equalInts_same x (by omega))]
          exact ev_pos rfl gg
      · refine Ev.step (f := fun _ => some true) (fun k => ?_) (Ev.now _)
        simp only [laws_FnJoinPasses.l0]
        rw [if_neg (by omega)]
        unfold impl_ValidImage.f
        rw [isImage_ok, hv]
        rfl
    · rw [if_neg o]
      simp only
      rw [ev_bind_iff (equalImage_same 0 0 0 [] (by simp))]
      exact ev_pos rfl (ev_neg (by simp) (hstop 0 0 0 [] false (by simp)))
  · have e : joinP w h p L = (0, 0, 0, [], false) := by unfold joinP; rw [if_neg g]
    rw [e]
    simp only
    rw [ev_bind_iff (equalImage_same 0 0 0 [] (by simp))]
    exact ev_pos rfl (ev_neg (by simp) (hstop 0 0 0 [] false (by simp)))

end Go.Proofs.Ytpadegboplcapaa.Pure
