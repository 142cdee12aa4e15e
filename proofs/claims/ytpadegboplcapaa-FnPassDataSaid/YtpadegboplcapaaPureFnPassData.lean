/- A pass has Planes numbers for each of its pixels, and the first pass begins with the first pixel; at every code. -/
import Derived.Test.YtpadegboplcapaaLoopsE
import Derived.Test.YtpadegboplcapaaDrawI
import Derived.Test.YtpadegboplcapaaPassD
import Derived.Test.YtpadegboplcapaaPixel
import Derived.Test.YtpadegboplcapaaQ8
namespace Go.Proofs.Ytpadegboplcapaa.Pure
open Go.RowKit Go.Proofs.Ytpadegboplcapaa.Q Go.Proofs.Ytpadegboplcapaa.B Go.Proofs.YtpadegboplcapaaW.PrintWords Go.Proofs.YtpadegboplcapaaW.PrintLast Go.Proofs.YtpadegboplcapaaW.PrintMore
set_option linter.unusedVariables false

theorem DrawPass_ok (l : List Int) (h : ∀ x ∈ l, (Lit.int .u8 x).wf = true) : ∃ w h p D n, Ev (fun k => spec_DrawPassData.f k l) (w, h, p, D, n) ∧ D.length ≤ 256 := by
  obtain ⟨b, hl, hb⟩ := newReader_ok l h
  obtain ⟨w, h, p, D, q, hq, hD, q0, q1⟩ := anyImage_ok b hb 0 (by omega) (by omega)
  obtain ⟨z, hz, _⟩ := pick_ok b q 9 hb (by omega) (by omega) (by omega)
  refine ⟨w, h, p, D, wrap64 (z - 1), ?_, hD⟩
  unfold spec_DrawPassData.f
  rw [hl]
  simp only [Option.bind_some]
  rw [ev_bind_iff hq, ev_bind_iff hz]
  exact Ev.now _
theorem first_pix {W H P : Nat} {D : List Int} (o : NImg W H P D) : (dataN W H P D 0).take P = pix D W P 0 0 ∧ P ≤ (dataN W H P D 0).length := by
  have o1 := o.1
  have o2 := o.2.1
  have hr : ∃ r, rowsN 0 H = (0 : Int) :: r := by
    have h := everyN_drop (x := 0) (d := 8) (n := cnt 0 8 H) (i := 0) (by unfold cnt; omega)
    exact ⟨_, by rw [List.drop_zero] at h; exact h⟩
  have hc : ∃ r, colsN 0 W = (0 : Int) :: r := by
    have h := everyN_drop (x := 0) (d := 8) (n := cnt 0 8 W) (i := 0) (by unfold cnt; omega)
    exact ⟨_, by rw [List.drop_zero] at h; exact h⟩
  obtain ⟨r, hr⟩ := hr
  obtain ⟨c, hc⟩ := hc
  have hl := pix_length D W H P 0 0 o.2.2.2 (by omega) (by omega)
  have e : ∃ t, dataN W H P D 0 = pix D W P 0 0 ++ t := by
    unfold dataN passAll
    rw [hr, hc, List.flatMap_cons]
    unfold passRow
    rw [List.flatMap_cons, List.append_assoc]
    exact ⟨_, rfl⟩
  obtain ⟨t, e⟩ := e
  rw [e]
  exact ⟨by rw [List.take_append_of_le_length (by omega), List.take_of_length_le (by omega)], by rw [List.length_append]; omega⟩
theorem FnPassData : laws_FnPassData.Pure := by
  intro l0 _ _ hw0
  refine Ev.rounds (g := fun k => laws_FnPassData.f k l0) (r := true) ?_
  unfold laws_FnPassData.f
  by_cases hl : (l0.length : Int) > 1048576
  · exact ev_pos hl (Ev.now _)
  refine ev_neg hl ?_
  obtain ⟨w, h, p, D, n, hd, hD⟩ := DrawPass_ok l0 hw0
  have h1 := specPass_ev w h p D n (by omega)
  have h2 := implPass_ev w h p D n
  have hlen := passP_length w h p D n
  rw [ev_bind_iff hd]
  simp only
  rw [ev_bind_iff h2, ev_bind_iff h1, ev_bind_iff (laws_equalInts_same _ (by omega))]
  refine ev_pos rfl ?_
  have hstop : Ev (fun k => laws_FnPassData.j0 k n (passP w h p D n) true w h p D) true := by
    refine Ev.step (f := fun k => (spec_PassData.f k w h p D n).bind fun t => (laws_equalInts.f k (passP w h p D n) t).bind fun t => some t) (fun k => by simp only [laws_FnPassData.j0, if_true]) ?_
    rw [ev_bind_iff h1, ev_bind_iff (laws_equalInts_same _ (by omega))]
    exact Ev.now _
  have hval : Ev (fun _ => impl_ValidImage.f w h p D) (okImg w h p D) := by
    unfold impl_ValidImage.f
    rw [isImage_ok]
    exact Ev.now _
  rw [ev_bind_iff hval]
  by_cases hv : okImg w h p D = true
  · refine ev_pos hv ?_
    by_cases c1 : n < 0
    · exact ev_pos c1 hstop
    · refine ev_neg c1 ?_
      by_cases c2 : n > 6
      · rw [decide_eq_true c2]
        exact hstop
      · rw [decide_eq_false c2]
        obtain ⟨W, H, P, rfl, rfl, rfl, o⟩ := (okImg_img hv).1.toN
        obtain ⟨K, rfl⟩ := Int.eq_ofNat_of_zero_le (show 0 ≤ n by omega)
        have hK : K < 7 := by omega
        have o1 := o.1
        have o2 := o.2.1
        have o3 := o.2.2.1
        have hs := implSize_ev (W : Int) (H : Int) (K : Int)
        have os : okSize (W : Int) (H : Int) (K : Int) = true := by
          unfold okSize
          simp only [Bool.and_eq_true, decide_eq_true_eq]
          omega
        have es : sizeP (W : Int) (H : Int) (K : Int) = ((cnt (pX K) (pU K) W : Int), (cnt (pY K) (pV K) H : Int)) := by
          unfold sizeP
          rw [if_pos os]
          simp only [Int.toNat_natCast]
        rw [es] at hs
        have h0 := implPass_ev (W : Int) (H : Int) (P : Int) D (0 : Int)
        have e0 : passP (W : Int) (H : Int) (P : Int) D (0 : Int) = dataN W H P D 0 := passP_N (K := 0) hv (by omega)
        rw [e0] at h0
        obtain ⟨f1, f2⟩ := first_pix o
        have hpx : pixelP (W : Int) (H : Int) (P : Int) D 0 0 = pix D W P 0 0 := pixelP_in hv (show 0 < W by omega) (show 0 < H by omega)
        have hpl := pix_length D W H P 0 0 o.2.2.2 (by omega) (by omega)
        have hdl := data_len o hK
        have lr : (rowsN K H).length = cnt (pY K) (pV K) H := by unfold rowsN; rw [everyN_length]
        have lc : (colsN K W).length = cnt (pX K) (pU K) W := by unfold colsN; rw [everyN_length]
        rw [lr, lc] at hdl
        have ca := (cnt16 hK o.1.2).1
        have cb := (cnt16 hK o.2.1.2).2
        have m1 := Nat.mul_le_mul ca cb
        have m2 := Nat.mul_le_mul m1 o3.2
        rw [passP_N hv hK]
        have E1 := Aside0.mk (pup3 (cnt (pX K) (pU K) W) (cnt (pY K) (pV K) H) (by omega))
        have E2 := Aside0.mk (pup3 (cnt (pX K) (pU K) W * cnt (pY K) (pV K) H) P (by omega))
        have hdl2 : (dataN W H P D K).length = cnt (pX K) (pU K) W * cnt (pY K) (pV K) H * P := by
          rw [hdl, ← Nat.mul_assoc, Nat.mul_comm (cnt (pY K) (pV K) H)]
        generalize dataN W H P D K = L at hdl2
        generalize dataN W H P D 0 = F at h0 f1 f2
        generalize pix D W P 0 0 = v at f1 hpx hpl
        refine Ev.step (f := fun k => (impl_PassSize.f k (W : Int) (H : Int) (K : Int)).bind fun bt => (impl_PassData.f k (W : Int) (H : Int) (P : Int) D 0).bind fun t => (if (L.length : Int) = (wrap64 ((wrap64 (bt.1 * bt.2)) * (P : Int))) then (if (t.length : Int) ≥ (P : Int) then (if 0 ≤ (P : Int) then (if (P : Int) ≤ (t.length : Int) then ((laws_equalInts.f k (t.take P) v).bind fun t => (some t)) else (none)) else (none)) else (some false)) else (some false))) (fun k => ?_) ?_
        · simp only [laws_FnPassData.j0, Bool.false_eq_true, if_false, implPixel_eq, hpx, Option.bind_some, Int.toNat_natCast]
        · rw [ev_bind_iff hs, ev_bind_iff h0]
          simp only [E1.out, E2.out, f1]
          refine ev_pos (by omega) (ev_pos (by omega) (ev_pos (by omega) (ev_pos (by omega) ?_)))
          rw [ev_bind_iff (laws_equalInts_same _ (by omega))]
          exact Ev.now _
  · exact ev_neg hv hstop

end Go.Proofs.Ytpadegboplcapaa.Pure
