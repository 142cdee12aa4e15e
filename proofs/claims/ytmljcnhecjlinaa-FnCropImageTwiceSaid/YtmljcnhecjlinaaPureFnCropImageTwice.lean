/- A part of a part is a part; at every code. -/
import Derived.Test.YtmljcnhecjlinaaLoopsE
import Derived.Test.YtmljcnhecjlinaaDrawI
import Derived.Test.YtmljcnhecjlinaaCrop
import Derived.Test.YtmljcnhecjlinaaQ13
namespace Go.Proofs.Ytmljcnhecjlinaa.Pure
open Go.RowKit Go.Proofs.Ytmljcnhecjlinaa.Q Go.Proofs.Ytmljcnhecjlinaa.B Go.Proofs.YtmljcnhecjlinaaW.PrintWords Go.Proofs.YtmljcnhecjlinaaW.PrintLast Go.Proofs.YtmljcnhecjlinaaW.PrintMore
set_option linter.unusedVariables false

theorem anyBox_ok (b : List Int) (hb : Bytes b) (pos : Int) (h0 : 0 ≤ pos) (h1 : pos ≤ 90000) : ∃ x y bw bh pos', Ev (fun k => spec_anyBox.f k b pos) (x, y, bw, bh, pos') := by
  obtain ⟨c1, hc1, _⟩ := one_ok b pos [0, 1, 2, -1, 0, 4] hb h0 (by omega) (by simp)
  obtain ⟨c2, hc2, _⟩ := one_ok b (pos + 1) [0, 1, 0, 2, -1] hb (by omega) (by omega) (by simp)
  obtain ⟨c3, hc3, _⟩ := one_ok b (pos + 1 + 1) [1, 2, 3, 1, 0, 16] hb (by omega) (by omega) (by simp)
  obtain ⟨c4, hc4, _⟩ := one_ok b (pos + 1 + 1 + 1) [1, 2, 1, 3, 0] hb (by omega) (by omega) (by simp)
  refine ⟨c1, c2, c3, c4, pos + 1 + 1 + 1 + 1, ?_⟩
  unfold spec_anyBox.f
  rw [ev_bind_iff hc1, ev_bind_iff hc2, ev_bind_iff hc3, ev_bind_iff hc4]
  exact Ev.now _
theorem DrawCrop_ok (l : List Int) (h : ∀ x ∈ l, (Lit.int .u8 x).wf = true) : ∃ w h p D x y bw bh, Ev (fun k => spec_DrawCropImage.f k l) (w, h, p, D, x, y, bw, bh) ∧ D.length ≤ 256 := by
  obtain ⟨b, hl, hb⟩ := newReader_ok l h
  obtain ⟨w, h, p, D, q, hq, hD, q0, q1⟩ := anyImage_ok b hb 0 (by omega) (by omega)
  obtain ⟨x, y, bw, bh, s, hs⟩ := anyBox_ok b hb q (by omega) (by omega)
  refine ⟨w, h, p, D, x, y, bw, bh, ?_, hD⟩
  unfold spec_DrawCropImage.f
  rw [hl]
  simp only [Option.bind_some]
  rw [ev_bind_iff hq, ev_bind_iff hs]
  exact Ev.now _
theorem crop_crop {W H p : Nat} {D : List Int} (o : NImg W H p D) (x y bw bh : Nat) (hx : x + bw ≤ W) (hy : y + bh ≤ H) (h2 : 2 ≤ bw) : tab (bw - 1) bh (cropPx bw p (tab bw bh (cropPx W p D x y)) 1 0) = tab (bw - 1) bh (cropPx W p D (x + 1) y) := by
  have ht := (tab_eq bw bh p (cropPx W p D x y) (fun i j hi hj => pix_length D W H p _ _ o.2.2.2 (by omega) (by omega))).2
  refine tab_congr _ _ _ _ fun i j hi hj => ?_
  have e : cropPx bw p (tab bw bh (cropPx W p D x y)) 1 0 i j = pix (tab bw bh (cropPx W p D x y)) bw p (1 + i) (0 + j) := rfl
  rw [e, ht (1 + i) (0 + j) (by omega) (by omega)]
  unfold cropPx
  rw [show x + (1 + i) = x + 1 + i by omega, Nat.zero_add]
theorem FnCropImageTwice : laws_FnCropImageTwice.Pure := by
  intro l0 _ _ hw0
  refine Ev.rounds (g := fun k => laws_FnCropImageTwice.f k l0) (r := true) ?_
  unfold laws_FnCropImageTwice.f
  by_cases hl : (l0.length : Int) > 1048576
  · exact ev_pos hl (Ev.now _)
  refine ev_neg hl ?_
  obtain ⟨w, h, p, D, x, y, bw, bh, hd, hD⟩ := DrawCrop_ok l0 hw0
  have h1 := specCrop_ev w h p D x y bw bh (by omega)
  have h2 := implCrop_eq w h p D x y bw bh
  have hlen := cropP_length w h p D x y bw bh
  have hok : (cropP w h p D x y bw bh).2.2.2.2 = true → okImg w h p D = true ∧ okBox w h x y bw bh = true := by
    unfold cropP
    split
    · rename_i c
      exact fun _ => c
    · intro e
      exact absurd e (by simp)
  have hstop : ∀ (tw th tp : Int) (E : List Int) (ok : Bool), E.length ≤ 2000000 → Ev (fun k => laws_FnCropImageTwice.j0 k ok ok true w h p D x y bw bh tw th tp E tw th tp E) true := fun tw th tp E ok hE => by
    refine Ev.step (f := fun k => (laws_equalImage.f k tw th tp E tw th tp E).bind fun t => (if t = true then (some (ok == ok)) else (some false))) (fun k => by simp only [laws_FnCropImageTwice.j0, if_true]) ?_
    rw [ev_bind_iff (equalImage_same _ _ _ _ hE)]
    exact ev_pos rfl (ev_now (by simp))
  rw [ev_bind_iff hd, h2]
  simp only [Option.bind_some]
  rw [ev_bind_iff h1, ev_bind_iff (equalImage_same _ _ _ _ hlen)]
  refine ev_pos rfl (ev_neg (by simp) ?_)
  by_cases hk : (cropP w h p D x y bw bh).2.2.2.2 = true
  · refine ev_pos hk ?_
    obtain ⟨c1, c2⟩ := hok hk
    have e : cropP w h p D x y bw bh = (bw, bh, p, tab bw.toNat bh.toNat (cropPx w.toNat p.toNat D x.toNat y.toNat), true) := by unfold cropP; rw [if_pos ⟨c1, c2⟩]
    by_cases c3 : bw < 2
    · rw [decide_eq_true c3]
      exact hstop _ _ _ _ _ hlen
    rw [decide_eq_false c3]
    clear h1 h2 hlen hok hk hstop
    rw [e]
    simp only
    obtain ⟨oi, hby⟩ := okImg_img c1
    obtain ⟨W, H, P, rfl, rfl, rfl, o⟩ := oi.toN
    have hb := c2
    unfold okBox at hb
    rw [decide_eq_true_eq] at hb
    obtain ⟨x, rfl⟩ := Int.eq_ofNat_of_zero_le (show 0 ≤ x by omega)
    obtain ⟨y, rfl⟩ := Int.eq_ofNat_of_zero_le (show 0 ≤ y by omega)
    obtain ⟨bw, rfl⟩ := Int.eq_ofNat_of_zero_le (show 0 ≤ bw by omega)
    obtain ⟨bh, rfl⟩ := Int.eq_ofNat_of_zero_le (show 0 ≤ bh by omega)
    simp only [Int.toNat_natCast]
    have a1 := o.1
    have a2 := o.2.1
    have hl1 : ∀ i j, i < bw → j < bh → (cropPx W P D x y i j).length = P := fun i j hi hj => pix_length D W H P _ _ o.2.2.2 (by omega) (by omega)
    have hu : okImg (bw : Int) (bh : Int) (P : Int) (tab bw bh (cropPx W P D x y)) = true := tab_ok _ (by omega) (by omega) o.2.2.1 hl1 (fun i j _ _ => pix_bytes hby W P _ _)
    have E1 : Aside0 (wrap64 ((bw : Int) - 1) = ((bw - 1 : Nat) : Int)) := ⟨by rw [w64 (by omega) (by omega)]; omega⟩
    have E2 : Aside0 (wrap64 ((x : Int) + 1) = ((x + 1 : Nat) : Int)) := ⟨by rw [w64 (by omega) (by omega)]; omega⟩
    have hc1 : cropP (bw : Int) (bh : Int) (P : Int) (tab bw bh (cropPx W P D x y)) 1 0 ((bw - 1 : Nat) : Int) (bh : Int) = (((bw - 1 : Nat) : Int), (bh : Int), (P : Int), tab (bw - 1) bh (cropPx W P D (x + 1) y), true) := by
      unfold cropP
      rw [if_pos ⟨hu, by unfold okBox; rw [decide_eq_true_eq]; omega⟩]
      simp only [Int.toNat_natCast]
      rw [← crop_crop o x y bw bh (by omega) (by omega) (by omega)]
      rfl
    have hc2 : cropP (W : Int) (H : Int) (P : Int) D ((x + 1 : Nat) : Int) (y : Int) ((bw - 1 : Nat) : Int) (bh : Int) = (((bw - 1 : Nat) : Int), (bh : Int), (P : Int), tab (bw - 1) bh (cropPx W P D (x + 1) y), true) := by
      unfold cropP
      rw [if_pos ⟨c1, by unfold okBox; rw [decide_eq_true_eq]; omega⟩]
      simp only [Int.toNat_natCast]
    have hlen := cropP_length (W : Int) (H : Int) (P : Int) D ((x + 1 : Nat) : Int) (y : Int) ((bw - 1 : Nat) : Int) (bh : Int)
    rw [hc2] at hlen
    simp only at hlen
    generalize tab bw bh (cropPx W P D x y) = E at hc1 ⊢
    generalize tab (bw - 1) bh (cropPx W P D (x + 1) y) = F at hc1 hc2 hlen
    refine Ev.step (f := fun k => (laws_equalImage.f k ((bw - 1 : Nat) : Int) (bh : Int) (P : Int) F ((bw - 1 : Nat) : Int) (bh : Int) (P : Int) F).bind fun t => some t) (fun k => ?_) ?_
    · simp only [laws_FnCropImageTwice.j0, Bool.false_eq_true, if_false, implCrop_eq, E1.out, E2.out, hc1, hc2, Option.bind_some, if_true]
    · rw [ev_bind_iff (equalImage_same _ _ _ _ hlen)]
      exact Ev.now _
  · refine ev_neg hk ?_
    exact hstop _ _ _ _ _ hlen

end Go.Proofs.Ytmljcnhecjlinaa.Pure
