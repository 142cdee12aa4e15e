/- A part can be put back, and its last pixel is the image's; at every code. -/
import Derived.Test.YtmljcnhecjlinaaLoopsE
import Derived.Test.YtmljcnhecjlinaaDrawI
import Derived.Test.YtmljcnhecjlinaaCrop
import Derived.Test.YtmljcnhecjlinaaPaste
import Derived.Test.YtmljcnhecjlinaaPixel
import Derived.Test.YtmljcnhecjlinaaQ12
namespace Go.Proofs.Ytmljcnhecjlinaa.Pure
open Go.RowKit Go.Proofs.Ytmljcnhecjlinaa.Q Go.Proofs.Ytmljcnhecjlinaa.B Go.Proofs.YtmljcnhecjlinaaW.PrintWords Go.Proofs.YtmljcnhecjlinaaW.PrintLast Go.Proofs.YtmljcnhecjlinaaW.PrintMore
set_option linter.unusedVariables false

theorem anyBox_ok (b : List Int) (hb : Bytes b) (pos : Int) (h0 : 0 ≤ pos) (h1 : pos ≤ 90000) : ∃ x y bw bh pos', Ev (fun k => spec_anyBox.f k b pos) (x, y, bw, bh, pos') := by
  obtain ⟨c1, hc1, _⟩ := one_ok b pos [0, 1, 2, -1, 0, 4] hb h0 (by omega) (by simp)
  obtain ⟨c2, hc2, _⟩ := one_ok b (pos + 1) [0, 1, 0, 2, -1] hb (by omega) (by omega) (by simp)
  obtain ⟨c3, hc3, _⟩ := one_ok b (pos + 1 + 1) [1, 2, 3, 1, 0, 16] hb (by omega) (by omega) (by simp)
  obtain ⟨c4, hc4, _⟩ := one_ok b (pos + 1 + 1 + 1) [1, 2, 1, 3, 0] hb (by omega) (by omega) (by simp)
  refine ⟨c1, c2, c3, c4, pos + 1 + 1 + 1 + 1, ?_⟩
  unfold spec_anyBox.f
  rw [ev_bind_iff hc1, ev_bind_iff hc2, ev_bind_iff hc3, ev_bind_iff hc4]
  exact Ev.now _
theorem DrawCrop_ok (l : List Int) (h : ∀ x ∈ l, (Lit.int .u8 x).wf = true) : ∃ w h p D x y bw bh, Ev (fun k => spec_DrawCropImage.f k l) (w, h, p, D, x, y, bw, bh) ∧ D.length ≤ 256 := by
  obtain ⟨b, hl, hb⟩ := newReader_ok l h
  obtain ⟨w, h, p, D, q, hq, hD, q0, q1⟩ := anyImage_ok b hb 0 (by omega) (by omega)
  obtain ⟨x, y, bw, bh, s, hs⟩ := anyBox_ok b hb q (by omega) (by omega)
  refine ⟨w, h, p, D, x, y, bw, bh, ?_, hD⟩
  unfold spec_DrawCropImage.f
  rw [hl]
  simp only [Option.bind_some]
  rw [ev_bind_iff hq, ev_bind_iff hs]
  exact Ev.now _
theorem crop_back {W H p : Nat} {D : List Int} (o : NImg W H p D) (x y bw bh : Nat) (hx : x + bw ≤ W) (hy : y + bh ≤ H) : tab W H (pastePx (W : Int) (p : Int) D (bw : Int) (bh : Int) (tab bw bh (cropPx W p D x y)) (x : Int) (y : Int)) = D := by
  have ht := (tab_eq bw bh p (cropPx W p D x y) (fun i j hi hj => pix_length D W H p _ _ o.2.2.2 (by omega) (by omega))).2
  have hf : ∀ i j, i < W → j < H → pastePx (W : Int) (p : Int) D (bw : Int) (bh : Int) (tab bw bh (cropPx W p D x y)) (x : Int) (y : Int) i j = pix D W p i j := by
    intro i j hi hj
    unfold pastePx
    simp only [Int.toNat_natCast]
    split
    · rename_i c
      rw [ht _ _ (by omega) (by omega)]
      unfold cropPx
      rw [show x + ((i : Int) - (x : Int)).toNat = i by omega, show y + ((j : Int) - (y : Int)).toNat = j by omega]
    · rfl
  rw [tab_congr W H _ _ hf, tab_pix D W H p o.2.2.2]
theorem FnCropImage : laws_FnCropImage.Pure := by
  intro l0 _ _ hw0
  refine Ev.rounds (g := fun k => laws_FnCropImage.f k l0) (r := true) ?_
  unfold laws_FnCropImage.f
  by_cases hl : (l0.length : Int) > 1048576
  · exact ev_pos hl (Ev.now _)
  refine ev_neg hl ?_
  obtain ⟨w, h, p, D, x, y, bw, bh, hd, hD⟩ := DrawCrop_ok l0 hw0
  have h1 := specCrop_ev w h p D x y bw bh (by omega)
  have h2 := implCrop_eq w h p D x y bw bh
  have hlen := cropP_length w h p D x y bw bh
  have hok : (cropP w h p D x y bw bh).2.2.2.2 = true → okImg w h p D = true ∧ okBox w h x y bw bh = true := by
    unfold cropP
    split
    · rename_i c
      exact fun _ => c
    · intro e
      exact absurd e (by simp)
  rw [ev_bind_iff hd, h2]
  simp only [Option.bind_some]
  rw [ev_bind_iff h1, ev_bind_iff (equalImage_same _ _ _ _ hlen)]
  refine ev_pos rfl (ev_neg (by simp) ?_)
  by_cases hk : (cropP w h p D x y bw bh).2.2.2.2 = true
  · obtain ⟨c1, c2⟩ := hok hk
    have e : cropP w h p D x y bw bh = (bw, bh, p, tab bw.toNat bh.toNat (cropPx w.toNat p.toNat D x.toNat y.toNat), true) := by unfold cropP; rw [if_pos ⟨c1, c2⟩]
    clear h1 h2 hlen hok hk
    rw [e]
    simp only
    obtain ⟨oi, hby⟩ := okImg_img c1
    obtain ⟨W, H, P, rfl, rfl, rfl, o⟩ := oi.toN
    have hb := c2
    unfold okBox at hb
    rw [decide_eq_true_eq] at hb
    obtain ⟨x, rfl⟩ := Int.eq_ofNat_of_zero_le (show 0 ≤ x by omega)
    obtain ⟨y, rfl⟩ := Int.eq_ofNat_of_zero_le (show 0 ≤ y by omega)
    obtain ⟨bw, rfl⟩ := Int.eq_ofNat_of_zero_le (show 0 ≤ bw by omega)
    obtain ⟨bh, rfl⟩ := Int.eq_ofNat_of_zero_le (show 0 ≤ bh by omega)
    simp only [Int.toNat_natCast]
    have hl1 : ∀ i j, i < bw → j < bh → (cropPx W P D x y i j).length = P := fun i j hi hj => pix_length D W H P _ _ o.2.2.2 (by omega) (by omega)
    have hu : okImg (bw : Int) (bh : Int) (P : Int) (tab bw bh (cropPx W P D x y)) = true := tab_ok _ (by have := o.1; omega) (by have := o.2.1; omega) o.2.2.1 hl1 (fun i j _ _ => pix_bytes hby W P _ _)
    have hpaste : pasteP (W : Int) (H : Int) (P : Int) D (x : Int) (y : Int) (bw : Int) (bh : Int) (P : Int) (tab bw bh (cropPx W P D x y)) = ((W : Int), (H : Int), (P : Int), D, true) := by
      unfold pasteP
      rw [if_pos ⟨c1, hu, rfl, by omega, by have := o.1; omega, by omega, by have := o.2.1; omega⟩]
      simp only [Int.toNat_natCast]
      rw [crop_back o x y bw bh (by omega) (by omega)]
    have hp1 : pixelP (bw : Int) (bh : Int) (P : Int) (tab bw bh (cropPx W P D x y)) (wrap64 ((bw : Int) - 1)) (wrap64 ((bh : Int) - 1)) = pix D W P (x + (bw - 1)) (y + (bh - 1)) := by
      rw [show wrap64 ((bw : Int) - 1) = ((bw - 1 : Nat) : Int) by rw [w64 (by omega) (by have := o.1; omega)]; omega, show wrap64 ((bh : Int) - 1) = ((bh - 1 : Nat) : Int) by rw [w64 (by omega) (by have := o.2.1; omega)]; omega, pixelP_in hu (by omega) (by omega), (tab_eq bw bh P _ hl1).2 _ _ (by omega) (by omega)]
      rfl
    have hp2 : pixelP (W : Int) (H : Int) (P : Int) D (wrap64 ((wrap64 ((x : Int) + (bw : Int))) - 1)) (wrap64 ((wrap64 ((y : Int) + (bh : Int))) - 1)) = pix D W P (x + (bw - 1)) (y + (bh - 1)) := by
      have a1 := o.1
      have a2 := o.2.1
      rw [show wrap64 ((wrap64 ((x : Int) + (bw : Int))) - 1) = ((x + (bw - 1) : Nat) : Int) by rw [w64 (x := (x : Int) + (bw : Int)) (by omega) (by omega), w64 (by omega) (by omega)]; omega, show wrap64 ((wrap64 ((y : Int) + (bh : Int))) - 1) = ((y + (bh - 1) : Nat) : Int) by rw [w64 (x := (y : Int) + (bh : Int)) (by omega) (by omega), w64 (by omega) (by omega)]; omega]
      exact pixelP_in c1 (by omega) (by omega)
    have hpl : (pix D W P (x + (bw - 1)) (y + (bh - 1))).length ≤ 2000000 := by
      have := pix_length D W H P (x + (bw - 1)) (y + (bh - 1)) o.2.2.2 (by omega) (by omega)
      have := o.2.2.1
      omega
    generalize tab bw bh (cropPx W P D x y) = E at hpaste hp1 ⊢
    refine Ev.step (f := fun k => (laws_equalImage.f k (W : Int) (H : Int) (P : Int) D (W : Int) (H : Int) (P : Int) D).bind fun t => (if t = true then ((laws_equalInts.f k (pix D W P (x + (bw - 1)) (y + (bh - 1))) (pix D W P (x + (bw - 1)) (y + (bh - 1)))).bind fun t => (some t)) else (some false))) (fun k => ?_) ?_
    · simp only [laws_FnCropImage.j0, Bool.not_true, Bool.false_eq_true, if_false, implPaste_eq, hpaste, Option.bind_some, if_true, implPixel_eq, hp1, hp2]
    · rw [ev_bind_iff (equalImage_same _ _ _ _ (by omega))]
      refine ev_pos rfl ?_
      rw [ev_bind_iff (laws_equalInts_same _ hpl)]
      exact Ev.now _
  · have hf := Bool.eq_false_iff.2 hk
    rw [hf]
    refine Ev.step (f := fun k => (laws_equalImage.f k (cropP w h p D x y bw bh).1 (cropP w h p D x y bw bh).2.1 (cropP w h p D x y bw bh).2.2.1 (cropP w h p D x y bw bh).2.2.2.1 (cropP w h p D x y bw bh).1 (cropP w h p D x y bw bh).2.1 (cropP w h p D x y bw bh).2.2.1 (cropP w h p D x y bw bh).2.2.2.1).bind fun t => (if t = true then (some (false == false)) else (some false))) (fun k => by simp only [laws_FnCropImage.j0, Bool.not_false, if_true]) ?_
    rw [ev_bind_iff (equalImage_same _ _ _ _ hlen)]
    exact ev_pos rfl (Ev.now _)

end Go.Proofs.Ytmljcnhecjlinaa.Pure
