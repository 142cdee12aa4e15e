/- What CropImage answers, in the program and in the reference. No conditions. -/
import Derived.Test.YtmljcnhecjlinaaSpecI
import Derived.Test.YtmljcnhecjlinaaQ3
import Derived.Test.YtmljcnhecjlinaaQ4
namespace Go.Proofs.Ytmljcnhecjlinaa.B
open Go.RowKit Go.Proofs.Ytmljcnhecjlinaa.Q Go.Proofs.YtmljcnhecjlinaaW.PrintWords Go.Proofs.YtmljcnhecjlinaaW.PrintLast Go.Proofs.YtmljcnhecjlinaaW.PrintMore
set_option linter.unusedVariables false

def cropPx (W p : Nat) (D : List Int) (x y : Nat) (i j : Nat) : List Int := pix D W p (x + i) (y + j)
def cropP (w h p : Int) (D : List Int) (x y bw bh : Int) : Int × Int × Int × List Int × Bool :=
  if okImg w h p D = true ∧ okBox w h x y bw bh = true then (bw, bh, p, tab bw.toNat bh.toNat (cropPx w.toNat p.toNat D x.toNat y.toNat), true) else (0, 0, 0, [], false)
theorem cropP_length (w h p : Int) (D : List Int) (x y bw bh : Int) : (cropP w h p D x y bw bh).2.2.2.1.length ≤ 2000000 := by
  unfold cropP
  by_cases c : okImg w h p D = true ∧ okBox w h x y bw bh = true
  · rw [if_pos c]
    obtain ⟨W, H, P, rfl, rfl, rfl, o⟩ := (okImg_img c.1).1.toN
    have hd := c.2
    unfold okBox at hd
    rw [decide_eq_true_eq] at hd
    obtain ⟨o1, o2, o3, o4⟩ := o
    have hl := (tab_eq bw.toNat bh.toNat P (cropPx W P D x.toNat y.toNat) (fun i j hi hj => pix_length D W H P _ _ o4 (by omega) (by omega))).1
    simp only [Int.toNat_natCast]
    rw [hl]
    have h3 : bh.toNat * bw.toNat ≤ 16 * 16 := Nat.mul_le_mul (by omega) (by omega)
    have h4 : bh.toNat * bw.toNat * P ≤ 256 * 4 := Nat.mul_le_mul h3 (by omega)
    omega
  · rw [if_neg c]
    simp
theorem implCrop_eq (w h p : Int) (D : List Int) (x y bw bh : Int) : impl_CropImage.f w h p D x y bw bh = some (cropP w h p D x y bw bh) := by
  unfold impl_CropImage.f cropP cropPx
  split <;> rfl
theorem validBox_eq (w h p : Int) (D : List Int) (x y bw bh : Int) (o : ImgI w h p D) : spec_validBox.f w h p D x y bw bh = some (okBox w h x y bw bh) := by
  obtain ⟨a1, a2, a3, a4, _⟩ := o
  unfold spec_validBox.f okBox
  rw [inRange_eq, w64 (x := w - 1) (by omega) (by omega)]
  simp only [Option.bind_some]
  by_cases c1 : 0 ≤ x ∧ x ≤ w - 1
  · rw [if_pos (by simp; omega), inRange_eq, w64 (x := h - 1) (by omega) (by omega)]
    simp only [Option.bind_some]
    by_cases c2 : 0 ≤ y ∧ y ≤ h - 1
    · rw [if_pos (by simp; omega), inRange_eq, w64 (x := w - x) (by omega) (by omega)]
      simp only [Option.bind_some]
      by_cases c3 : 1 ≤ bw ∧ bw ≤ w - x
      · rw [if_pos (by simp; omega), inRange_eq, w64 (x := h - y) (by omega) (by omega)]
        simp only [Option.bind_some]
        congr 1
        rw [Bool.eq_iff_iff]
        simp only [Bool.and_eq_true, decide_eq_true_eq]
        omega
      · rw [if_neg (by simp; omega)]
        congr 1
        rw [eq_comm, decide_eq_false_iff_not]
        omega
    · rw [if_neg (by simp; omega)]
      congr 1
      rw [eq_comm, decide_eq_false_iff_not]
      omega
  · rw [if_neg (by simp; omega)]
    congr 1
    rw [eq_comm, decide_eq_false_iff_not]
    omega
theorem specCropN_ev {W H p : Nat} {D : List Int} (o : NImg W H p D) (x y bw bh : Nat) (hx : x + bw ≤ W) (hy : y + bh ≤ H) (hw : 1 ≤ bw) (hh : 1 ≤ bh) :
    Ev (fun k => spec_crop.f k (W : Int) (H : Int) (p : Int) D (x : Int) (y : Int) (bw : Int) (bh : Int)) ((bw : Int), (bh : Int), (p : Int), tab bw bh (cropPx W p D x y)) := by
  obtain ⟨o1, o2, o3, o4⟩ := o
  let f : Nat → Nat → List Put := fun i j => [⟨i, j, cropPx W p D x y i j⟩]
  have hok : ∀ i j, i < bw → j < bh → ∀ a ∈ f i j, PutOk bw bh p a := by
    intro i j hi hj a ha
    obtain rfl : a = ⟨i, j, cropPx W p D x y i j⟩ := by simpa [f] using ha
    exact ⟨hi, hj, pix_length D W H p _ _ o4 (by omega) (by omega)⟩
  have hst : ∀ i j, i ≤ bw → j < bh → NImg bw bh p (putAll bw p (gridPuts f bw i j) (List.replicate (bh * bw * p) 0)) := fun i j hi hj =>
    ⟨⟨hw, by omega⟩, ⟨hh, by omega⟩, o3, putAll_length bw bh p _ _ (by simp) (fun a ha => by obtain ⟨i', j', hi', hj', g⟩ := mem_grid hi hj ha; exact hok i' j' hi' hj' a g)⟩
  have hend : putAll bw p (gridPuts f bw 0 bh) (List.replicate (bh * bw * p) 0) = tab bw bh (cropPx W p D x y) := by
    rw [grid_end]
    refine putAll_tab bw bh p _ _ _ (by simp) (fun a ha => ?_) (fun a ha => ?_) (fun X Y hX hY => ?_)
    · obtain ⟨i, j, hi, hj, g⟩ := mem_all.1 ha
      exact hok i j hi hj a g
    · obtain ⟨i, j, hi, hj, g⟩ := mem_all.1 ha
      obtain rfl : a = ⟨i, j, cropPx W p D x y i j⟩ := by simpa [f] using g
      rfl
    · exact ⟨⟨X, Y, cropPx W p D x y X Y⟩, mem_all.2 ⟨X, Y, hX, hY, by simp [f]⟩, rfl, rfl⟩
  unfold spec_crop.f
  rw [specNew_eq bw bh p (by omega) (by omega) o3.2]
  simp only [Option.bind_some]
  refine ev_grid (fun k s j => spec_crop.l0 k (x : Int) (y : Int) (bw : Int) (bh : Int) (j : Int) (W : Int) (H : Int) (p : Int) D (bw : Int) (bh : Int) (p : Int) s) (fun k s j i => spec_crop.l1 k (x : Int) (y : Int) (bw : Int) (bh : Int) (j : Int) (i : Int) (W : Int) (H : Int) (p : Int) D (bw : Int) (bh : Int) (p : Int) s) bw bh (fun i j => putAll bw p (gridPuts f bw i j) (List.replicate (bh * bw * p) 0)) (fun j hj r h => ?_) (fun i j hi hj r h => ?_) (fun j hj r h => ?_) _ ?_
  · refine Ev.step (fun k => ?_) h
    simp only [spec_crop.l0]
    rw [if_pos (by omega)]
    rfl
  · have g1 : x + i < 1000000000 := by omega
    have g2 : y + j < 1000000000 := by omega
    have hpx := specPixelAt_eq (D := D) (W := W) (H := H) (p := p) ⟨o1, o2, o3, o4⟩ (show x + i < W by omega) (show y + j < H by omega)
    have hset := specSetPixel_ev (v := cropPx W p D x y i j) (hst i j (by omega) hj) hi hj (pix_length D W H p _ _ o4 (by omega) (by omega))
    refine Ev.step (f := fun k => (spec_setPixel.f k (bw : Int) (bh : Int) (p : Int) (putAll bw p (gridPuts f bw i j) (List.replicate (bh * bw * p) 0)) (i : Int) (j : Int) (cropPx W p D x y i j)).bind fun t => spec_crop.l1 k (x : Int) (y : Int) (bw : Int) (bh : Int) (j : Int) (wrap64 ((i : Int) + 1)) (W : Int) (H : Int) (p : Int) D (bw : Int) (bh : Int) (p : Int) t) (fun k => ?_) ?_
    · simp only [spec_crop.l1, up2 x i g1, up2 y j g2, hpx, Option.bind_some]
      rw [if_pos (by omega)]
      rfl
    · rw [ev_bind_iff hset, up1 i (by omega)]
      rw [grid_succ, putAll_append] at h
      exact h
  · rw [← grid_next] at h
    refine Ev.step (fun k => ?_) h
    simp only [spec_crop.l1, up1 j (by omega)]
    rw [if_neg (by omega)]
  · refine Ev.step (f := fun _ => some ((bw : Int), (bh : Int), (p : Int), tab bw bh (cropPx W p D x y))) (fun k => ?_) (Ev.now _)
    simp only [spec_crop.l0, hend]
    rw [if_neg (by omega)]
theorem specCrop_ev (w h p : Int) (D : List Int) (x y bw bh : Int) (hn : D.length ≤ 2000000) : Ev (fun k => spec_CropImage.f k w h p D x y bw bh) (cropP w h p D x y bw bh) := by
  unfold spec_CropImage.f cropP
  rw [ev_bind_iff (validImage_ev w h p D hn)]
  by_cases hv : okImg w h p D = true
  · have oi := (okImg_img hv).1
    refine ev_pos hv ?_
    rw [validBox_eq w h p D x y bw bh oi]
    simp only [Option.bind_some]
    by_cases hb : okBox w h x y bw bh = true
    · rw [if_pos ⟨hv, hb⟩]
      refine ev_pos hb ?_
      obtain ⟨W, H, P, rfl, rfl, rfl, o⟩ := oi.toN
      have hd := hb
      unfold okBox at hd
      rw [decide_eq_true_eq] at hd
      obtain ⟨x, rfl⟩ := Int.eq_ofNat_of_zero_le (show 0 ≤ x by omega)
      obtain ⟨y, rfl⟩ := Int.eq_ofNat_of_zero_le (show 0 ≤ y by omega)
      obtain ⟨bw, rfl⟩ := Int.eq_ofNat_of_zero_le (show 0 ≤ bw by omega)
      obtain ⟨bh, rfl⟩ := Int.eq_ofNat_of_zero_le (show 0 ≤ bh by omega)
      rw [ev_bind_iff (specCropN_ev o x y bw bh (by omega) (by omega) (by omega) (by omega))]
      simp only [Int.toNat_natCast]
      exact Ev.now _
    · rw [if_neg (fun g => hb g.2)]
      exact ev_neg hb (Ev.now _)
  · rw [if_neg (fun g => hv g.1)]
    exact ev_neg hv (Ev.now _)

end Go.Proofs.Ytmljcnhecjlinaa.B
