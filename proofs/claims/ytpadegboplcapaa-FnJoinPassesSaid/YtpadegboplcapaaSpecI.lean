/- What the reference's small functions of images answer. No conditions. -/
import Derived.Test.YtpadegboplcapaaImgF
import Derived.Test.YtpadegboplcapaaLoopsA
import Derived.Test.YtpadegboplcapaaQ1
import Derived.Test.YtpadegboplcapaaQ3
import Derived.Test.YtpadegboplcapaaQ6
namespace Go.Proofs.Ytpadegboplcapaa.B
open Go.RowKit Go.Proofs.Ytpadegboplcapaa.Q Go.Proofs.YtpadegboplcapaaW.PrintWords Go.Proofs.YtpadegboplcapaaW.PrintLast Go.Proofs.YtpadegboplcapaaW.PrintMore
set_option linter.unusedVariables false

theorem up1 (i : Nat) (h : i < 1000000000) : wrap64 ((i : Int) + 1) = ((i + 1 : Nat) : Int) := by rw [w64 (by omega) (by omega)]; omega
theorem up2 (a b : Nat) (h : a + b < 1000000000) : wrap64 ((a : Int) + (b : Int)) = ((a + b : Nat) : Int) := by rw [w64 (by omega) (by omega)]; omega
theorem specCopy (l : List Int) (h : l.length < 17592186044416) : spec_copyInts.f l = some l := by
  unfold spec_copyInts.f
  simp only [Option.bind_some, List.length_nil, List.nil_append]
  rw [if_pos (by omega)]
theorem validShape_eq (a b c : Int) : spec_validShape.f a b c = some ((decide (1 ≤ a) && decide (a ≤ 16)) && ((decide (1 ≤ b) && decide (b ≤ 16)) && (decide (1 ≤ c) && decide (c ≤ 4)))) := by
  unfold spec_validShape.f
  rw [inRange_eq, inRange_eq, inRange_eq]
  simp only [Option.bind_some]
  cases (decide (1 ≤ a) && decide (a ≤ 16)) <;> cases (decide (1 ≤ b) && decide (b ≤ 16)) <;> simp
theorem validImage_ev (w h p : Int) (D : List Int) (hn : D.length ≤ 2000000) : Ev (fun k => spec_validImage.f k w h p D) (okImg w h p D) := by
  unfold spec_validImage.f okImg
  rw [validShape_eq]
  simp only [Option.bind_some]
  by_cases h1 : ((decide (1 ≤ w) && decide (w ≤ 16)) && ((decide (1 ≤ h) && decide (h ≤ 16)) && (decide (1 ≤ p) && decide (p ≤ 4)))) = true
  · have h2 := h1
    simp only [Bool.and_eq_true, decide_eq_true_eq] at h2
    obtain ⟨⟨a1, a2⟩, ⟨a3, a4⟩, a5, a6⟩ := h2
    have e0 : 0 ≤ w * h := Int.mul_nonneg (by omega) (by omega)
    have e1 : w * h ≤ 16 * 16 := Int.mul_le_mul a2 a4 (by omega) (by omega)
    have e2 : 0 ≤ w * h * p := Int.mul_nonneg e0 (by omega)
    have e3 : w * h * p ≤ 256 * 4 := Int.mul_le_mul (by omega) a6 (by omega) (by omega)
    refine ev_pos h1 ?_
    rw [w64 (x := w * h) (by omega) (by omega), w64 (x := w * h * p) (by omega) (by omega), decide_eq_true a1, decide_eq_true a2, decide_eq_true a3, decide_eq_true a4, decide_eq_true a5, decide_eq_true a6]
    by_cases c : (D.length : Int) = w * h * p
    · rw [decide_eq_true c]
      refine ev_pos c ?_
      rw [ev_bind_iff (allIn_ev D 0 255 hn)]
      exact ev_now (by simp)
    · rw [decide_eq_false c]
      exact ev_neg c (ev_now (by simp))
  · refine ev_neg h1 (ev_now ?_)
    rw [eq_comm, Bool.eq_false_iff]
    intro h2
    apply h1
    simp only [Bool.and_eq_true, decide_eq_true_eq] at h2 ⊢
    exact ⟨h2.1, h2.2.1, h2.2.2.1⟩

/-! ### Images in natural numbers -/
def NImg (W H p : Nat) (D : List Int) : Prop := (1 ≤ W ∧ W ≤ 16) ∧ (1 ≤ H ∧ H ≤ 16) ∧ (1 ≤ p ∧ p ≤ 4) ∧ D.length = H * W * p
theorem ImgI.toN {w h p : Int} {D : List Int} (o : ImgI w h p D) : ∃ W H P : Nat, w = W ∧ h = H ∧ p = P ∧ NImg W H P D := by
  have hl := o.nat
  obtain ⟨a1, a2, a3, a4, a5, a6, e⟩ := o
  refine ⟨w.toNat, h.toNat, p.toNat, by omega, by omega, by omega, by omega, by omega, by omega, hl⟩
theorem NImg.toI {W H p : Nat} {D : List Int} (o : NImg W H p D) : ImgI (W : Int) (H : Int) (p : Int) D := by
  obtain ⟨a1, a2, a3, e⟩ := o
  refine ⟨by omega, by omega, by omega, by omega, by omega, by omega, ?_⟩
  rw [e, Nat.mul_comm H W]
  simp
theorem NImg.bound {W H p : Nat} {D : List Int} (o : NImg W H p D) : D.length ≤ 1024 := by
  obtain ⟨a1, a2, a3, e⟩ := o
  have h3 : H * W ≤ 16 * 16 := Nat.mul_le_mul (by omega) (by omega)
  have h4 : H * W * p ≤ 256 * 4 := Nat.mul_le_mul h3 (by omega)
  omega
/-- Where a pixel begins. -/
theorem idxN {W H p x y : Nat} {D : List Int} (o : NImg W H p D) (hx : x < W) (hy : y < H) : wrap64 (wrap64 (wrap64 ((y : Int) * (W : Int)) + (x : Int)) * (p : Int)) = (((y * W + x) * p : Nat) : Int) ∧ (y * W + x) * p + p ≤ D.length := by
  have hb := o.bound
  obtain ⟨i1, i2, i3, i4, i5, i6, i7⟩ := o.toI.idx (x := (x : Int)) (y := (y : Int)) ⟨by omega, by omega⟩ ⟨by omega, by omega⟩
  simp only [Int.toNat_natCast] at i7
  rw [i1, i2, i3]
  omega
/-- A table of bytes is a valid image. -/
theorem tab_img {W H p : Nat} (f : Nat → Nat → List Int) (hW : 1 ≤ W ∧ W ≤ 16) (hH : 1 ≤ H ∧ H ≤ 16) (hp : 1 ≤ p ∧ p ≤ 4) (hl : ∀ x y, x < W → y < H → (f x y).length = p) : NImg W H p (tab W H f) := ⟨hW, hH, hp, (tab_eq W H p f hl).1⟩
theorem tab_ok {W H p : Nat} (f : Nat → Nat → List Int) (hW : 1 ≤ W ∧ W ≤ 16) (hH : 1 ≤ H ∧ H ≤ 16) (hp : 1 ≤ p ∧ p ≤ 4) (hl : ∀ x y, x < W → y < H → (f x y).length = p) (hb : ∀ x y, x < W → y < H → ∀ z ∈ f x y, 0 ≤ z ∧ z ≤ 255) : okImg (W : Int) (H : Int) (p : Int) (tab W H f) = true :=
  img_okImg (tab_img f hW hH hp hl).toI (tab_mem W H f (fun z => 0 ≤ z ∧ z ≤ 255) hb)
theorem pix_bytes {D : List Int} (hb : ∀ z ∈ D, 0 ≤ z ∧ z ≤ 255) (W p x y : Nat) : ∀ z ∈ pix D W p x y, 0 ≤ z ∧ z ≤ 255 := fun z hz => hb z (chunk_mem D p _ z hz)
theorem specPixelAt_eq {W H p x y : Nat} {D : List Int} (o : NImg W H p D) (hx : x < W) (hy : y < H) : spec_pixelAt.f (W : Int) (H : Int) (p : Int) D (x : Int) (y : Int) = some (pix D W p x y) := by
  have hb := o.bound
  obtain ⟨e1, e2⟩ := idxN o hx hy
  have E1 := Aside0.mk e1
  clear e1
  have E3 : Aside0 (wrap64 ((((y * W + x) * p : Nat) : Int) + (p : Int)) = (((y * W + x) * p + p : Nat) : Int)) := ⟨by rw [w64 (by omega) (by omega)]; omega⟩
  unfold spec_pixelAt.f
  rw [E1.out, E3.out, if_pos (by omega), if_pos (by omega), if_pos (by omega), Int.toNat_natCast, Int.toNat_natCast, pix_mid D W p x y _ rfl]
  have hl : (pix D W p x y).length ≤ 4 := by
    rw [pix_length D W H p x y o.2.2.2 hx hy]
    exact o.2.2.1.2
  rw [specCopy _ (by omega)]
  rfl
theorem put_step (D v : List Int) (b i : Nat) (hi : i < v.length) (hb : b + v.length ≤ D.length) : (D.take b ++ v.take i ++ D.drop (b + i)).set (b + i) (rd v (i : Int)) = D.take b ++ v.take (i + 1) ++ D.drop (b + (i + 1)) := by
  have l1 : (D.take b ++ v.take i).length = b + i := by rw [List.length_append, List.length_take, List.length_take]; omega
  rw [List.set_append_right _ _ (by omega), l1, Nat.sub_self, List.drop_eq_getElem_cons (show b + i < D.length by omega), List.set_cons_zero, rd_get v i hi, List.take_succ_eq_append_getElem hi, ← List.append_assoc, List.append_assoc (D.take b ++ v.take i) [v[i]] _]
  rfl
theorem specSetPixel_ev {W H p x y : Nat} {D v : List Int} (o : NImg W H p D) (hx : x < W) (hy : y < H) (hv : v.length = p) : Ev (fun k => spec_setPixel.f k (W : Int) (H : Int) (p : Int) D (x : Int) (y : Int) v) (setPix D W p x y v) := by
  have hb := o.bound
  obtain ⟨e1, e2⟩ := idxN o hx hy
  have E1 := Aside0.mk e1
  clear e1
  have hp := o.2.2.1
  unfold spec_setPixel.f
  have := ev_for (fun k (s : List Int) i => spec_setPixel.l0 k (x : Int) (y : Int) v (i : Int) (W : Int) (H : Int) (p : Int) s) p (fun i => D.take ((y * W + x) * p) ++ v.take i ++ D.drop ((y * W + x) * p + i)) (fun i hi r h => ?_) (setPix D W p x y v) ?_
  · simpa using this
  · have E3 : Aside0 (wrap64 ((((y * W + x) * p : Nat) : Int) + (i : Int)) = (((y * W + x) * p + i : Nat) : Int)) := ⟨by rw [w64 (by omega) (by omega)]; omega⟩
    have hi' : i < 1000000000 := by omega
    have l1 : (D.take ((y * W + x) * p) ++ v.take i ++ D.drop ((y * W + x) * p + i)).length = D.length := by
      rw [List.length_append, List.length_append, List.length_take, List.length_take, List.length_drop]
      omega
    refine Ev.step (fun k => ?_) h
    simp only [spec_setPixel.l0, E1.out, E3.out, up1 i hi', Int.toNat_natCast]
    rw [if_pos (show (i : Int) < (p : Int) by omega), if_pos (Int.natCast_nonneg i), if_pos (show (i : Int) < (v.length : Int) by omega), if_pos (Int.natCast_nonneg _), if_pos (by rw [l1]; omega), put_step D v _ i (by omega) (by omega)]
  · refine Ev.step (f := fun _ => some (setPix D W p x y v)) (fun k => ?_) (Ev.now _)
    simp only [spec_setPixel.l0]
    rw [if_neg (by omega), show v.take p = v from List.take_of_length_le (by omega)]
    unfold setPix setChunk
    rw [Nat.add_mul (y * W + x) 1 p, Nat.one_mul]
theorem NImg.set {W H p x y : Nat} {D v : List Int} (o : NImg W H p D) (hx : x < W) (hy : y < H) (hv : v.length = p) : NImg W H p (setPix D W p x y v) := ⟨o.1, o.2.1, o.2.2.1, setPix_length D v W H p x y o.2.2.2 hx hy hv⟩
theorem specNew_eq (W H p : Nat) (hW : W ≤ 16) (hH : H ≤ 16) (hp : p ≤ 4) : spec_newImage.f (W : Int) (H : Int) (p : Int) = some ((W : Int), (H : Int), (p : Int), List.replicate (H * W * p) 0) := by
  have h3 : H * W ≤ 16 * 16 := Nat.mul_le_mul hH hW
  have h4 : H * W * p ≤ 256 * 4 := Nat.mul_le_mul h3 hp
  have e1 : ((W : Int) * (H : Int)) = ((H * W : Nat) : Int) := by rw [Nat.mul_comm]; simp
  have E2 : Aside0 (wrap64 ((W : Int) * (H : Int)) = ((H * W : Nat) : Int)) := ⟨by rw [e1]; exact w64 (by omega) (by omega)⟩
  have E3 : Aside0 (wrap64 (((H * W : Nat) : Int) * (p : Int)) = ((H * W * p : Nat) : Int)) := ⟨by
    rw [show ((H * W : Nat) : Int) * (p : Int) = ((H * W * p : Nat) : Int) by simp]
    exact w64 (by omega) (by omega)⟩
  unfold spec_newImage.f
  rw [E2.out, E3.out, if_pos (by omega), Int.toNat_natCast, if_pos (by omega)]

end Go.Proofs.Ytpadegboplcapaa.B
