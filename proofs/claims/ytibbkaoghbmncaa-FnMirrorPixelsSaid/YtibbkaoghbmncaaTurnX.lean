/- What the transposing of an image answers, in the program and in the reference. No conditions. -/
import Derived.Test.YtibbkaoghbmncaaSpecI
import Derived.Test.YtibbkaoghbmncaaQ12
import Derived.Test.YtibbkaoghbmncaaQ9
namespace Go.Proofs.Ytibbkaoghbmncaa.B
open Go.RowKit Go.Proofs.Ytibbkaoghbmncaa.Q Go.Proofs.YtibbkaoghbmncaaW.PrintWords Go.Proofs.YtibbkaoghbmncaaW.PrintLast Go.Proofs.YtibbkaoghbmncaaW.PrintMore
set_option linter.unusedVariables false

theorem specTransposeN_ev {W H p : Nat} {D : List Int} (o : NImg W H p D) : Ev (fun k => spec_TransposeImage.l0 k 0 (W : Int) (H : Int) (p : Int) D (H : Int) (W : Int) (p : Int) (List.replicate (W * H * p) (0 : Int))) ((H : Int), (W : Int), (p : Int), tab H W (transposePx W p D)) := by
  obtain ⟨o1, o2, o3, o4⟩ := o
  have ht : ∀ x y, x < W → y < H → (y) < H ∧ (x) < W := fun x y hx hy => ⟨by omega, by omega⟩
  have h0 : (List.replicate (W * H * p) (0 : Int)).length = W * H * p := by simp
  have hst : ∀ i j, i ≤ W → j < H → NImg H W p (putAll H p (gridPuts (fun x y => [⟨y, x, pix D W p x y⟩]) W i j) (List.replicate (W * H * p) (0 : Int))) := fun i j hi hj =>
    ⟨o2, o1, o3, moved_len W H H W p D _ (fun x y => y) (fun x y => x) o4 h0 ht _ (fun a ha => mem_grid hi hj ha)⟩
  have hend : putAll H p (gridPuts (fun x y => [⟨y, x, pix D W p x y⟩]) W 0 H) (List.replicate (W * H * p) (0 : Int)) = tab H W (transposePx W p D) := by
    rw [grid_end]
    refine moved W H H W p D _ (fun x y => y) (fun x y => x) _ o4 h0 (fun x y hx hy => ⟨(ht x y hx hy).1, (ht x y hx hy).2, ?_⟩) (fun X Y hX hY => ?_)
    · rfl
    · exact ⟨Y, X, hY, hX, rfl, rfl⟩
  refine ev_grid (fun k s j => spec_TransposeImage.l0 k (j : Int) (W : Int) (H : Int) (p : Int) D (H : Int) (W : Int) (p : Int) s) (fun k s j i => spec_TransposeImage.l1 k (j : Int) (i : Int) (W : Int) (H : Int) (p : Int) D (H : Int) (W : Int) (p : Int) s) W H (fun i j => putAll H p (gridPuts (fun x y => [⟨y, x, pix D W p x y⟩]) W i j) (List.replicate (W * H * p) (0 : Int))) (fun j hj r h => ?_) (fun i j hi hj r h => ?_) (fun j hj r h => ?_) _ ?_
  · refine Ev.step (fun k => ?_) h
    simp only [spec_TransposeImage.l0]
    rw [if_pos (by omega)]
    rfl
  · have x := i
    have hpx := specPixelAt_eq (D := D) (W := W) (H := H) (p := p) ⟨o1, o2, o3, o4⟩ hi hj
    have hset := specSetPixel_ev (v := pix D W p i j) (hst i j (by omega) hj) (ht i j hi hj).1 (ht i j hi hj).2 (pix_length D W H p i j o4 hi hj)
    rw [grid_succ, putAll_append] at h
    generalize putAll H p (gridPuts (fun x y => [⟨y, x, pix D W p x y⟩]) W i j) (List.replicate (W * H * p) (0 : Int)) = S at h hset ⊢
    have hlt : (i : Int) < (W : Int) := by omega
    have hi' : i < 1000000000 := by omega

    refine Ev.step (f := fun k => (spec_setPixel.f k (H : Int) (W : Int) (p : Int) S (j : Int) (i : Int) (pix D W p i j)).bind fun t => spec_TransposeImage.l1 k (j : Int) (wrap64 ((i : Int) + 1)) (W : Int) (H : Int) (p : Int) D (H : Int) (W : Int) (p : Int) t) (fun k => ?_) ?_
    · simp only [spec_TransposeImage.l1, hpx, Option.bind_some]
      rw [if_pos hlt]
      try rfl
    · rw [ev_bind_iff hset, up1 i hi']
      exact h
  · rw [← grid_next] at h
    refine Ev.step (fun k => ?_) h
    simp only [spec_TransposeImage.l1, up1 j (show j < 1000000000 by omega)]
    rw [if_neg (by omega)]
  · refine Ev.step (f := fun _ => some ((H : Int), (W : Int), (p : Int), tab H W (transposePx W p D))) (fun k => ?_) (Ev.now _)
    simp only [spec_TransposeImage.l0, hend]
    rw [if_neg (by omega)]
def transposeP (w h p : Int) (D : List Int) : Int × Int × Int × List Int := if okImg w h p D = true then (h, w, p, tab h.toNat w.toNat (transposePx w.toNat p.toNat D)) else (0, 0, 0, [])
theorem transposeP_length (w h p : Int) (D : List Int) : (transposeP w h p D).2.2.2.length ≤ 2000000 := by
  unfold transposeP
  by_cases hv : okImg w h p D = true
  · rw [if_pos hv]
    obtain ⟨W, H, P, rfl, rfl, rfl, o⟩ := (okImg_img hv).1.toN
    simp only [Int.toNat_natCast]
    have := (tab_img (transposePx W P D) o.2.1 o.1 o.2.2.1 (fun x y hx hy => pix_length D W H P _ _ o.2.2.2 hy hx)).bound
    omega
  · rw [if_neg hv]
    simp
theorem specTranspose_ev (w h p : Int) (D : List Int) (hn : D.length ≤ 2000000) : Ev (fun k => spec_TransposeImage.f k w h p D) (transposeP w h p D) := by
  unfold spec_TransposeImage.f transposeP
  rw [ev_bind_iff (validImage_ev w h p D hn)]
  by_cases hv : okImg w h p D = true
  · obtain ⟨W, H, P, rfl, rfl, rfl, o⟩ := (okImg_img hv).1.toN
    rw [if_pos hv]
    refine ev_pos hv ?_
    rw [specNew_eq H W P o.2.1.2 o.1.2 o.2.2.1.2]
    simp only [Option.bind_some, Int.toNat_natCast]
    exact specTransposeN_ev o
  · rw [if_neg hv]
    exact ev_neg hv (Ev.now _)
theorem implTranspose_eq (w h p : Int) (D : List Int) : impl_TransposeImage.f w h p D = some (transposeP w h p D) := by
  unfold impl_TransposeImage.f transposeP
  split <;> rfl

end Go.Proofs.Ytibbkaoghbmncaa.B
