/- What the mirror of an image answers, in the program and in the reference. No conditions. -/
import Derived.Test.YtibbkaoghbmncaaSpecI2
import Derived.Test.YtibbkaoghbmncaaQ11
import Derived.Test.YtibbkaoghbmncaaQ3
namespace Go.Proofs.Ytibbkaoghbmncaa.B
open Go.RowKit Go.Proofs.Ytibbkaoghbmncaa.Q Go.Proofs.YtibbkaoghbmncaaW.PrintWords Go.Proofs.YtibbkaoghbmncaaW.PrintLast Go.Proofs.YtibbkaoghbmncaaW.PrintMore
set_option linter.unusedVariables false

theorem specMirrorN_ev {W H p : Nat} {D : List Int} (o : NImg W H p D) : Ev (fun k => spec_mirror.f k (W : Int) (H : Int) (p : Int) D) ((W : Int), (H : Int), (p : Int), tab W H (mirrorPx W p D)) := by
  obtain ⟨o1, o2, o3, o4⟩ := o
  have ht : ∀ x y, x < W → y < H → (W - 1 - x) < W ∧ (y) < H := fun x y hx hy => ⟨by omega, by omega⟩
  have h0 : (D).length = H * W * p := by exact o4
  have hst : ∀ i j, i ≤ W → j < H → NImg W H p (putAll W p (gridPuts (fun x y => [⟨W - 1 - x, y, pix D W p x y⟩]) W i j) (D)) := fun i j hi hj =>
    ⟨o1, o2, o3, moved_len W H W H p D _ (fun x y => W - 1 - x) (fun x y => y) o4 h0 ht _ (fun a ha => mem_grid hi hj ha)⟩
  have hend : putAll W p (gridPuts (fun x y => [⟨W - 1 - x, y, pix D W p x y⟩]) W 0 H) (D) = tab W H (mirrorPx W p D) := by
    rw [grid_end]
    refine moved W H W H p D _ (fun x y => W - 1 - x) (fun x y => y) _ o4 h0 (fun x y hx hy => ⟨(ht x y hx hy).1, (ht x y hx hy).2, ?_⟩) (fun X Y hX hY => ?_)
    · show mirrorPx W p D (W - 1 - x) y = _
      unfold mirrorPx
      rw [show W - 1 - (W - 1 - x) = x by omega]
    · exact ⟨W - 1 - X, Y, by omega, hY, by show X = W - 1 - (W - 1 - X); omega, rfl⟩
  unfold spec_mirror.f
  rw [specCopyImage_eq (W : Int) (H : Int) (p : Int) D (by have := NImg.bound ⟨o1, o2, o3, o4⟩; omega)]
  simp only [Option.bind_some]
  refine ev_grid (fun k s j => spec_mirror.l0 k (j : Int) (W : Int) (H : Int) (p : Int) D (W : Int) (H : Int) (p : Int) s) (fun k s j i => spec_mirror.l1 k (j : Int) (i : Int) (W : Int) (H : Int) (p : Int) D (W : Int) (H : Int) (p : Int) s) W H (fun i j => putAll W p (gridPuts (fun x y => [⟨W - 1 - x, y, pix D W p x y⟩]) W i j) (D)) (fun j hj r h => ?_) (fun i j hi hj r h => ?_) (fun j hj r h => ?_) _ ?_
  · refine Ev.step (fun k => ?_) h
    simp only [spec_mirror.l0]
    rw [if_pos (by omega)]
    rfl
  · have x := i
    have hpx := specPixelAt_eq (D := D) (W := W) (H := H) (p := p) ⟨o1, o2, o3, o4⟩ hi hj
    have hset := specSetPixel_ev (v := pix D W p i j) (hst i j (by omega) hj) (ht i j hi hj).1 (ht i j hi hj).2 (pix_length D W H p i j o4 hi hj)
    rw [grid_succ, putAll_append] at h
    generalize putAll W p (gridPuts (fun x y => [⟨W - 1 - x, y, pix D W p x y⟩]) W i j) (D) = S at h hset ⊢
    have hlt : (i : Int) < (W : Int) := by omega
    have hi' : i < 1000000000 := by omega
    have E1 : Aside0 (wrap64 ((wrap64 ((W : Int) - 1)) - (i : Int)) = ((W - 1 - i : Nat) : Int)) := ⟨by rw [w64 (x := (W : Int) - 1) (by omega) (by omega), w64 (by omega) (by omega)]; omega⟩
    refine Ev.step (f := fun k => (spec_setPixel.f k (W : Int) (H : Int) (p : Int) S ((W - 1 - i : Nat) : Int) (j : Int) (pix D W p i j)).bind fun t => spec_mirror.l1 k (j : Int) (wrap64 ((i : Int) + 1)) (W : Int) (H : Int) (p : Int) D (W : Int) (H : Int) (p : Int) t) (fun k => ?_) ?_
    · simp only [spec_mirror.l1, hpx, E1.out, Option.bind_some]
      rw [if_pos hlt]
      try rfl
    · rw [ev_bind_iff hset, up1 i hi']
      exact h
  · rw [← grid_next] at h
    refine Ev.step (fun k => ?_) h
    simp only [spec_mirror.l1, up1 j (show j < 1000000000 by omega)]
    rw [if_neg (by omega)]
  · refine Ev.step (f := fun _ => some ((W : Int), (H : Int), (p : Int), tab W H (mirrorPx W p D))) (fun k => ?_) (Ev.now _)
    simp only [spec_mirror.l0, hend]
    rw [if_neg (by omega)]
def mirrorP (w h p : Int) (D : List Int) : Int × Int × Int × List Int := if okImg w h p D = true then (w, h, p, tab w.toNat h.toNat (mirrorPx w.toNat p.toNat D)) else (0, 0, 0, [])
theorem implMirror_eq (w h p : Int) (D : List Int) : impl_MirrorImage.f w h p D = some (mirrorP w h p D) := by
  unfold impl_MirrorImage.f mirrorP
  split <;> rfl
theorem mirrorP_length (w h p : Int) (D : List Int) : (mirrorP w h p D).2.2.2.length ≤ 2000000 := by
  unfold mirrorP
  by_cases hv : okImg w h p D = true
  · rw [if_pos hv]
    obtain ⟨W, H, P, rfl, rfl, rfl, o⟩ := (okImg_img hv).1.toN
    simp only [Int.toNat_natCast]
    have := (tab_img (mirrorPx W P D) o.1 o.2.1 o.2.2.1 (fun x y hx hy => pix_length D W H P _ _ o.2.2.2 (by omega) hy)).bound
    omega
  · rw [if_neg hv]
    simp
theorem specMirror_ev (w h p : Int) (D : List Int) (hn : D.length ≤ 2000000) : Ev (fun k => spec_MirrorImage.f k w h p D) (mirrorP w h p D) := by
  unfold spec_MirrorImage.f mirrorP
  rw [ev_bind_iff (validImage_ev w h p D hn)]
  by_cases hv : okImg w h p D = true
  · obtain ⟨W, H, P, rfl, rfl, rfl, o⟩ := (okImg_img hv).1.toN
    rw [if_pos hv]
    refine ev_pos hv ?_
    rw [ev_bind_iff (specMirrorN_ev o)]
    simp only [Int.toNat_natCast]
    exact Ev.now _
  · rw [if_neg hv]
    exact ev_neg hv (Ev.now _)

end Go.Proofs.Ytibbkaoghbmncaa.B
