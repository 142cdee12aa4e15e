/- What the turn of an image answers, in the program and in the reference. No conditions. -/
import Derived.Test.YtibbkaoghbmncaaSpecI2
import Derived.Test.YtibbkaoghbmncaaQ10
import Derived.Test.YtibbkaoghbmncaaQ4
namespace Go.Proofs.Ytibbkaoghbmncaa.B
open Go.RowKit Go.Proofs.Ytibbkaoghbmncaa.Q Go.Proofs.YtibbkaoghbmncaaW.PrintWords Go.Proofs.YtibbkaoghbmncaaW.PrintLast Go.Proofs.YtibbkaoghbmncaaW.PrintMore
set_option linter.unusedVariables false

theorem specTurnN_ev {W H p : Nat} {D : List Int} (o : NImg W H p D) : Ev (fun k => spec_turn.f k (W : Int) (H : Int) (p : Int) D) ((H : Int), (W : Int), (p : Int), tab H W (turnPx W H p D)) := by
  obtain ⟨o1, o2, o3, o4⟩ := o
  have ht : ∀ x y, x < W → y < H → (H - 1 - y) < H ∧ (x) < W := fun x y hx hy => ⟨by omega, by omega⟩
  have h0 : (List.replicate (W * H * p) (0 : Int)).length = W * H * p := by simp
  have hst : ∀ i j, i ≤ W → j < H → NImg H W p (putAll H p (gridPuts (fun x y => [⟨H - 1 - y, x, pix D W p x y⟩]) W i j) (List.replicate (W * H * p) (0 : Int))) := fun i j hi hj =>
    ⟨o2, o1, o3, moved_len W H H W p D _ (fun x y => H - 1 - y) (fun x y => x) o4 h0 ht _ (fun a ha => mem_grid hi hj ha)⟩
  have hend : putAll H p (gridPuts (fun x y => [⟨H - 1 - y, x, pix D W p x y⟩]) W 0 H) (List.replicate (W * H * p) (0 : Int)) = tab H W (turnPx W H p D) := by
    rw [grid_end]
    refine moved W H H W p D _ (fun x y => H - 1 - y) (fun x y => x) _ o4 h0 (fun x y hx hy => ⟨(ht x y hx hy).1, (ht x y hx hy).2, ?_⟩) (fun X Y hX hY => ?_)
    · show turnPx W H p D (H - 1 - y) x = _
      unfold turnPx
      rw [show H - 1 - (H - 1 - y) = y by omega]
    · exact ⟨Y, H - 1 - X, hY, by omega, by show X = H - 1 - (H - 1 - X); omega, rfl⟩
  unfold spec_turn.f
  rw [specNew_eq H W p o2.2 o1.2 o3.2]
  simp only [Option.bind_some]
  refine ev_grid (fun k s j => spec_turn.l0 k (j : Int) (W : Int) (H : Int) (p : Int) D (H : Int) (W : Int) (p : Int) s) (fun k s j i => spec_turn.l1 k (j : Int) (i : Int) (W : Int) (H : Int) (p : Int) D (H : Int) (W : Int) (p : Int) s) W H (fun i j => putAll H p (gridPuts (fun x y => [⟨H - 1 - y, x, pix D W p x y⟩]) W i j) (List.replicate (W * H * p) (0 : Int))) (fun j hj r h => ?_) (fun i j hi hj r h => ?_) (fun j hj r h => ?_) _ ?_
  · refine Ev.step (fun k => ?_) h
    simp only [spec_turn.l0]
    rw [if_pos (by omega)]
    rfl
  · have x := i
    have hpx := specPixelAt_eq (D := D) (W := W) (H := H) (p := p) ⟨o1, o2, o3, o4⟩ hi hj
    have hset := specSetPixel_ev (v := pix D W p i j) (hst i j (by omega) hj) (ht i j hi hj).1 (ht i j hi hj).2 (pix_length D W H p i j o4 hi hj)
    rw [grid_succ, putAll_append] at h
    generalize putAll H p (gridPuts (fun x y => [⟨H - 1 - y, x, pix D W p x y⟩]) W i j) (List.replicate (W * H * p) (0 : Int)) = S at h hset ⊢
    have hlt : (i : Int) < (W : Int) := by omega
    have hi' : i < 1000000000 := by omega
    have E1 : Aside0 (wrap64 ((wrap64 ((H : Int) - 1)) - (j : Int)) = ((H - 1 - j : Nat) : Int)) := ⟨by rw [w64 (x := (H : Int) - 1) (by omega) (by omega), w64 (by omega) (by omega)]; omega⟩
    refine Ev.step (f := fun k => (spec_setPixel.f k (H : Int) (W : Int) (p : Int) S ((H - 1 - j : Nat) : Int) (i : Int) (pix D W p i j)).bind fun t => spec_turn.l1 k (j : Int) (wrap64 ((i : Int) + 1)) (W : Int) (H : Int) (p : Int) D (H : Int) (W : Int) (p : Int) t) (fun k => ?_) ?_
    · simp only [spec_turn.l1, hpx, E1.out, Option.bind_some]
      rw [if_pos hlt]
      try rfl
    · rw [ev_bind_iff hset, up1 i hi']
      exact h
  · rw [← grid_next] at h
    refine Ev.step (fun k => ?_) h
    simp only [spec_turn.l1, up1 j (show j < 1000000000 by omega)]
    rw [if_neg (by omega)]
  · refine Ev.step (f := fun _ => some ((H : Int), (W : Int), (p : Int), tab H W (turnPx W H p D))) (fun k => ?_) (Ev.now _)
    simp only [spec_turn.l0, hend]
    rw [if_neg (by omega)]
theorem turn1_nat (W H p : Nat) (D : List Int) : turn1 (p : Int) ((W : Int), (H : Int), D) = ((H : Int), (W : Int), tab H W (turnPx W H p D)) := by
  unfold turn1
  simp only [Int.toNat_natCast]
def turnP (w h p : Int) (D : List Int) (n : Int) : Int × Int × Int × List Int := if okImg w h p D = true ∧ (0 ≤ n ∧ n ≤ 3) then ((turnN p n.toNat (w, h, D)).1, (turnN p n.toNat (w, h, D)).2.1, p, (turnN p n.toNat (w, h, D)).2.2) else (0, 0, 0, [])
theorem implTurn_eq (w h p : Int) (D : List Int) (n : Int) : impl_TurnImage.f w h p D n = some (turnP w h p D n) := by
  unfold impl_TurnImage.f turnP
  split <;> rfl
theorem turnP_length (w h p : Int) (D : List Int) (n : Int) : (turnP w h p D n).2.2.2.length ≤ 2000000 := by
  unfold turnP
  by_cases hv : okImg w h p D = true ∧ (0 ≤ n ∧ n ≤ 3)
  · rw [if_pos hv]
    obtain ⟨W, H, P, e1, e2, e3, o⟩ := (turnN_img p (w, h, D) (okImg_img hv.1).1 n.toNat).toN
    have := o.bound
    simp only
    omega
  · rw [if_neg hv]
    simp
theorem specTurn_ev (w h p : Int) (D : List Int) (n : Int) (hn : D.length ≤ 2000000) : Ev (fun k => spec_TurnImage.f k w h p D n) (turnP w h p D n) := by
  have hj : Ev (fun k => spec_TurnImage.j0 k n true w h p D) (0, 0, 0, []) := Ev.step (f := fun _ => some (0, 0, 0, [])) (fun k => by simp only [spec_TurnImage.j0, if_true]) (Ev.now _)
  unfold spec_TurnImage.f turnP
  rw [ev_bind_iff (validImage_ev w h p D hn)]
  by_cases hv : okImg w h p D = true
  · refine ev_pos hv ?_
    rw [inRange_eq]
    simp only [Option.bind_some]
    by_cases c : 0 ≤ n ∧ n ≤ 3
    · rw [if_pos ⟨hv, c⟩, show (decide (0 ≤ n) && decide (n ≤ 3)) = true by simp; omega]
      have oi := (okImg_img hv).1
      refine Ev.step (f := fun k => spec_TurnImage.l0 k n ((0 : Nat) : Int) w h p D) (fun k => ?_) ?_
      · simp only [spec_TurnImage.j0, specCopyImage_eq w h p D hn, Option.bind_some, Bool.not_true, Bool.false_eq_true, if_false]
        rfl
      · refine ev_for (fun k (s : Int × Int × List Int) i => spec_TurnImage.l0 k n (i : Int) s.1 s.2.1 p s.2.2) n.toNat (fun i => turnN p i (w, h, D)) (fun i hi r g => ?_) _ ?_
        · obtain ⟨W, H, P, e1, e2, e3, o⟩ := (turnN_img p (w, h, D) oi i).toN
          subst e3
          have hs : turnN (P : Int) (i + 1) (w, h, D) = turn1 (P : Int) (turnN (P : Int) i (w, h, D)) := rfl
          rw [hs] at g
          generalize turnN (P : Int) i (w, h, D) = s at g e1 e2 o ⊢
          obtain ⟨tw, th, E⟩ := s
          simp only at e1 e2 o
          subst e1
          subst e2
          rw [turn1_nat] at g
          have hN := specTurnN_ev o
          have hlt : (i : Int) < n := by omega
          have hi' : i < 1000000000 := by omega
          refine Ev.step (f := fun k => (spec_turn.f k (W : Int) (H : Int) (P : Int) E).bind fun bt => spec_TurnImage.l0 k n ((i + 1 : Nat) : Int) bt.1 bt.2.1 bt.2.2.1 bt.2.2.2) (fun k => ?_) ?_
          · simp only [spec_TurnImage.l0, up1 i hi']
            rw [if_pos hlt]
          · rw [ev_bind_iff hN]
            exact g
        · refine Ev.step (f := fun _ => some ((turnN p n.toNat (w, h, D)).1, (turnN p n.toNat (w, h, D)).2.1, p, (turnN p n.toNat (w, h, D)).2.2)) (fun k => ?_) (Ev.now _)
          simp only [spec_TurnImage.l0]
          rw [if_neg (by omega)]
    · rw [if_neg (fun g => c g.2), show (decide (0 ≤ n) && decide (n ≤ 3)) = false by rw [Bool.eq_false_iff]; simp; omega]
      exact hj
  · rw [if_neg (fun g => hv g.1)]
    exact ev_neg hv hj

end Go.Proofs.Ytibbkaoghbmncaa.B
