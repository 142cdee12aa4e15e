/- What PasteImage answers, in the reference. No conditions. -/
import Derived.Test.YtmljcnhecjlinaaSpecI2
import Derived.Test.YtmljcnhecjlinaaPaste
import Derived.Test.YtmljcnhecjlinaaQ11
namespace Go.Proofs.Ytmljcnhecjlinaa.B
open Go.RowKit Go.Proofs.Ytmljcnhecjlinaa.Q Go.Proofs.YtmljcnhecjlinaaW.PrintWords Go.Proofs.YtmljcnhecjlinaaW.PrintLast Go.Proofs.YtmljcnhecjlinaaW.PrintMore
set_option linter.unusedVariables false

def pastePuts (W H PW p : Nat) (E : List Int) (x y : Int) (i j : Nat) : List Put :=
  if 0 ≤ x + (i : Int) ∧ x + (i : Int) < W ∧ 0 ≤ y + (j : Int) ∧ y + (j : Int) < H then [⟨(x + (i : Int)).toNat, (y + (j : Int)).toNat, pix E PW p i j⟩] else []
theorem specPasteN_ev {W H p PW PH : Nat} {D E : List Int} (o : NImg W H p D) (q : NImg PW PH p E) (x y : Int) (hx : -16 ≤ x ∧ x ≤ 16) (hy : -16 ≤ y ∧ y ≤ 16) :
    Ev (fun k => spec_paste.f k (W : Int) (H : Int) (p : Int) D x y (PW : Int) (PH : Int) (p : Int) E) (tab W H (pastePx (W : Int) (p : Int) D (PW : Int) (PH : Int) E x y)) := by
  obtain ⟨o1, o2, o3, o4⟩ := o
  obtain ⟨q1, q2, q3, q4⟩ := q
  have hmem : ∀ i j a, a ∈ pastePuts W H PW p E x y i j → (0 ≤ x + (i : Int) ∧ x + (i : Int) < W ∧ 0 ≤ y + (j : Int) ∧ y + (j : Int) < H) ∧ a = ⟨(x + (i : Int)).toNat, (y + (j : Int)).toNat, pix E PW p i j⟩ := by
    intro i j a ha
    unfold pastePuts at ha
    split at ha
    · rename_i c
      exact ⟨c, by simpa using ha⟩
    · simp at ha
  have hok : ∀ i j, i < PW → j < PH → ∀ a ∈ pastePuts W H PW p E x y i j, PutOk W H p a := by
    intro i j hi hj a ha
    obtain ⟨c, rfl⟩ := hmem i j a ha
    exact ⟨by simp only; omega, by simp only; omega, pix_length E PW PH p i j q4 hi hj⟩
  have hst : ∀ i j, i ≤ PW → j < PH → NImg W H p (putAll W p (gridPuts (pastePuts W H PW p E x y) PW i j) D) := fun i j hi hj =>
    ⟨o1, o2, o3, putAll_length W H p _ _ o4 (fun a ha => by obtain ⟨i', j', hi', hj', g⟩ := mem_grid hi hj ha; exact hok i' j' hi' hj' a g)⟩
  have hend : putAll W p (gridPuts (pastePuts W H PW p E x y) PW 0 PH) D = tab W H (pastePx (W : Int) (p : Int) D (PW : Int) (PH : Int) E x y) := by
    rw [grid_end]
    have ha : ∀ a ∈ allPuts (pastePuts W H PW p E x y) PW PH, PutOk W H p a := fun a ha => by
      obtain ⟨i, j, hi, hj, g⟩ := mem_all.1 ha
      exact hok i j hi hj a g
    have hlen : ∀ X Y, X < W → Y < H → (pastePx (W : Int) (p : Int) D (PW : Int) (PH : Int) E x y X Y).length = p := fun X Y hX hY => pastePx_length ⟨o1, o2, o3, o4⟩ ⟨q1, q2, q3, q4⟩ x y X Y hX hY
    obtain ⟨t1, t2⟩ := tab_eq W H p _ hlen
    refine pix_ext _ _ W H p (putAll_length W H p _ _ o4 ha) t1 fun X Y hX hY => ?_
    rw [t2 X Y hX hY]
    unfold pastePx
    simp only [Int.toNat_natCast]
    by_cases c : x ≤ (X : Int) ∧ (X : Int) < x + (PW : Int) ∧ y ≤ (Y : Int) ∧ (Y : Int) < y + (PH : Int)
    · rw [if_pos c]
      have ex : x + ((((X : Int) - x).toNat : Nat) : Int) = (X : Int) := by omega
      have ey : y + ((((Y : Int) - y).toNat : Nat) : Int) = (Y : Int) := by omega
      refine putAll_hit W H p X Y hX hY _ _ D o4 ha (fun a ha' e1 e2 => ?_) ⟨⟨X, Y, pix E PW p ((X : Int) - x).toNat ((Y : Int) - y).toNat⟩, mem_all.2 ⟨((X : Int) - x).toNat, ((Y : Int) - y).toNat, by omega, by omega, ?_⟩, rfl, rfl⟩
      · obtain ⟨i, j, hi, hj, g⟩ := mem_all.1 ha'
        obtain ⟨c', rfl⟩ := hmem i j a g
        simp only at e1 e2 ⊢
        rw [show ((X : Int) - x).toNat = i by omega, show ((Y : Int) - y).toNat = j by omega]
      · unfold pastePuts
        rw [ex, ey, if_pos (by omega)]
        simp
    · rw [if_neg c]
      refine putAll_miss W H p X Y hX hY _ D o4 ha (fun a ha' e => c ?_)
      obtain ⟨i, j, hi, hj, g⟩ := mem_all.1 ha'
      obtain ⟨c', rfl⟩ := hmem i j a g
      simp only at e
      omega
  unfold spec_paste.f
  refine ev_grid (fun k s j => spec_paste.l0 k x y (j : Int) (W : Int) (H : Int) (p : Int) s (PW : Int) (PH : Int) (p : Int) E) (fun k s j i => spec_paste.l1 k x y (j : Int) (i : Int) (W : Int) (H : Int) (p : Int) s (PW : Int) (PH : Int) (p : Int) E) PW PH (fun i j => putAll W p (gridPuts (pastePuts W H PW p E x y) PW i j) D) (fun j hj r h => ?_) (fun i j hi hj r h => ?_) (fun j hj r h => ?_) _ ?_
  · refine Ev.step (fun k => ?_) h
    simp only [spec_paste.l0]
    rw [if_pos (by omega)]
    rfl
  · have E1 : Aside0 (wrap64 (x + (i : Int)) = x + (i : Int)) := ⟨w64 (by omega) (by omega)⟩
    have E2 : Aside0 (wrap64 (y + (j : Int)) = y + (j : Int)) := ⟨w64 (by omega) (by omega)⟩
    have hon := specOnImage_eq (W : Int) (H : Int) (p : Int) (putAll W p (gridPuts (pastePuts W H PW p E x y) PW i j) D) (x + (i : Int)) (y + (j : Int)) (by omega) (by omega)
    have hpx := specPixelAt_eq (D := E) (W := PW) (H := PH) (p := p) ⟨q1, q2, q3, q4⟩ hi hj
    rw [grid_succ, putAll_append] at h
    have hS := hst i j (by omega) hj
    generalize putAll W p (gridPuts (pastePuts W H PW p E x y) PW i j) D = S at h hon hS ⊢
    have hi' : i < 1000000000 := by omega
    have hlt : (i : Int) < (PW : Int) := by omega
    by_cases c : 0 ≤ x + (i : Int) ∧ x + (i : Int) < W ∧ 0 ≤ y + (j : Int) ∧ y + (j : Int) < H
    · obtain ⟨X, hX⟩ := Int.eq_ofNat_of_zero_le c.1
      obtain ⟨Y, hY⟩ := Int.eq_ofNat_of_zero_le c.2.2.1
      have hset := specSetPixel_ev (v := pix E PW p i j) hS (show X < W by omega) (show Y < H by omega) (pix_length E PW PH p i j q4 hi hj)
      have hb : ((decide (0 ≤ x + (i : Int)) && decide (x + (i : Int) < W)) && (decide (0 ≤ y + (j : Int)) && decide (y + (j : Int) < H))) = true := by
        simp only [Bool.and_eq_true, decide_eq_true_eq]
        omega
      rw [hb] at hon
      refine Ev.step (f := fun k => (spec_setPixel.f k (W : Int) (H : Int) (p : Int) S (X : Int) (Y : Int) (pix E PW p i j)).bind fun t => spec_paste.l1 k x y (j : Int) (wrap64 ((i : Int) + 1)) (W : Int) (H : Int) (p : Int) t (PW : Int) (PH : Int) (p : Int) E) (fun k => ?_) ?_
      · simp only [spec_paste.l1, E1.out, E2.out, hon, hpx, Option.bind_some, if_true]
        rw [if_pos hlt, hX, hY]
      · rw [ev_bind_iff hset, up1 i hi']
        have hp : pastePuts W H PW p E x y i j = [⟨X, Y, pix E PW p i j⟩] := by
          unfold pastePuts
          rw [if_pos c, hX, hY]
          rfl
        rw [hp] at h
        exact h
    · have hb : ((decide (0 ≤ x + (i : Int)) && decide (x + (i : Int) < W)) && (decide (0 ≤ y + (j : Int)) && decide (y + (j : Int) < H))) = false := by
        rw [Bool.eq_false_iff]
        intro g
        simp only [Bool.and_eq_true, decide_eq_true_eq] at g
        omega
      rw [hb] at hon
      have hp : pastePuts W H PW p E x y i j = [] := by
        unfold pastePuts
        rw [if_neg c]
      rw [hp] at h
      refine Ev.step (fun k => ?_) h
      simp only [spec_paste.l1, E1.out, E2.out, hon, Option.bind_some, up1 i hi', Bool.false_eq_true, if_false]
      rw [if_pos hlt]
      rfl
  · rw [← grid_next] at h
    refine Ev.step (fun k => ?_) h
    simp only [spec_paste.l1, up1 j (show j < 1000000000 by omega)]
    rw [if_neg (by omega)]
  · refine Ev.step (f := fun _ => some (tab W H (pastePx (W : Int) (p : Int) D (PW : Int) (PH : Int) E x y))) (fun k => ?_) (Ev.now _)
    simp only [spec_paste.l0, hend]
    rw [if_neg (by omega)]
theorem specPaste_ev (w h p : Int) (D : List Int) (x y pw ph pp : Int) (E : List Int) (hn : D.length ≤ 2000000) (hm : E.length ≤ 2000000) : Ev (fun k => spec_PasteImage.f k w h p D x y pw ph pp E) (pasteP w h p D x y pw ph pp E) := by
  have hj : Ev (fun k => spec_PasteImage.j0 k x y true w h p D pw ph pp E) (0, 0, 0, [], false) := Ev.step (f := fun _ => some (0, 0, 0, [], false)) (fun k => by simp only [spec_PasteImage.j0, if_true]) (Ev.now _)
  unfold spec_PasteImage.f pasteP
  rw [ev_bind_iff (validImage_ev w h p D hn)]
  by_cases hv : okImg w h p D = true
  · refine ev_pos hv ?_
    rw [ev_bind_iff (validImage_ev pw ph pp E hm)]
    by_cases hq : okImg pw ph pp E = true
    · refine ev_pos hq ?_
      by_cases hp : p = pp
      · refine ev_pos hp ?_
        rw [inRange_eq, inRange_eq]
        simp only [Option.bind_some]
        by_cases c1 : -16 ≤ x ∧ x ≤ 16
        · refine ev_pos (by simp; omega) ?_
          by_cases c2 : -16 ≤ y ∧ y ≤ 16
          · rw [show (decide (-16 ≤ y) && decide (y ≤ 16)) = true by simp; omega]
            rw [if_pos ⟨hv, hq, hp.symm, c1.1, c1.2, c2.1, c2.2⟩]
            subst hp
            obtain ⟨W, H, P, rfl, rfl, rfl, o⟩ := (okImg_img hv).1.toN
            obtain ⟨PW, PH, P', rfl, rfl, hP, q⟩ := (okImg_img hq).1.toN
            obtain rfl : P = P' := by omega
            have hk := specPasteN_ev o q x y c1 c2
            refine Ev.step (f := fun k => (spec_paste.f k (W : Int) (H : Int) (P : Int) D x y (PW : Int) (PH : Int) (P : Int) E).bind fun t => some ((W : Int), (H : Int), (P : Int), t, true)) (fun k => ?_) ?_
            · simp only [spec_PasteImage.j0, specCopyImage_eq (W : Int) (H : Int) (P : Int) D hn, Option.bind_some, Bool.not_true, Bool.false_eq_true, if_false]
            · rw [ev_bind_iff hk]
              simp only [Int.toNat_natCast]
              exact Ev.now _
          · rw [show (decide (-16 ≤ y) && decide (y ≤ 16)) = false by rw [Bool.eq_false_iff]; simp; omega, if_neg (fun g => c2 ⟨g.2.2.2.2.2.1, g.2.2.2.2.2.2⟩)]
            exact hj
        · rw [if_neg (fun g => c1 ⟨g.2.2.2.1, g.2.2.2.2.1⟩)]
          exact ev_neg (by simp; omega) hj
      · rw [if_neg (fun g => hp g.2.2.1.symm)]
        exact ev_neg hp hj
    · rw [if_neg (fun g => hq g.2.1)]
      exact ev_neg hq hj
  · rw [if_neg (fun g => hv g.1)]
    exact ev_neg hv hj

end Go.Proofs.Ytmljcnhecjlinaa.B
