/- What SetPixel answers, in the program and in the reference. No conditions. -/
import Derived.Test.YtegicfkcdmhjgaaSpecI2
import Derived.Test.YtegicfkcdmhjgaaSpecO
import Derived.Test.YtegicfkcdmhjgaaQ1
import Derived.Test.YtegicfkcdmhjgaaQ2
namespace Go.Proofs.Ytegicfkcdmhjgaa.B
open Go.RowKit Go.Proofs.Ytegicfkcdmhjgaa.Q Go.Proofs.YtegicfkcdmhjgaaW.PrintWords Go.Proofs.YtegicfkcdmhjgaaW.PrintLast Go.Proofs.YtegicfkcdmhjgaaW.PrintMore
set_option linter.unusedVariables false

def setP (w h p : Int) (D : List Int) (x y : Int) (v : List Int) : Int × Int × Int × List Int × Bool := if okImg w h p D = true ∧ okPlace w h p x y v = true then (w, h, p, setPix D w.toNat p.toNat x.toNat y.toNat v, true) else (0, 0, 0, [], false)
theorem implSet_eq (w h p : Int) (D : List Int) (x y : Int) (v : List Int) : impl_SetPixel.f w h p D x y v = some (setP w h p D x y v) := by
  unfold impl_SetPixel.f setP
  by_cases h : okImg w h p D = true ∧ okPlace w h p x y v = true
  · rw [if_pos h, if_pos h]
  · rw [if_neg h, if_neg h]
theorem okPlace_N {W H P : Nat} {x y : Int} {v : List Int} (h : okPlace (W : Int) (H : Int) (P : Int) x y v = true) : ∃ X Y : Nat, x = X ∧ y = Y ∧ X < W ∧ Y < H ∧ v.length = P ∧ ∀ z ∈ v, 0 ≤ z ∧ z ≤ 255 := by
  unfold okPlace at h
  simp only [Bool.and_eq_true, decide_eq_true_eq, List.all_eq_true] at h
  exact ⟨x.toNat, y.toNat, by omega, by omega, by omega, by omega, by omega, h.2.2⟩
theorem setP_N {W H P X Y : Nat} {D v : List Int} (hv : okImg (W : Int) (H : Int) (P : Int) D = true) (hp : okPlace (W : Int) (H : Int) (P : Int) (X : Int) (Y : Int) v = true) : setP (W : Int) (H : Int) (P : Int) D (X : Int) (Y : Int) v = ((W : Int), (H : Int), (P : Int), setPix D W P X Y v, true) := by
  unfold setP
  rw [if_pos ⟨hv, hp⟩]
  rfl
theorem setP_length (w h p : Int) (D : List Int) (x y : Int) (v : List Int) : (setP w h p D x y v).2.2.2.1.length ≤ 2000000 := by
  unfold setP
  by_cases g : okImg w h p D = true ∧ okPlace w h p x y v = true
  · rw [if_pos g]
    obtain ⟨hv, hp⟩ := g
    obtain ⟨W, H, P, rfl, rfl, rfl, o⟩ := (okImg_img hv).1.toN
    obtain ⟨X, Y, rfl, rfl, hX, hY, hl, _⟩ := okPlace_N hp
    have := (o.set hX hY hl).bound
    simp only [Int.toNat_natCast]
    omega
  · rw [if_neg g]
    simp
theorem specSet_ev (w h p : Int) (D : List Int) (x y : Int) (v : List Int) (hn : D.length ≤ 2000000) (hn2 : v.length ≤ 2000000) : Ev (fun k => spec_SetPixel.f k w h p D x y v) (setP w h p D x y v) := by
  have hj : Ev (fun k => spec_SetPixel.j0 k x y v true w h p D) (0, 0, 0, [], false) := Ev.step (f := fun _ => some (0, 0, 0, [], false)) (fun k => by simp only [spec_SetPixel.j0, if_true]) (Ev.now _)
  unfold spec_SetPixel.f
  rw [ev_bind_iff (validImage_ev w h p D hn)]
  by_cases hv : okImg w h p D = true
  · refine ev_pos hv ?_
    obtain ⟨W, H, P, rfl, rfl, rfl, o⟩ := (okImg_img hv).1.toN
    have o1 := o.1
    have o2 := o.2.1
    rw [specOnImage_eq (W : Int) (H : Int) (P : Int) D x y (by omega) (by omega)]
    simp only [Option.bind_some]
    by_cases hp : okPlace (W : Int) (H : Int) (P : Int) x y v = true
    · have hp' := hp
      obtain ⟨X, Y, rfl, rfl, hX, hY, hl, hb⟩ := okPlace_N hp
      rw [setP_N hv hp]
      refine ev_pos (by simp only [Bool.and_eq_true, decide_eq_true_eq]; omega) (ev_pos (by omega) ?_)
      rw [ev_bind_iff (allIn_ev v 0 255 hn2)]
      rw [show (v.all fun x => decide (0 ≤ x) && decide (x ≤ 255)) = true by rw [List.all_eq_true]; intro z hz; have := hb z hz; simp; omega]
      refine Ev.step (f := fun k => (spec_setPixel.f k (W : Int) (H : Int) (P : Int) D (X : Int) (Y : Int) v).bind fun t => some ((W : Int), (H : Int), (P : Int), t, true)) (fun k => ?_) ?_
      · simp only [spec_SetPixel.j0, Bool.not_true, Bool.false_eq_true, if_false, specCopyImage_eq _ _ _ D hn, Option.bind_some]
      · rw [ev_bind_iff (specSetPixel_ev o hX hY hl)]
        exact Ev.now _
    · have e : setP (W : Int) (H : Int) (P : Int) D x y v = (0, 0, 0, [], false) := by unfold setP; rw [if_neg (fun g => hp g.2)]
      rw [e]
      by_cases c1 : ((decide (0 ≤ x) && decide (x < (W : Int))) && (decide (0 ≤ y) && decide (y < (H : Int)))) = true
      · refine ev_pos c1 ?_
        by_cases c2 : (v.length : Int) = (P : Int)
        · refine ev_pos c2 ?_
          rw [ev_bind_iff (allIn_ev v 0 255 hn2)]
          have c3 : (v.all fun x => decide (0 ≤ x) && decide (x ≤ 255)) = false := by
            rw [Bool.eq_false_iff]
            intro c3
            apply hp
            unfold okPlace
            rw [c1, c3, decide_eq_true c2]
            rfl
          rw [c3]
          exact hj
        · exact ev_neg c2 hj
      · exact ev_neg c1 hj
  · have e : setP w h p D x y v = (0, 0, 0, [], false) := by unfold setP; rw [if_neg (fun g => hv g.1)]
    rw [e]
    exact ev_neg hv hj
theorem setPix_back {W H p x y : Nat} {D v : List Int} (o : NImg W H p D) (hx : x < W) (hy : y < H) (hv : v.length = p) : setPix (setPix D W p x y v) W p x y (pix D W p x y) = D := by
  have hi := at_lt hx hy
  have hD := o.2.2.2
  have hb : (y * W + x + 1) * p ≤ D.length := by rw [hD]; exact Nat.mul_le_mul_right p hi
  unfold setPix setChunk pix chunk
  generalize y * W + x = i at hb
  rw [Nat.succ_mul] at hb ⊢
  generalize i * p = n at hb
  have l1 : (D.take n).length = n := by rw [List.length_take]; omega
  have l2 : (D.take n ++ v).length = n + p := by rw [List.length_append, l1, hv]
  have h1 : (D.take n ++ v ++ D.drop (n + p)).take n = D.take n := by
    rw [List.append_assoc, List.take_append_of_le_length (by omega), List.take_of_length_le (by omega)]
  have h2 : (D.take n ++ v ++ D.drop (n + p)).drop (n + p) = D.drop (n + p) := List.drop_left' l2
  have h3 : D.drop (n + p) = (D.drop n).drop p := by rw [List.drop_drop]
  rw [h1, h2, h3, List.append_assoc, List.take_append_drop, List.take_append_drop]
theorem ok_set {W H p x y : Nat} {D v : List Int} (hv : okImg (W : Int) (H : Int) (p : Int) D = true) (o : NImg W H p D) (hx : x < W) (hy : y < H) (hl : v.length = p) (hb : ∀ z ∈ v, 0 ≤ z ∧ z ≤ 255) : okImg (W : Int) (H : Int) (p : Int) (setPix D W p x y v) = true := by
  refine img_okImg (o.set hx hy hl).toI fun z hz => ?_
  unfold setPix setChunk at hz
  rw [List.append_assoc, List.mem_append, List.mem_append] at hz
  rcases hz with h | h | h
  · exact (okImg_img hv).2 z (List.mem_of_mem_take h)
  · exact hb z h
  · exact (okImg_img hv).2 z (List.mem_of_mem_drop h)

end Go.Proofs.Ytegicfkcdmhjgaa.B
