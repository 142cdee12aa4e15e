/- What FillImage answers, in the program and in the reference. No conditions. -/
import Derived.Test.YtegicfkcdmhjgaaSpecI
import Derived.Test.YtegicfkcdmhjgaaQ1
import Derived.Test.YtegicfkcdmhjgaaQ8
namespace Go.Proofs.Ytegicfkcdmhjgaa.B
open Go.RowKit Go.Proofs.Ytegicfkcdmhjgaa.Q Go.Proofs.YtegicfkcdmhjgaaW.PrintWords Go.Proofs.YtegicfkcdmhjgaaW.PrintLast Go.Proofs.YtegicfkcdmhjgaaW.PrintMore
set_option linter.unusedVariables false

def cst (v : List Int) (_ _ : Nat) : List Int := v
theorem flat_const_add (v : List Int) (a b : Nat) : (List.range (a + b)).flatMap (fun _ => v) = (List.range a).flatMap (fun _ => v) ++ (List.range b).flatMap (fun _ => v) := by
  induction b with
  | zero => simp
  | succ b ih => rw [← Nat.add_assoc, flat_succ, ih, flat_succ, List.append_assoc]
theorem tab_const (v : List Int) (W H : Nat) : tab W H (cst v) = (List.range (H * W)).flatMap fun _ => v := by
  induction H with
  | zero => simp [tab]
  | succ H ih => rw [tab_succ, ih, Nat.succ_mul, flat_const_add]; rfl
theorem const_get (v : List Int) (n i : Nat) (hv : 0 < v.length) (hi : i < n * v.length) : ((List.range n).flatMap fun _ => v).getD i 0 = v.getD (i % v.length) 0 := by
  have hq : i / v.length < n := by rw [Nat.div_lt_iff_lt_mul hv]; exact hi
  have h := flat_chunk n v.length (fun _ => v) (fun _ _ => rfl) (i / v.length) hq
  have hl := flat_length n v.length (fun _ => v) (fun _ _ => rfl)
  have hm : i % v.length < v.length := Nat.mod_lt _ hv
  have e : i = i / v.length * v.length + i % v.length := at_split hv
  have h1 : (chunk ((List.range n).flatMap fun _ => v) v.length (i / v.length)).getD (i % v.length) 0 = v.getD (i % v.length) 0 := by rw [h]
  rw [← h1]
  unfold chunk
  simp only [List.getD_eq_getElem?_getD, List.getElem?_take, hm, if_true, List.getElem?_drop]
  rw [← e]
theorem fill_setF (l : List Int) (i : Nat) (hi : i < l.length) : (l.take i ++ List.replicate (l.length - i) 0).set i (l.getD i 0) = l.take (i + 1) ++ List.replicate (l.length - (i + 1)) 0 := by
  have hl : (l.take i).length = i := by rw [List.length_take]; omega
  have e : l.getD i 0 = l[i] := by simp [hi]
  rw [e, List.set_append_right _ _ (by omega), hl, Nat.sub_self, show l.length - i = l.length - (i + 1) + 1 by omega, List.replicate_succ, List.set_cons_zero, List.take_succ_eq_append_getElem hi, List.append_assoc]
  rfl
def okFill (a b : Int) (v : List Int) : Bool := ((decide (1 ≤ a) && decide (a ≤ 16)) && ((decide (1 ≤ b) && decide (b ≤ 16)) && (decide (1 ≤ (v.length : Int)) && decide ((v.length : Int) ≤ 4)))) && v.all fun x => decide (0 ≤ x) && decide (x ≤ 255)
theorem okFill_ok {a b : Int} {v : List Int} (h : okFill a b v = true) : (1 ≤ a ∧ a ≤ 16) ∧ (1 ≤ b ∧ b ≤ 16) ∧ (1 ≤ v.length ∧ v.length ≤ 4) ∧ ∀ x ∈ v, 0 ≤ x ∧ x ≤ 255 := by
  unfold okFill at h
  simp only [Bool.and_eq_true, decide_eq_true_eq, List.all_eq_true] at h
  obtain ⟨⟨h1, h2, h3⟩, h4⟩ := h
  exact ⟨h1, h2, by omega, h4⟩
def fillP (a b : Int) (v : List Int) : Int × Int × Int × List Int := if okFill a b v = true then (a, b, (v.length : Int), tab a.toNat b.toNat (cst v)) else (0, 0, 0, [])
theorem fillP_length (a b : Int) (v : List Int) : (fillP a b v).2.2.2.length ≤ 2000000 := by
  unfold fillP
  by_cases h : okFill a b v = true
  · rw [if_pos h]
    obtain ⟨h1, h2, h3, _⟩ := okFill_ok h
    have := (tab_img (W := a.toNat) (H := b.toNat) (cst v) (by omega) (by omega) h3 (fun _ _ _ _ => rfl)).bound
    simp only
    omega
  · rw [if_neg h]
    simp
theorem specFill_ev (a b : Int) (v : List Int) (hn : v.length ≤ 2000000) : Ev (fun k => spec_FillImage.f k a b v) (fillP a b v) := by
  have hj : Ev (fun k => spec_FillImage.j0 k a b v true) (0, 0, 0, []) := Ev.step (f := fun _ => some (0, 0, 0, [])) (fun k => by simp only [spec_FillImage.j0, if_true]) (Ev.now _)
  unfold spec_FillImage.f fillP
  rw [validShape_eq]
  simp only [Option.bind_some]
  by_cases h1 : ((decide (1 ≤ a) && decide (a ≤ 16)) && ((decide (1 ≤ b) && decide (b ≤ 16)) && (decide (1 ≤ (v.length : Int)) && decide ((v.length : Int) ≤ 4)))) = true
  · refine ev_pos h1 ?_
    rw [ev_bind_iff (allIn_ev v 0 255 hn)]
    by_cases h2 : (v.all fun x => decide (0 ≤ x) && decide (x ≤ 255)) = true
    · have h : okFill a b v = true := by unfold okFill; rw [h1, h2]; rfl
      rw [if_pos h, h2]
      obtain ⟨g1, g2, g3, _⟩ := okFill_ok h
      obtain ⟨W, rfl⟩ := Int.eq_ofNat_of_zero_le (show 0 ≤ a by omega)
      obtain ⟨H, rfl⟩ := Int.eq_ofNat_of_zero_le (show 0 ≤ b by omega)
      simp only [Int.toNat_natCast]
      have hnew := specNew_eq W H v.length (by omega) (by omega) g3.2
      have hT : (tab W H (cst v)).length = H * W * v.length := (tab_eq W H v.length (cst v) (fun _ _ _ _ => rfl)).1
      have hg : ∀ i, i < (tab W H (cst v)).length → (tab W H (cst v)).getD i 0 = v.getD (i % v.length) 0 := fun i hi => by
        rw [hT] at hi
        rw [tab_const]
        exact const_get v (H * W) i (by omega) hi
      have hb := (tab_img (W := W) (H := H) (cst v) (by omega) (by omega) g3 (fun _ _ _ _ => rfl)).bound
      rw [← hT] at hnew
      clear hT
      generalize tab W H (cst v) = T at hnew hg hb ⊢
      refine Ev.step (f := fun k => spec_FillImage.l0 k v ((0 : Nat) : Int) (W : Int) (H : Int) (v.length : Int) (List.replicate T.length 0)) (fun k => ?_) ?_
      · simp only [spec_FillImage.j0, hnew, Option.bind_some, Bool.not_true, Bool.false_eq_true, if_false]
        rfl
      · have := ev_for (fun k (s : List Int) i => spec_FillImage.l0 k v (i : Int) (W : Int) (H : Int) (v.length : Int) s) T.length (fun i => T.take i ++ List.replicate (T.length - i) 0) (fun i hi r g => ?_) ((W : Int), (H : Int), (v.length : Int), T) ?_
        · simpa using this
        · have ls : (T.take i ++ List.replicate (T.length - i) (0 : Int)).length = T.length := by rw [List.length_append, List.length_take, List.length_replicate]; omega
          have hi' : i < 1000000000 := by omega
          have em : Int.tmod (i : Int) (v.length : Int) = ((i % v.length : Nat) : Int) := by rw [tmodp (Int.natCast_nonneg i)]; simp
          have hm : i % v.length < v.length := Nat.mod_lt _ (by omega)
          have p1 : (i : Int) < ((T.take i ++ List.replicate (T.length - i) (0 : Int)).length : Int) := by rw [ls]; omega
          have p2 : ¬ (v.length : Int) = 0 := by omega
          have p3 : ((i % v.length : Nat) : Int) < (v.length : Int) := by omega
          refine Ev.step (fun k => ?_) g
          simp only [spec_FillImage.l0, em, up1 i hi', Int.toNat_natCast, rd_nat]
          rw [if_pos p1, if_neg p2, if_pos (Int.natCast_nonneg _), if_pos p3, if_pos (Int.natCast_nonneg i), ← hg i hi, fill_setF T i hi]
        · refine Ev.step (f := fun _ => some ((W : Int), (H : Int), (v.length : Int), T)) (fun k => ?_) (Ev.now _)
          simp only [spec_FillImage.l0]
          rw [if_neg (by simp)]
          simp
    · have h : ¬ okFill a b v = true := fun h => h2 (by unfold okFill at h; rw [Bool.and_eq_true] at h; exact h.2)
      rw [if_neg h, Bool.eq_false_iff.2 h2]
      exact hj
  · have h : ¬ okFill a b v = true := fun h => h1 (by unfold okFill at h; rw [Bool.and_eq_true] at h; exact h.1)
    rw [if_neg h]
    exact ev_neg h1 hj
theorem implFill_ev (a b : Int) (v : List Int) : Ev (fun k => impl_FillImage.f k a b v) (fillP a b v) := by
  have hj : Ev (fun k => impl_FillImage.j0 k a b v true a b (v.length : Int)) (0, 0, 0, []) := Ev.step (f := fun _ => some (0, 0, 0, [])) (fun k => by simp only [impl_FillImage.j0, if_true]) (Ev.now _)
  unfold impl_FillImage.f
  rw [isSide_ok, isSide_ok, areBytes_ok]
  simp only [Option.bind_some]
  by_cases h : okFill a b v = true
  · obtain ⟨g1, g2, g3, g4⟩ := okFill_ok h
    refine ev_pos (by simp; omega) (ev_pos (by simp; omega) (ev_neg (by omega) (ev_neg (by omega) ?_)))
    rw [show (v.all fun x => decide (0 ≤ x) && decide (x ≤ 255)) = true by rw [List.all_eq_true]; intro x hx; have := g4 x hx; simp; omega]
    unfold fillP
    rw [if_pos h]
    obtain ⟨W, rfl⟩ := Int.eq_ofNat_of_zero_le (show 0 ≤ a by omega)
    obtain ⟨H, rfl⟩ := Int.eq_ofNat_of_zero_le (show 0 ≤ b by omega)
    simp only [Int.toNat_natCast]
    have e1 : ((W : Int) * (H : Int)) = ((H * W : Nat) : Int) := by rw [Nat.mul_comm]; simp
    have l1 : H * W ≤ 16 * 16 := Nat.mul_le_mul (by omega) (by omega)
    have E2 : Aside0 (wrap64 ((W : Int) * (H : Int)) = ((H * W : Nat) : Int)) := ⟨by rw [e1]; exact w64 (by omega) (by omega)⟩
    rw [tab_const]
    refine Ev.step (f := fun k => impl_FillImage.l0 k v ((H * W : Nat) : Int) ((0 : Nat) : Int) (W : Int) (H : Int) (v.length : Int) []) (fun k => ?_) ?_
    · simp only [impl_FillImage.j0, Bool.not_true, Bool.false_eq_true, if_false, E2.out]
      rfl
    · generalize H * W = n at l1 ⊢
      have := ev_for (fun k (s : List Int) i => impl_FillImage.l0 k v (n : Int) (i : Int) (W : Int) (H : Int) (v.length : Int) s) n (fun i => (List.range i).flatMap fun _ => v) (fun i hi r g => ?_) ((W : Int), (H : Int), (v.length : Int), (List.range n).flatMap fun _ => v) ?_
      · simpa using this
      · have hl := flat_length i v.length (fun _ => v) (fun _ _ => rfl)
        have l2 : i * v.length ≤ 256 * 4 := Nat.mul_le_mul (by omega) g3.2
        have hi' : i < 1000000000 := by omega
        rw [flat_succ] at g
        refine Ev.step (fun k => ?_) g
        simp only [impl_FillImage.l0, up1 i hi']
        rw [if_pos (by omega), if_pos (by omega)]
      · refine Ev.step (f := fun _ => some ((W : Int), (H : Int), (v.length : Int), (List.range n).flatMap fun _ => v)) (fun k => ?_) (Ev.now _)
        simp only [impl_FillImage.l0]
        rw [if_neg (by omega)]
  · unfold fillP
    rw [if_neg h]
    by_cases c1 : (decide (1 ≤ a) && decide (a ≤ 16)) = true
    · refine ev_pos c1 ?_
      by_cases c2 : (decide (1 ≤ b) && decide (b ≤ 16)) = true
      · refine ev_pos c2 ?_
        by_cases c3 : (v.length : Int) < 1
        · exact ev_pos c3 hj
        · refine ev_neg c3 ?_
          by_cases c4 : (v.length : Int) > 4
          · exact ev_pos c4 hj
          · refine ev_neg c4 ?_
            rw [show (v.all fun x => decide (0 ≤ x) && decide (x ≤ 255)) = false by
              rw [Bool.eq_false_iff]
              intro c5
              apply h
              unfold okFill
              rw [c1, c2, c5, decide_eq_true (show 1 ≤ (v.length : Int) by omega), decide_eq_true (show (v.length : Int) ≤ 4 by omega)]
              rfl]
            exact hj
      · exact ev_neg c2 hj
    · exact ev_neg c1 hj

end Go.Proofs.Ytegicfkcdmhjgaa.B
