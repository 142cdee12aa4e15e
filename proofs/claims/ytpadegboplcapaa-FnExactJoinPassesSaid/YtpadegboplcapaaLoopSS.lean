/- What the laws' small functions of lists of lists answer. No conditions. -/
import Derived.Test.YtpadegboplcapaaLoopsX
import Derived.Test.YtpadegboplcapaaQ3
import Derived.Test.YtpadegboplcapaaQ4
namespace Go.Proofs.Ytpadegboplcapaa.B
open Go.RowKit Go.Proofs.Ytpadegboplcapaa.Q Go.Proofs.YtpadegboplcapaaW.PrintWords Go.Proofs.YtpadegboplcapaaW.PrintLast Go.Proofs.YtpadegboplcapaaW.PrintMore
set_option linter.unusedVariables false

theorem rdL_get (l : List (List Int)) (i : Nat) (h : i < l.length) : rd_L1 l (i : Int) = l[i] := by
  unfold rd_L1
  rw [Int.toNat_natCast, List.getD_eq_getElem?_getD, List.getElem?_eq_getElem h]
  rfl
def rowsLen (l : List (List Int)) : Nat := (l.map List.length).sum
theorem rowsLen_drop (l : List (List Int)) (i : Nat) (h : i < l.length) : rowsLen (l.drop i) = l[i].length + rowsLen (l.drop (i + 1)) := by
  unfold rowsLen
  rw [List.drop_eq_getElem_cons h, List.map_cons, List.sum_cons]
theorem rowsLen_mem (l : List (List Int)) (x : List Int) (h : x ∈ l) : x.length ≤ rowsLen l := by
  induction l with
  | nil => cases h
  | cons a l ih =>
    have e : rowsLen (a :: l) = a.length + rowsLen l := by unfold rowsLen; rw [List.map_cons, List.sum_cons]
    rcases List.mem_cons.1 h with rfl | h
    · omega
    · have := ih h
      omega
theorem szSS_loop (l : List (List Int)) (hn : l.length ≤ 1048576) (hr : ∀ x ∈ l, x.length ≤ 9223372036854775807) : ∀ d i (a : Int), i + d = l.length → 0 ≤ a → a ≤ 1048576 → ∃ s, Ev (fun k => laws_szIntSS.l0 k l a (i : Int)) s ∧ (s < 0 ∨ (rowsLen (l.drop i) : Int) ≤ a) := by
  intro d
  induction d with
  | zero =>
    intro i a hi h0 h1
    refine ⟨a, Ev.step (f := fun _ => some a) (fun k => ?_) (Ev.now _), .inr ?_⟩
    · simp only [laws_szIntSS.l0]
      rw [if_neg (by omega)]
    · rw [List.drop_of_length_le (by omega)]
      exact h0
  | succ d ih =>
    intro i a hi h0 h1
    have hil : i < l.length := by omega
    have e := rdL_get l i hil
    have hx := hr l[i] (List.getElem_mem hil)
    have hd := rowsLen_drop l i hil
    have E1 := Aside0.mk (w64 (x := a - (l[i].length : Int)) (by omega) (by omega))
    have E2 := Aside0.mk (w64 (x := (i : Int) + 1) (by omega) (by omega))
    by_cases c : a - (l[i].length : Int) < 0
    · refine ⟨-1, Ev.step (f := fun _ => some (-1)) (fun k => ?_) (Ev.now _), .inl (by omega)⟩
      simp only [laws_szIntSS.l0, laws_szIntS.f, e, E1.out]
      rw [if_pos (by omega), if_pos (by omega), if_pos c]
      simp
    · obtain ⟨s, h2, h3⟩ := ih (i + 1) (a - (l[i].length : Int)) (by omega) (by omega) (by omega)
      refine ⟨s, Ev.step (fun k => ?_) h2, h3.imp_right fun h4 => by rw [hd]; omega⟩
      simp only [laws_szIntSS.l0, laws_szIntS.f, e, E1.out, E2.out]
      rw [if_pos (by omega), if_pos (by omega), if_neg c]
      simp only [Option.bind_some]
      rw [if_neg c]
      rfl
/-- A list of lists that the laws look at has no more numbers than are left. -/
theorem szSS_ev (l : List (List Int)) (hn : l.length ≤ 9223372036854775807) (hr : ∀ x ∈ l, x.length ≤ 9223372036854775807) : ∃ s, Ev (fun k => laws_szIntSS.f k l 1048576) s ∧ (s < 0 ∨ l.length ≤ 1048576 ∧ rowsLen l ≤ 1048576) := by
  have E1 := Aside0.mk (w64 (x := 1048576 - (l.length : Int)) (by omega) (by omega))
  unfold laws_szIntSS.f
  rw [E1.out]
  by_cases c : 1048576 - (l.length : Int) < 0
  · exact ⟨-1, ev_pos c (Ev.now _), .inl (by omega)⟩
  · obtain ⟨s, h1, h2⟩ := szSS_loop l (by omega) hr l.length 0 (1048576 - (l.length : Int)) (by omega) (by omega) (by omega)
    refine ⟨s, ev_neg c h1, h2.imp_right fun h => ?_⟩
    rw [List.drop_zero] at h
    omega
theorem fillSS (l : List (List Int)) (i : Nat) (hi : i < l.length) : (l.take i ++ List.replicate (l.length - i) ([] : List Int)).set i l[i] = l.take (i + 1) ++ List.replicate (l.length - (i + 1)) ([] : List Int) := by
  have hl : (l.take i).length = i := by rw [List.length_take]; omega
  rw [List.set_append_right _ _ (by omega), hl, Nat.sub_self, show l.length - i = l.length - (i + 1) + 1 by omega, List.replicate_succ, List.set_cons_zero, List.take_succ_eq_append_getElem hi, List.append_assoc]
  rfl
theorem toSS_ev (l : List (List Int)) (hn : l.length ≤ 2000000) (hr : ∀ x ∈ l, x.length ≤ 2000000) : Ev (fun k => laws_toIntSS.f k l) l := by
  unfold laws_toIntSS.f
  refine ev_pos (by omega) (ev_pos (by omega) ?_)
  simp only [Int.toNat_natCast]
  refine ev_for (fun k (s : List (List Int)) i => laws_toIntSS.l0 k l s (i : Int)) l.length (fun i => l.take i ++ List.replicate (l.length - i) ([] : List Int)) (fun i hi r h => ?_) _ ?_
  · have e := rdL_get l i hi
    have hl : (l.take i ++ List.replicate (l.length - i) ([] : List Int)).length = l.length := by simp; omega
    have E2 := Aside0.mk (w64 (x := (i : Int) + 1) (by omega) (by omega))
    rw [← fillSS l i hi] at h
    generalize l.take i ++ List.replicate (l.length - i) ([] : List Int) = s at hl h ⊢
    refine Ev.step (f := fun k => (laws_toIntS.f k l[i]).bind fun t => if (i : Int) < (s.length : Int) then laws_toIntSS.l0 k l (s.set i t) ((i : Int) + 1) else none) (fun k => ?_) ?_
    · simp only [laws_toIntSS.l0, e, E2.out, Int.toNat_natCast]
      rw [if_pos (by omega), if_pos (by omega)]
    · rw [ev_bind_iff (toIntS_ev l[i] (hr _ (List.getElem_mem hi)))]
      exact ev_pos (by omega) h
  · refine Ev.step (f := fun _ => some l) (fun k => ?_) (Ev.now _)
    simp only [laws_toIntSS.l0]
    rw [if_neg (by omega)]
    simp
theorem eqSS_loop (l : List (List Int)) (hn : l.length ≤ 2000000) (hr : ∀ x ∈ l, x.length ≤ 2000000) : ∀ d i, i + d = l.length → Ev (fun k => laws_eqIntSS.l0 k l l (i : Int)) true := by
  intro d
  induction d with
  | zero =>
    intro i hi
    refine Ev.step (f := fun _ => some true) (fun k => ?_) (Ev.now _)
    simp only [laws_eqIntSS.l0]
    rw [if_neg (by omega)]
  | succ d ih =>
    intro i hi
    have hil : i < l.length := by omega
    have e := rdL_get l i hil
    have E2 := Aside0.mk (w64 (x := (i : Int) + 1) (by omega) (by omega))
    refine Ev.step (f := fun k => (laws_eqIntS.f k l[i] l[i]).bind fun t => if t = true then laws_eqIntSS.l0 k l l ((i + 1 : Nat) : Int) else some false) (fun k => ?_) ?_
    · simp only [laws_eqIntSS.l0, e, E2.out]
      rw [if_pos (by omega), if_pos (by omega), if_pos (by omega)]
      rfl
    · rw [ev_bind_iff (laws_eqIntS_same l[i] (hr _ (List.getElem_mem hil)))]
      exact ev_pos rfl (ih (i + 1) (by omega))
theorem eqSS_same (l : List (List Int)) (hn : l.length ≤ 2000000) (hr : ∀ x ∈ l, x.length ≤ 2000000) : Ev (fun k => laws_eqIntSS.f k l l) true := by
  unfold laws_eqIntSS.f
  exact ev_pos rfl (eqSS_loop l hn hr l.length 0 (by omega))
theorem markSS_loop : ∀ d i (l : List (List Int)) (m : Int), i + d = l.length → l.length ≤ 2000000 → 0 ≤ m → m + (rowsLen (l.drop i) : Int) ≤ 2000000 → ∃ s, Ev (fun k => laws_markIntSS.l0 k l m (i : Int)) s ∧ 0 ≤ s := by
  intro d
  induction d with
  | zero =>
    intro i l m hi hn h0 h1
    refine ⟨m, Ev.step (f := fun _ => some m) (fun k => ?_) (Ev.now _), h0⟩
    simp only [laws_markIntSS.l0]
    rw [if_neg (by omega)]
  | succ d ih =>
    intro i l m hi hn h0 h1
    have hil : i < l.length := by omega
    have e := rdL_get l i hil
    have hd := rowsLen_drop l i hil
    have E2 := Aside0.mk (w64 (x := (i : Int) + 1) (by omega) (by omega))
    obtain ⟨s, h2, h3⟩ := ih (i + 1) (l.set i (seqFrom m l[i].length)) (m + (l[i].length : Int)) (by rw [List.length_set]; omega) (by rw [List.length_set]; exact hn) (by omega) (by rw [List.drop_set_of_lt (by omega)]; omega)
    refine ⟨s, Ev.step (f := fun k => (laws_markIntS.f k l[i] m).bind fun t => laws_markIntSS.l0 k (l.set i t.2) t.1 ((i : Int) + 1)) (fun k => ?_) ?_, h3⟩
    · simp only [laws_markIntSS.l0, e, E2.out, Int.toNat_natCast]
      rw [if_pos (by omega), if_pos (by omega)]
    · rw [ev_bind_iff (markIntS_ev l[i] m (by omega) h0 (by omega))]
      exact h2
theorem markSS_ev (l : List (List Int)) (hn : l.length ≤ 1048576) (hr : rowsLen l ≤ 1048576) : ∃ s, Ev (fun k => laws_markIntSS.f k l 1) s ∧ 0 ≤ s := by
  obtain ⟨s, h1, h2⟩ := markSS_loop l.length 0 l 1 (by omega) (by omega) (by omega) (by rw [List.drop_zero]; omega)
  exact ⟨s, h1, h2⟩

end Go.Proofs.Ytpadegboplcapaa.B
