/- What the small loops of the exact laws answer. No conditions. -/
import Derived.Test.YtpadegboplcapaaLoopsA
import Derived.Test.YtpadegboplcapaaQ3
import Derived.Test.YtpadegboplcapaaQ4
namespace Go.Proofs.Ytpadegboplcapaa.B
open Go.RowKit Go.Proofs.Ytpadegboplcapaa.Q Go.Proofs.YtpadegboplcapaaW.PrintWords Go.Proofs.YtpadegboplcapaaW.PrintLast Go.Proofs.YtpadegboplcapaaW.PrintMore
set_option linter.unusedVariables false

theorem drop_eq_step (a b : List Int) (i : Nat) (ha : i < a.length) (hb : i < b.length) : decide (a.drop i = b.drop i) = (decide (a[i] = b[i]) && decide (a.drop (i + 1) = b.drop (i + 1))) := by
  rw [List.drop_eq_getElem_cons ha, List.drop_eq_getElem_cons hb, Bool.eq_iff_iff]
  simp only [decide_eq_true_eq, List.cons.injEq, Bool.and_eq_true]
theorem laws_eqIntS_loop (a b : List Int) (hl : a.length = b.length) (hn : a.length ≤ 2000000) : ∀ d i, i + d = a.length → Ev (fun k => laws_eqIntS.l0 k a b (i : Int)) (decide (a.drop i = b.drop i)) := by
  intro d
  induction d with
  | zero =>
    intro i hi
    rw [List.drop_of_length_le (by omega), List.drop_of_length_le (by omega)]
    refine Ev.step (f := fun _ => some true) (fun k => ?_) (ev_now (by simp))
    simp only [laws_eqIntS.l0]
    rw [if_neg (by omega)]
  | succ d ih =>
    intro i hi
    have ha : i < a.length := by omega
    have hb : i < b.length := by omega
    rw [drop_eq_step a b i ha hb]
    have e1 : rd a (i : Int) = a[i] := rd_get a i ha
    have e2 : rd b (i : Int) = b[i] := rd_get b i hb
    by_cases c : a[i] = b[i]
    · refine Ev.step (fun k => ?_) (by rw [decide_eq_true c, Bool.true_and]; exact ih (i + 1) (by omega))
      simp only [laws_eqIntS.l0]
      rw [if_pos (by omega), if_pos (by omega), if_pos (by omega), e1, e2, if_pos c, w64 (by omega) (by omega)]
      rfl
    · rw [decide_eq_false c, Bool.false_and]
      refine Ev.step (f := fun _ => some false) (fun k => ?_) (Ev.now _)
      simp only [laws_eqIntS.l0]
      rw [if_pos (by omega), if_pos (by omega), if_pos (by omega), e1, e2, if_neg c]
theorem laws_eqIntS_ev (a b : List Int) (hn : a.length ≤ 2000000) : Ev (fun k => laws_eqIntS.f k a b) (decide (a = b)) := by
  unfold laws_eqIntS.f
  by_cases hl : a.length = b.length
  · refine ev_pos (by omega) ?_
    simpa using laws_eqIntS_loop a b hl hn a.length 0 (by omega)
  · refine ev_neg (by omega) (ev_now ?_)
    rw [eq_comm, decide_eq_false_iff_not]
    exact fun e => hl (by rw [e])
theorem laws_eqIntS_same (a : List Int) (hn : a.length ≤ 2000000) : Ev (fun k => laws_eqIntS.f k a a) true := by
  simpa using laws_eqIntS_ev a a hn
theorem fill_set (l : List Int) (i : Nat) (hi : i < l.length) : (l.take i ++ List.replicate (l.length - i) 0).set i l[i] = l.take (i + 1) ++ List.replicate (l.length - (i + 1)) 0 := by
  have hl : (l.take i).length = i := by rw [List.length_take]; omega
  rw [List.set_append_right _ _ (by omega), hl, Nat.sub_self, show l.length - i = l.length - (i + 1) + 1 by omega, List.replicate_succ, List.set_cons_zero, List.take_succ_eq_append_getElem hi, List.append_assoc]
  rfl
theorem toIntS_ev (l : List Int) (hn : l.length ≤ 2000000) : Ev (fun k => laws_toIntS.f k l) l := by
  unfold laws_toIntS.f
  refine ev_pos (by omega) (ev_pos (by omega) ?_)
  simp only [Int.toNat_natCast]
  refine ev_for (fun k (s : List Int) i => laws_toIntS.l0 k l s (i : Int)) l.length (fun i => l.take i ++ List.replicate (l.length - i) 0) (fun i hi r h => ?_) _ ?_
  · refine Ev.step (fun k => ?_) h
    simp only [laws_toIntS.l0]
    rw [if_pos (by omega), if_pos (by omega), if_pos (by simp; omega), rd_get l i hi, w64 (x := (i : Int) + 1) (by omega) (by omega), Int.toNat_natCast, fill_set l i hi]
    rfl
  · refine Ev.step (f := fun _ => some l) (fun k => ?_) (Ev.now _)
    simp only [laws_toIntS.l0]
    rw [if_neg (by omega)]
    simp
/-- n numbers from m on. -/
def seqFrom (m : Int) (n : Nat) : List Int := (List.range n).map fun (j : Nat) => m + (j : Int)
theorem seqFrom_length (m : Int) (n : Nat) : (seqFrom m n).length = n := by simp [seqFrom]
theorem seqFrom_get (m : Int) (n i : Nat) (h : i < n) : rd (seqFrom m n) (i : Int) = m + i := by
  rw [rd_get _ _ (by rw [seqFrom_length]; exact h)]
  simp [seqFrom]
theorem mark_set (l : List Int) (m : Int) (i : Nat) (hi : i < l.length) : (seqFrom m i ++ l.drop i).set i (m + i) = seqFrom m (i + 1) ++ l.drop (i + 1) := by
  have hl : (seqFrom m i).length = i := seqFrom_length m i
  rw [List.set_append_right _ _ (by omega), hl, Nat.sub_self, List.drop_eq_getElem_cons hi, List.set_cons_zero]
  have e : seqFrom m (i + 1) = seqFrom m i ++ [m + (i : Int)] := by simp [seqFrom, List.range_succ]
  rw [e, List.append_assoc]
  rfl
theorem markIntS_ev (l : List Int) (m : Int) (hn : l.length ≤ 2000000) (h0 : 0 ≤ m) (h1 : m ≤ 1000000000) : Ev (fun k => laws_markIntS.f k l m) (m + l.length, seqFrom m l.length) := by
  unfold laws_markIntS.f
  have e : l = seqFrom m 0 ++ l.drop 0 := by simp [seqFrom]
  have := ev_for (fun k (s : List Int × Int) i => laws_markIntS.l0 k s.1 s.2 (i : Int)) l.length (fun i => (seqFrom m i ++ l.drop i, m + i)) (fun i hi r h => ?_) (m + l.length, seqFrom m l.length) ?_
  · simpa [seqFrom] using this
  · refine Ev.step (fun k => ?_) h
    simp only [laws_markIntS.l0]
    rw [if_pos (by simp [seqFrom]; omega), if_pos (by omega), w64 (x := (i : Int) + 1) (by omega) (by omega), w64 (x := m + (i : Int) + 1) (by omega) (by omega), Int.toNat_natCast, mark_set l m i hi, Int.add_assoc]
    rfl
  · refine Ev.step (f := fun _ => some (m + l.length, seqFrom m l.length)) (fun k => ?_) (Ev.now _)
    simp only [laws_markIntS.l0]
    rw [if_neg (by simp [seqFrom])]
    simp
theorem heldIntS_ev (m : Int) (n : Nat) (hn : n ≤ 2000000) (h0 : 0 ≤ m) (h1 : m ≤ 1000000000) : Ev (fun k => laws_heldIntS.f k (seqFrom m n) m) (m + n) := by
  unfold laws_heldIntS.f
  have hl := seqFrom_length m n
  have := ev_for (fun k (s : Int) i => laws_heldIntS.l0 k (seqFrom m n) s (i : Int)) n (fun i => m + i) (fun i hi r h => ?_) (m + n) ?_
  · simpa using this
  · refine Ev.step (fun k => ?_) h
    simp only [laws_heldIntS.l0]
    rw [if_pos (by omega), if_pos (by omega), seqFrom_get m n i hi, if_pos rfl, w64 (x := (i : Int) + 1) (by omega) (by omega), w64 (x := m + (i : Int) + 1) (by omega) (by omega), Int.add_assoc]
    rfl
  · refine Ev.step (f := fun _ => some (m + n)) (fun k => ?_) (Ev.now _)
    simp only [laws_heldIntS.l0]
    rw [if_neg (by omega)]

end Go.Proofs.Ytpadegboplcapaa.B
