/- What the laws' comparing of lists and images answers. No conditions. -/
import Derived.Test.YtpadegboplcapaaLoopsA
import Derived.Test.YtpadegboplcapaaQ7
namespace Go.Proofs.Ytpadegboplcapaa.B
open Go.RowKit Go.Proofs.Ytpadegboplcapaa.Q Go.Proofs.YtpadegboplcapaaW.PrintWords Go.Proofs.YtpadegboplcapaaW.PrintLast Go.Proofs.YtpadegboplcapaaW.PrintMore
set_option linter.unusedVariables false

theorem drop_eq_stepE (a b : List Int) (i : Nat) (ha : i < a.length) (hb : i < b.length) : decide (a.drop i = b.drop i) = (decide (a[i] = b[i]) && decide (a.drop (i + 1) = b.drop (i + 1))) := by
  rw [List.drop_eq_getElem_cons ha, List.drop_eq_getElem_cons hb, Bool.eq_iff_iff]
  simp only [decide_eq_true_eq, List.cons.injEq, Bool.and_eq_true]
theorem laws_equalInts_loop (a b : List Int) (hl : a.length = b.length) (hn : a.length ≤ 2000000) : ∀ d i, i + d = a.length → Ev (fun k => laws_equalInts.l0 k a b (i : Int)) (decide (a.drop i = b.drop i)) := by
  intro d
  induction d with
  | zero =>
    intro i hi
    rw [List.drop_of_length_le (by omega), List.drop_of_length_le (by omega)]
    refine Ev.step (f := fun _ => some true) (fun k => ?_) (ev_now (by simp))
    simp only [laws_equalInts.l0]
    rw [if_neg (by omega)]
  | succ d ih =>
    intro i hi
    have ha : i < a.length := by omega
    have hb : i < b.length := by omega
    rw [drop_eq_stepE a b i ha hb]
    have e1 : rd a (i : Int) = a[i] := rd_get a i ha
    have e2 : rd b (i : Int) = b[i] := rd_get b i hb
    by_cases c : a[i] = b[i]
    · refine Ev.step (fun k => ?_) (by rw [decide_eq_true c, Bool.true_and]; exact ih (i + 1) (by omega))
      simp only [laws_equalInts.l0]
      rw [if_pos (by omega), if_pos (by omega), if_pos (by omega), e1, e2, if_pos c, w64 (by omega) (by omega)]
      rfl
    · rw [decide_eq_false c, Bool.false_and]
      refine Ev.step (f := fun _ => some false) (fun k => ?_) (Ev.now _)
      simp only [laws_equalInts.l0]
      rw [if_pos (by omega), if_pos (by omega), if_pos (by omega), e1, e2, if_neg c]
theorem laws_equalInts_ev (a b : List Int) (hn : a.length ≤ 2000000) : Ev (fun k => laws_equalInts.f k a b) (decide (a = b)) := by
  unfold laws_equalInts.f
  by_cases hl : a.length = b.length
  · refine ev_pos (by omega) ?_
    simpa using laws_equalInts_loop a b hl hn a.length 0 (by omega)
  · refine ev_neg (by omega) (ev_now ?_)
    rw [eq_comm, decide_eq_false_iff_not]
    exact fun e => hl (by rw [e])
theorem laws_equalInts_same (a : List Int) (hn : a.length ≤ 2000000) : Ev (fun k => laws_equalInts.f k a a) true := by
  simpa using laws_equalInts_ev a a hn
theorem equalImage_ev (w h p : Int) (D : List Int) (w' h' p' : Int) (E : List Int) (hn : D.length ≤ 2000000) : Ev (fun k => laws_equalImage.f k w h p D w' h' p' E) (decide (w = w' ∧ h = h' ∧ p = p' ∧ D = E)) := by
  unfold laws_equalImage.f
  by_cases c1 : w = w'
  · refine ev_pos c1 ?_
    by_cases c2 : h = h'
    · refine ev_pos c2 ?_
      by_cases c3 : p = p'
      · refine ev_pos c3 ?_
        rw [ev_bind_iff (laws_equalInts_ev D E hn)]
        exact ev_now (by simp [c1, c2, c3])
      · exact ev_neg c3 (ev_now (by simp [c3]))
    · exact ev_neg c2 (ev_now (by simp [c2]))
  · exact ev_neg c1 (ev_now (by simp [c1]))
theorem equalImage_same (w h p : Int) (D : List Int) (hn : D.length ≤ 2000000) : Ev (fun k => laws_equalImage.f k w h p D w h p D) true := by
  simpa using equalImage_ev w h p D w h p D hn

end Go.Proofs.Ytpadegboplcapaa.B
