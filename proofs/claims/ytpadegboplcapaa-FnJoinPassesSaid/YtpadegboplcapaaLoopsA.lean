/- What the reference's small checks answer. No conditions. -/
import Derived.Test.YtpadegboplcapaaBase
import Derived.Test.YtpadegboplcapaaQ1
namespace Go.Proofs.Ytpadegboplcapaa.B
open Go.RowKit Go.Proofs.Ytpadegboplcapaa.Q Go.Proofs.YtpadegboplcapaaW.PrintWords Go.Proofs.YtpadegboplcapaaW.PrintLast Go.Proofs.YtpadegboplcapaaW.PrintMore
set_option linter.unusedVariables false

theorem inRange_eq (a b c : Int) : spec_inRange.f a b c = some (decide (b ≤ a) && decide (a ≤ c)) := by
  unfold spec_inRange.f
  by_cases h : b ≤ a
  · simp [h]
  · simp [h]
theorem allIn_loop (l : List Int) (a b : Int) (hn : l.length ≤ 2000000) : ∀ d i, i + d = l.length → Ev (fun k => spec_allIn.l0 k l a b (i : Int)) ((l.drop i).all fun x => decide (a ≤ x) && decide (x ≤ b)) := by
  intro d
  induction d with
  | zero =>
    intro i hi
    rw [List.drop_of_length_le (by omega)]
    refine Ev.step (f := fun _ => some true) (fun k => ?_) (Ev.now _)
    simp only [spec_allIn.l0]
    rw [if_neg (by omega)]
  | succ d ih =>
    intro i hi
    have hlt : i < l.length := by omega
    rw [List.drop_eq_getElem_cons hlt, List.all_cons]
    have e : rd l (i : Int) = l[i] := rd_get l i hlt
    by_cases c : (decide (a ≤ l[i]) && decide (l[i] ≤ b)) = true
    · refine Ev.step (fun k => ?_) (by rw [c, Bool.true_and]; exact ih (i + 1) (by omega))
      simp only [spec_allIn.l0, inRange_eq, Option.bind_some]
      rw [if_pos (by omega), if_pos (by omega), e, if_pos c, w64 (by omega) (by omega)]
      rfl
    · rw [Bool.eq_false_iff.2 c, Bool.false_and]
      refine Ev.step (f := fun _ => some false) (fun k => ?_) (Ev.now _)
      simp only [spec_allIn.l0, inRange_eq, Option.bind_some]
      rw [if_pos (by omega), if_pos (by omega), e, if_neg c]
theorem allIn_ev (l : List Int) (a b : Int) (hn : l.length ≤ 2000000) : Ev (fun k => spec_allIn.f k l a b) (l.all fun x => decide (a ≤ x) && decide (x ≤ b)) := by
  have := allIn_loop l a b hn l.length 0 (by omega)
  simpa [spec_allIn.f] using this

end Go.Proofs.Ytpadegboplcapaa.B
