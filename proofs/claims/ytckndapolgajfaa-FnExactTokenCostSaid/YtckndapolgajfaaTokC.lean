/- What tokens cost, in the program. No conditions. -/
import Derived.Test.YtckndapolgajfaaTokL
import Derived.Test.YtckndapolgajfaaQ6
namespace Go.Proofs.Ytckndapolgajfaa.B
open Go.RowKit Go.Proofs.Ytckndapolgajfaa.Q Go.Proofs.YtckndapolgajfaaW.PrintWords Go.Proofs.YtckndapolgajfaaW.PrintLast Go.Proofs.YtckndapolgajfaaW.PrintMore
set_option linter.unusedVariables false

/-! ### Costs -/
theorem cost_drop (ts : List S33) (i : Nat) (h : i < ts.length) : cost (ts.drop i) = cost1 (rd_T33 ts (i : Int)) + cost (ts.drop (i + 1)) := by
  rw [List.drop_eq_getElem_cons h, rdT_get ts i h]
  rfl
theorem implCost_ev (ts : List S33) (hn : ts.length ≤ 2000000) : Ev (fun k => impl_TokenCost.f k ts) (cost (ts.take 1200)) := by
  have key : ∀ (us : List S33), us.length ≤ 1200 → ∀ d i c, i + d = us.length → 0 ≤ c → c ≤ 11 * (i : Int) → Ev (fun k => impl_TokenCost.l0 k c us (us.length : Int) (i : Int)) (c + cost (us.drop i)) := by
    intro us hu d
    induction d with
    | zero =>
      intro i c hi h0 h1
      rw [List.drop_of_length_le (by omega)]
      refine Ev.step (f := fun _ => some c) (fun k => ?_) (ev_now (by simp [cost]))
      simp only [impl_TokenCost.l0]
      rw [if_neg (show ¬ (i : Int) < (us.length : Int) by omega)]
    | succ d ih =>
      intro i c hi h0 h1
      have hlt : i < us.length := by omega
      have e9 : wrap64 (c + 9) = c + 9 := w64 (by omega) (by omega)
      have e11 : wrap64 (c + 11) = c + 11 := w64 (by omega) (by omega)
      have ih9 := ih (i + 1) (c + 9) (by omega) (by omega) (by omega)
      have ih11 := ih (i + 1) (c + 11) (by omega) (by omega) (by omega)
      have hi1 := up1 i (by omega)
      rw [cost_drop us i hlt]
      unfold cost1
      by_cases g : (rd_T33 us (i : Int)).f1 = 0
      · rw [if_pos g, ← Int.add_assoc]
        refine Ev.step (fun k => ?_) ih9
        simp only [impl_TokenCost.l0, hi1, e9, e11]
        rw [if_pos (show (i : Int) < (us.length : Int) by omega), if_pos (Int.natCast_nonneg i), if_pos (show (i : Int) < (us.length : Int) by omega), if_pos g]
      · rw [if_neg g, ← Int.add_assoc]
        refine Ev.step (fun k => ?_) ih11
        simp only [impl_TokenCost.l0, hi1, e9, e11]
        rw [if_pos (show (i : Int) < (us.length : Int) by omega), if_pos (Int.natCast_nonneg i), if_pos (show (i : Int) < (us.length : Int) by omega), if_neg g]
  have em : mn (ts.length : Int) 1200 = ((min ts.length 1200 : Nat) : Int) := by
    unfold mn
    split <;> omega
  have et : ts.take (min ts.length 1200) = ts.take 1200 := by
    by_cases h : ts.length ≤ 1200
    · rw [List.take_of_length_le (by omega), List.take_of_length_le (by omega)]
    · rw [show min ts.length 1200 = 1200 by omega]
  unfold impl_TokenCost.f
  simp only [em, Int.toNat_natCast, Option.bind_some, et]
  refine ev_pos (by omega) (ev_pos (by omega) ?_)
  have := key (ts.take 1200) (by rw [List.length_take]; omega) (ts.take 1200).length 0 0 (by omega) (by omega) (by omega)
  simpa using this

end Go.Proofs.Ytckndapolgajfaa.B
