/- What tokens cost, in the reference. No conditions. -/
import Derived.Test.YtckndapolgajfaaTokC
import Derived.Test.YtckndapolgajfaaQ16
namespace Go.Proofs.Ytckndapolgajfaa.B
open Go.RowKit Go.Proofs.Ytckndapolgajfaa.Q Go.Proofs.YtckndapolgajfaaW.PrintWords Go.Proofs.YtckndapolgajfaaW.PrintLast Go.Proofs.YtckndapolgajfaaW.PrintMore
set_option linter.unusedVariables false

theorem specCost_ev (ts : List S33) (hn : ts.length ≤ 2000000) : Ev (fun k => spec_TokenCost.f k ts) (cost (ts.take 1200)) := by
  have key : ∀ d i c, i + d = min ts.length 1200 → 0 ≤ c → c ≤ 11 * (i : Int) → Ev (fun k => spec_TokenCost.l0 k ts c (i : Int)) (c + cost ((ts.take 1200).drop i)) := by
    intro d
    induction d with
    | zero =>
      intro i c hi h0 h1
      rw [List.drop_of_length_le (by rw [List.length_take]; omega)]
      refine Ev.step (f := fun _ => some c) (fun k => ?_) (ev_now (by simp [cost]))
      simp only [spec_TokenCost.l0]
      by_cases g : (i : Int) < (ts.length : Int)
      · rw [if_pos g, if_neg (show ¬ (i : Int) < 1200 by omega)]
      · rw [if_neg g]
    | succ d ih =>
      intro i c hi h0 h1
      have hlt : i < (ts.take 1200).length := by rw [List.length_take]; omega
      have e9 : wrap64 (c + 9) = c + 9 := w64 (by omega) (by omega)
      have e11 : wrap64 (c + 11) = c + 11 := w64 (by omega) (by omega)
      have ih9 := ih (i + 1) (c + 9) (by omega) (by omega) (by omega)
      have ih11 := ih (i + 1) (c + 11) (by omega) (by omega) (by omega)
      have hi1 := up1 i (by omega)
      have er : rd_T33 (ts.take 1200) (i : Int) = rd_T33 ts (i : Int) := by
        rw [rdT_get _ _ hlt, rdT_get ts i (by omega), List.getElem_take]
      rw [cost_drop _ i hlt, er]
      unfold cost1
      by_cases g : (rd_T33 ts (i : Int)).f1 = 0
      · rw [if_pos g, ← Int.add_assoc]
        refine Ev.step (fun k => ?_) ih9
        simp only [spec_TokenCost.l0, spec_tokenBits.f, hi1]
        rw [if_pos (show (i : Int) < (ts.length : Int) by omega), if_pos (show (i : Int) < 1200 by omega), if_pos (Int.natCast_nonneg i), if_pos g]
        simp only [Option.bind_some, e9]
      · rw [if_neg g, ← Int.add_assoc]
        refine Ev.step (fun k => ?_) ih11
        simp only [spec_TokenCost.l0, spec_tokenBits.f, hi1]
        rw [if_pos (show (i : Int) < (ts.length : Int) by omega), if_pos (show (i : Int) < 1200 by omega), if_pos (Int.natCast_nonneg i), if_neg g]
        simp only [Option.bind_some, e11]
  have := key (min ts.length 1200) 0 0 (by omega) (by omega) (by omega)
  unfold spec_TokenCost.f
  simpa using this

end Go.Proofs.Ytckndapolgajfaa.B
