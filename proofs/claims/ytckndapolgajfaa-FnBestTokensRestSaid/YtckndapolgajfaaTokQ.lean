/- Equal lists of tokens, as the laws compare them. No conditions. -/
import Derived.Test.YtckndapolgajfaaTokL
import Derived.Test.YtckndapolgajfaaQ9
namespace Go.Proofs.Ytckndapolgajfaa.B
open Go.RowKit Go.Proofs.Ytckndapolgajfaa.Q Go.Proofs.YtckndapolgajfaaW.PrintWords Go.Proofs.YtckndapolgajfaaW.PrintLast Go.Proofs.YtckndapolgajfaaW.PrintMore
set_option linter.unusedVariables false

/-! ### Equal lists -/
theorem equalTokens_same (ts : List S33) (hn : ts.length ≤ 2000000) : Ev (fun k => laws_equalTokens.f k ts ts) true := by
  have key : ∀ d i, i + d = ts.length → Ev (fun k => laws_equalTokens.l0 k ts ts (i : Int)) true := by
    intro d
    induction d with
    | zero =>
      intro i hi
      refine Ev.step (f := fun _ => some true) (fun k => ?_) (Ev.now _)
      simp only [laws_equalTokens.l0]
      rw [if_neg (show ¬ (i : Int) < (ts.length : Int) by omega)]
    | succ d ih =>
      intro i hi
      refine Ev.step (fun k => ?_) (ih (i + 1) (by omega))
      simp only [laws_equalTokens.l0, up1 i (by omega)]
      rw [if_pos (show (i : Int) < (ts.length : Int) by omega), if_pos (Int.natCast_nonneg i), if_pos (show (i : Int) < (ts.length : Int) by omega)]
      simp
  unfold laws_equalTokens.f
  exact ev_pos rfl (key ts.length 0 (by omega))

end Go.Proofs.Ytckndapolgajfaa.B
