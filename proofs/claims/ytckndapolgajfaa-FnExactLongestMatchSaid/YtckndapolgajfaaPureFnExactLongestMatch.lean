/- The program's LongestMatch answers what the reference's answers and leaves its argument alone; at every list and place. -/
import Derived.Test.YtckndapolgajfaaTokL
import Derived.Test.YtckndapolgajfaaQ37
namespace Go.Proofs.Ytckndapolgajfaa.Pure
open Go.RowKit Go.Proofs.Ytckndapolgajfaa.Q Go.Proofs.Ytckndapolgajfaa.B Go.Proofs.YtckndapolgajfaaW.PrintWords Go.Proofs.YtckndapolgajfaaW.PrintLast Go.Proofs.YtckndapolgajfaaW.PrintMore
set_option linter.unusedVariables false

theorem FnExactLongestMatch : laws_FnExactLongestMatch.Pure := by
  intro l a _ _ _ _
  refine Ev.rounds (g := fun k => laws_FnExactLongestMatch.f k l a) (r := true) ?_
  unfold laws_FnExactLongestMatch.f
  by_cases hl : (l.length : Int) > 1048576
  · exact ev_pos hl (Ev.now _)
  refine ev_neg hl ?_
  have hn : l.length ≤ 2000000 := by omega
  have hs := specLM_ev l a
  have hi := implLM_ev l a
  generalize lmP l a = p at hs hi
  repeat (first
    | exact Ev.now _
    | rw [ev_bind_iff (toIntS_ev l hn)]
    | rw [ev_bind_iff (hs)]
    | rw [ev_bind_iff (hi)]
    | rw [ev_bind_iff (laws_eqIntS_same l hn)]
    | refine Ev.step (g := fun k => laws_FnExactLongestMatch.j0 k _ _ _) (fun k => by rw [laws_FnExactLongestMatch.j0]) ?_
    | refine ev_pos (by first | rfl | (simp; done) | omega) ?_
    | refine ev_neg (by first | (simp; done) | omega) ?_
    | dsimp only)

end Go.Proofs.Ytckndapolgajfaa.Pure
