/- The program's tokens are the reference's, the argument is left alone and the memory is new; at every list. -/
import Derived.Test.YtckndapolgajfaaLoops
import Derived.Test.YtckndapolgajfaaTokB
import Derived.Test.YtckndapolgajfaaTokM
import Derived.Test.YtckndapolgajfaaQ20
namespace Go.Proofs.Ytckndapolgajfaa.Pure
open Go.RowKit Go.Proofs.Ytckndapolgajfaa.Q Go.Proofs.Ytckndapolgajfaa.B Go.Proofs.YtckndapolgajfaaW.PrintWords Go.Proofs.YtckndapolgajfaaW.PrintLast Go.Proofs.YtckndapolgajfaaW.PrintMore
set_option linter.unusedVariables false

theorem FnExactBestTokens : laws_FnExactBestTokens.Pure := by
  intro l _ _ _
  refine Ev.rounds (g := fun k => laws_FnExactBestTokens.f k l) (r := true) ?_
  unfold laws_FnExactBestTokens.f
  by_cases hl : (l.length : Int) > 1048576
  · exact ev_pos hl (Ev.now _)
  refine ev_neg hl ?_
  have hn : l.length ≤ 2000000 := by omega
  have hp := bestP_length l
  have hq : (bestP l).length ≤ 2000000 := by omega
  have hs := specBest_ev l
  have hi := implBest_ev l
  generalize bestP l = ts at hp hq hs hi
  repeat (first
    | exact Ev.now _
    | rw [ev_bind_iff (toIntS_ev l hn)]
    | rw [ev_bind_iff (hs)]
    | rw [ev_bind_iff (hi)]
    | rw [ev_bind_iff (eqTokenS_same ts hq)]
    | rw [ev_bind_iff (laws_eqIntS_same l hn)]
    | rw [ev_bind_iff (markIntS_ev l 1 hn (by omega) (by omega))]
    | rw [ev_bind_iff (markTokenS_ev ts 1 hq (by omega) (by omega))]
    | rw [ev_bind_iff (heldTokenS_ev 1 ts.length hq (by omega) (by omega))]
    | refine Ev.step (g := fun k => laws_FnExactBestTokens.j0 k _ _ _ _) (fun k => by rw [laws_FnExactBestTokens.j0]) ?_
    | refine ev_pos (by first | rfl | (simp; done) | omega) ?_
    | refine ev_neg (by first | (simp; done) | omega) ?_
    | dsimp only)

end Go.Proofs.Ytckndapolgajfaa.Pure
