/- The program's PackRow answers what the reference's answers, leaves its arguments alone and returns memory of its own; at every list and depth. -/
import Derived.Test.YtikgepiglmnehaaPack
import Derived.Test.YtikgepiglmnehaaQ5
namespace Go.Proofs.Ytikgepiglmnehaa.Pure
open Go.RowKit Go.Proofs.Ytikgepiglmnehaa.Q Go.Proofs.Ytikgepiglmnehaa.B Go.Proofs.YtikgepiglmnehaaW.PrintWords Go.Proofs.YtikgepiglmnehaaW.PrintLast Go.Proofs.YtikgepiglmnehaaW.PrintMore
set_option linter.unusedVariables false

theorem FnExactPackRow : laws_FnExactPackRow.Pure := by
  intro l d _ _ _ _
  refine Ev.rounds (g := fun k => laws_FnExactPackRow.f k l d) (r := true) ?_
  unfold laws_FnExactPackRow.f
  by_cases hl : (l.length : Int) > 1048576
  · exact ev_pos hl (Ev.now _)
  refine ev_neg hl ?_
  have hn : l.length ≤ 2000000 := by omega
  have hp : (packP l d).length ≤ 2000000 := by
    have := packP_length l d
    omega
  repeat (first
    | exact Ev.now _
    | rw [ev_bind_iff (toIntS_ev l hn)]
    | rw [ev_bind_iff (specPackRow_ev l d hn)]
    | rw [ev_bind_iff (implPackRow_ev l d)]
    | rw [ev_bind_iff (laws_eqIntS_same l hn)]
    | rw [ev_bind_iff (laws_eqIntS_same _ hp)]
    | rw [ev_bind_iff (markIntS_ev l 1 hn (by omega) (by omega))]
    | rw [ev_bind_iff (markIntS_ev (packP l d) 1 hp (by omega) (by omega))]
    | rw [ev_bind_iff (heldIntS_ev 1 (packP l d).length hp (by omega) (by omega))]
    | refine Ev.step (g := fun k => laws_FnExactPackRow.j0 k _ _ _ _ _) (fun k => by rw [laws_FnExactPackRow.j0]) ?_
    | refine ev_pos (by first | rfl | (simp; done) | omega) ?_
    | refine ev_neg (by first | (simp; done) | omega) ?_
    | dsimp only)

end Go.Proofs.Ytikgepiglmnehaa.Pure
