/- The program's BestFilter answers what the reference's answers and leaves its arguments alone; at every two rows and a step. -/
import Derived.Test.YtjenogaceloiiaaBest
import Derived.Test.YtjenogaceloiiaaQ6
namespace Go.Proofs.Ytjenogaceloiiaa.Pure
open Go.RowKit Go.Proofs.Ytjenogaceloiiaa.Q Go.Proofs.Ytjenogaceloiiaa.B Go.Proofs.YtjenogaceloiiaaW.PrintWords Go.Proofs.YtjenogaceloiiaaW.PrintLast Go.Proofs.YtjenogaceloiiaaW.PrintMore
set_option linter.unusedVariables false

theorem FnExactBestFilter : laws_FnExactBestFilter.Pure := by
  intro l before s _ _ _ _ _ _ _
  refine Ev.rounds (g := fun k => laws_FnExactBestFilter.f k l before s) (r := true) ?_
  unfold laws_FnExactBestFilter.f
  by_cases hl : (l.length : Int) > 1048576
  · exact ev_pos hl (Ev.now _)
  refine ev_neg hl ?_
  by_cases hb : (before.length : Int) > 1048576
  · exact ev_pos hb (Ev.now _)
  refine ev_neg hb ?_
  have hn : l.length ≤ 2000000 := by omega
  have hm : before.length ≤ 2000000 := by omega
  repeat (first
    | exact Ev.now _
    | rw [ev_bind_iff (toIntS_ev l hn)]
    | rw [ev_bind_iff (toIntS_ev before hm)]
    | rw [ev_bind_iff (specBestFilter_ev l before s hn hm)]
    | rw [ev_bind_iff (implBestFilter_ev l before s)]
    | rw [ev_bind_iff (laws_eqIntS_same l hn)]
    | rw [ev_bind_iff (laws_eqIntS_same before hm)]
    | refine ev_pos (by first | rfl | (simp; done) | omega) ?_
    | refine ev_neg (by first | (simp; done) | omega) ?_
    | dsimp only)

end Go.Proofs.Ytjenogaceloiiaa.Pure
