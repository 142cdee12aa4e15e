/- The program's UnfilterRow answers what the reference's answers, leaves its arguments alone and returns memory of its own; at every kind, two rows and a step. -/
import Derived.Test.YtjenogaceloiiaaFilter
import Derived.Test.YtjenogaceloiiaaQ5
namespace Go.Proofs.Ytjenogaceloiiaa.Pure
open Go.RowKit Go.Proofs.Ytjenogaceloiiaa.Q Go.Proofs.Ytjenogaceloiiaa.B Go.Proofs.YtjenogaceloiiaaW.PrintWords Go.Proofs.YtjenogaceloiiaaW.PrintLast Go.Proofs.YtjenogaceloiiaaW.PrintMore
set_option linter.unusedVariables false

theorem FnExactUnfilterRow : laws_FnExactUnfilterRow.Pure := by
  intro kind l before s _ _ _ _ _ _ _ _
  refine Ev.rounds (g := fun k => laws_FnExactUnfilterRow.f k kind l before s) (r := true) ?_
  unfold laws_FnExactUnfilterRow.f
  by_cases hl : (l.length : Int) > 1048576
  · exact ev_pos hl (Ev.now _)
  refine ev_neg hl ?_
  by_cases hb : (before.length : Int) > 1048576
  · exact ev_pos hb (Ev.now _)
  refine ev_neg hb ?_
  have hn : l.length ≤ 2000000 := by omega
  have hm : before.length ≤ 2000000 := by omega
  have hp : (unfP kind l before s).length ≤ 2000000 := by
    have := unfP_length kind l before s
    omega
  repeat (first
    | exact Ev.now _
    | rw [ev_bind_iff (toIntS_ev l hn)]
    | rw [ev_bind_iff (toIntS_ev before hm)]
    | rw [ev_bind_iff (specUnfilter_ev kind l before s hn hm)]
    | rw [ev_bind_iff (implUnfilter_ev kind l before s)]
    | rw [ev_bind_iff (laws_eqIntS_same l hn)]
    | rw [ev_bind_iff (laws_eqIntS_same before hm)]
    | rw [ev_bind_iff (laws_eqIntS_same _ hp)]
    | rw [ev_bind_iff (markIntS_ev l 1 hn (by omega) (by omega))]
    | rw [ev_bind_iff (markIntS_ev before (1 + l.length) hm (by omega) (by omega))]
    | rw [ev_bind_iff (markIntS_ev (unfP kind l before s) 1 hp (by omega) (by omega))]
    | rw [ev_bind_iff (heldIntS_ev 1 (unfP kind l before s).length hp (by omega) (by omega))]
    | refine Ev.step (g := fun k => laws_FnExactUnfilterRow.j0 k _ _ _ _ _ _ _) (fun k => by rw [laws_FnExactUnfilterRow.j0]) ?_
    | refine ev_pos (by first | rfl | (simp; done) | omega) ?_
    | refine ev_neg (by first | (simp; done) | omega) ?_
    | dsimp only)

end Go.Proofs.Ytjenogaceloiiaa.Pure
