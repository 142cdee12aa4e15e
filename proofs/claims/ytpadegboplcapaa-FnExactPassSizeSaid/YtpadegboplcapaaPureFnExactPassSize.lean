/- The program's PassSize answers what the reference's answers; at all arguments. -/
import Derived.Test.YtpadegboplcapaaPass
import Derived.Test.YtpadegboplcapaaQ12
namespace Go.Proofs.Ytpadegboplcapaa.Pure
open Go.RowKit Go.Proofs.Ytpadegboplcapaa.Q Go.Proofs.Ytpadegboplcapaa.B Go.Proofs.YtpadegboplcapaaW.PrintWords Go.Proofs.YtpadegboplcapaaW.PrintLast Go.Proofs.YtpadegboplcapaaW.PrintMore
set_option linter.unusedVariables false

theorem FnExactPassSize : laws_FnExactPassSize.Pure := by
  intro w h p _ _ _
  refine Ev.rounds (g := fun k => laws_FnExactPassSize.f k w h p) (r := true) ?_
  unfold laws_FnExactPassSize.f
  rw [specPassSize_eq]
  simp only [Option.bind_some]
  rw [ev_bind_iff (implSize_ev w h p)]
  exact ev_pos rfl (ev_pos rfl (Ev.now _))

end Go.Proofs.Ytpadegboplcapaa.Pure
