/- The program's PassData answers what the reference's answers, leaves its argument alone and returns memory of its own; at all arguments. -/
import Derived.Test.YtpadegboplcapaaLoopI
import Derived.Test.YtpadegboplcapaaPassD
import Derived.Test.YtpadegboplcapaaQ4
namespace Go.Proofs.Ytpadegboplcapaa.Pure
open Go.RowKit Go.Proofs.Ytpadegboplcapaa.Q Go.Proofs.Ytpadegboplcapaa.B Go.Proofs.YtpadegboplcapaaW.PrintWords Go.Proofs.YtpadegboplcapaaW.PrintLast Go.Proofs.YtpadegboplcapaaW.PrintMore
set_option linter.unusedVariables false

theorem FnExactPassData (w h p : Int) (D : List Int) (ww : (Lit.int .i64 w).wf = true) (wh : (Lit.int .i64 h).wf = true) (wp : (Lit.int .i64 p).wf = true) (hm : D.length ≤ maxLen) (hw : ∀ x ∈ D, (Lit.int .i64 x).wf = true) (n : Int) (wn : (Lit.int .i64 n).wf = true) :
    ∃ k, laws_FnExactPassData.f k w h p D n = some true := by
  refine Ev.rounds (g := fun k => laws_FnExactPassData.f k w h p D n) (r := true) ?_
  unfold laws_FnExactPassData.f
  obtain ⟨s, hs, hl⟩ := szImage_eq w h p D 1048576 (by omega) hm
  rw [hs]
  simp only [Option.bind_some]
  by_cases c : s < 0
  · exact ev_pos c (Ev.now _)
  refine ev_neg c ?_
  have hn : D.length ≤ 2000000 := by omega
  have h1 := specPass_ev w h p D n hn
  have h2 := implPass_ev w h p D n
  have hlen : (passP w h p D n).length ≤ 2000000 := Nat.le_trans (passP_length w h p D n) (by omega)
  generalize passP w h p D n = E at h1 h2 hlen
  repeat (first
    | exact Ev.now _
    | rw [ev_bind_iff (toImage_ev w h p D hn)]
    | rw [ev_bind_iff (h1)]
    | rw [ev_bind_iff (h2)]
    | rw [ev_bind_iff (laws_eqIntS_same E hlen)]
    | rw [ev_bind_iff (eqImage_same w h p D hn)]
    | rw [ev_bind_iff (markImage_ev w h p D 1 hn (by omega) (by omega))]
    | rw [ev_bind_iff (markIntS_ev E 1 hlen (by omega) (by omega))]
    | rw [ev_bind_iff (heldIntS_ev 1 E.length hlen (by omega) (by omega))]
    | refine Ev.step (g := fun k => laws_FnExactPassData.j0 k _ _ _ _ _ _ _ _) (fun k => by rw [laws_FnExactPassData.j0]) ?_
    | refine ev_pos (by first | rfl | (simp; done) | omega) ?_
    | refine ev_neg (by first | (simp; done) | omega) ?_
    | dsimp only)

end Go.Proofs.Ytpadegboplcapaa.Pure
