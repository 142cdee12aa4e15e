/- The program's JoinPasses answers what the reference's answers, leaves its arguments alone and returns memory of its own; at all arguments. -/
import Derived.Test.YtpadegboplcapaaLoopI
import Derived.Test.YtpadegboplcapaaLoopSS
import Derived.Test.YtpadegboplcapaaJoinS
import Derived.Test.YtpadegboplcapaaQ5
namespace Go.Proofs.Ytpadegboplcapaa.Pure
open Go.RowKit Go.Proofs.Ytpadegboplcapaa.Q Go.Proofs.Ytpadegboplcapaa.B Go.Proofs.YtpadegboplcapaaW.PrintWords Go.Proofs.YtpadegboplcapaaW.PrintLast Go.Proofs.YtpadegboplcapaaW.PrintMore
set_option linter.unusedVariables false

theorem FnExactJoinPasses (w : Int) (ww : (Lit.int .i64 w).wf = true) (h : Int) (wh : (Lit.int .i64 h).wf = true) (p : Int) (wp : (Lit.int .i64 p).wf = true) (l : List (List Int)) (hm : l.length ≤ maxLen) (hr : ∀ x ∈ l, x.length ≤ maxLen) :
    ∃ k, laws_FnExactJoinPasses.f k w h p l = some true := by
  refine Ev.rounds (g := fun k => laws_FnExactJoinPasses.f k w h p l) (r := true) ?_
  unfold laws_FnExactJoinPasses.f
  obtain ⟨s, hs, hl⟩ := szSS_ev l hm hr
  rw [ev_bind_iff hs]
  by_cases c : s < 0
  · exact ev_pos c (Ev.now _)
  refine ev_neg c ?_
  obtain ⟨hn, ht⟩ := hl.resolve_left c
  have hn2 : l.length ≤ 2000000 := by omega
  have hr2 : ∀ x ∈ l, x.length ≤ 2000000 := fun x hx => by have := rowsLen_mem l x hx; omega
  have h1 := specJoin_ev w h p l
  have h2 := implJoin_ev w h p l
  have hlen := joinP_length w h p l
  obtain ⟨q, hq, q0⟩ := markSS_ev l hn ht
  generalize joinP w h p l = t at h1 h2 hlen
  obtain ⟨tw, th, tp, E, ok⟩ := t
  simp only at hlen
  have hlen2 : E.length ≤ 2000000 := by omega
  have hne : (ok != ok) = false := by simp
  repeat (first
    | exact Ev.now _
    | rw [ev_bind_iff (toSS_ev l hn2 hr2)]
    | rw [ev_bind_iff (h1)]
    | rw [ev_bind_iff (h2)]
    | rw [ev_bind_iff (eqSS_same l hn2 hr2)]
    | rw [ev_bind_iff (hq)]
    | rw [ev_bind_iff (eqImage_same tw th tp E hlen2)]
    | rw [ev_bind_iff (markImage_ev tw th tp E 1 hlen2 (by omega) (by omega))]
    | rw [ev_bind_iff (heldImage_ev tw th tp 1 E.length hlen2 (by omega) (by omega))]
    | refine Ev.step (g := fun k => laws_FnExactJoinPasses.j0 k _ _ _ _ _ _ _ _ _ _ _ _ _ _ _ _) (fun k => by rw [laws_FnExactJoinPasses.j0]) ?_
    | refine Ev.step (g := fun k => laws_FnExactJoinPasses.j1 k _ _ _ _ _ _ _ _ _ _ _ _ _ _) (fun k => by rw [laws_FnExactJoinPasses.j1]) ?_
    | refine Ev.step (g := fun k => laws_FnExactJoinPasses.j2 k _ _ _ _ _ _) (fun k => by rw [laws_FnExactJoinPasses.j2]) ?_
    | refine ev_pos (by first | rfl | (simp; done) | omega) ?_
    | refine ev_neg (by first | (simp; done) | omega) ?_
    | dsimp only)

end Go.Proofs.Ytpadegboplcapaa.Pure
