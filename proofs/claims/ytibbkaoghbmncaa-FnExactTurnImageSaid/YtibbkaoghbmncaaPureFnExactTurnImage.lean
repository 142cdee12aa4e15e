/- The program's TurnImage answers what the reference's answers, leaves its arguments alone and returns memory of its own; at every image and number of quarters. -/
import Derived.Test.YtibbkaoghbmncaaLoopI
import Derived.Test.YtibbkaoghbmncaaTurnT
import Derived.Test.YtibbkaoghbmncaaQ16
namespace Go.Proofs.Ytibbkaoghbmncaa.Pure
open Go.RowKit Go.Proofs.Ytibbkaoghbmncaa.Q Go.Proofs.Ytibbkaoghbmncaa.B Go.Proofs.YtibbkaoghbmncaaW.PrintWords Go.Proofs.YtibbkaoghbmncaaW.PrintLast Go.Proofs.YtibbkaoghbmncaaW.PrintMore
set_option linter.unusedVariables false

theorem FnExactTurnImage (w h p : Int) (D : List Int) (ww : (Lit.int .i64 w).wf = true) (wh : (Lit.int .i64 h).wf = true) (wp : (Lit.int .i64 p).wf = true) (hm : D.length ≤ maxLen) (hw : ∀ x ∈ D, (Lit.int .i64 x).wf = true) (n : Int) (wn : (Lit.int .i64 n).wf = true) :
    ∃ k, laws_FnExactTurnImage.f k w h p D n = some true := by
  refine Ev.rounds (g := fun k => laws_FnExactTurnImage.f k w h p D n) (r := true) ?_
  unfold laws_FnExactTurnImage.f
  obtain ⟨s, hs, hl⟩ := szImage_eq w h p D 1048576 (by omega) hm
  rw [hs]
  simp only [Option.bind_some]
  by_cases c : s < 0
  · exact ev_pos c (Ev.now _)
  refine ev_neg c ?_
  have hn : D.length ≤ 2000000 := by omega
  have h1 := specTurn_ev w h p D n hn
  have h2 : Ev (fun _ => impl_TurnImage.f w h p D n) (turnP w h p D n) := by rw [implTurn_eq]; exact Ev.now _
  have hlen := turnP_length w h p D n
  generalize turnP w h p D n = t at h1 h2 hlen
  obtain ⟨tw, th, tp, E⟩ := t
  simp only at hlen
  repeat (first
    | exact Ev.now _
    | rw [ev_bind_iff (toImage_ev w h p D hn)]
    | rw [ev_bind_iff (h1)]
    | rw [ev_bind_iff (h2)]
    | rw [ev_bind_iff (eqImage_same w h p D hn)]
    | rw [ev_bind_iff (eqImage_same tw th tp E hlen)]
    | rw [ev_bind_iff (markImage_ev w h p D 1 hn (by omega) (by omega))]
    | rw [ev_bind_iff (markImage_ev tw th tp E 1 hlen (by omega) (by omega))]
    | rw [ev_bind_iff (heldImage_ev tw th tp 1 E.length hlen (by omega) (by omega))]
    | refine Ev.step (g := fun k => laws_FnExactTurnImage.j0 k _ _ _ _ _ _ _ _ _ _ _ _ _ _) (fun k => by rw [laws_FnExactTurnImage.j0]) ?_
    | refine ev_pos (by first | rfl | (simp; done) | omega) ?_
    | refine ev_neg (by first | (simp; done) | omega) ?_
    | dsimp only)

end Go.Proofs.Ytibbkaoghbmncaa.Pure
