/- The program's FillImage answers what the reference's answers, leaves its argument alone and returns memory of its own; at all arguments. -/
import Derived.Test.YtegicfkcdmhjgaaLoopI
import Derived.Test.YtegicfkcdmhjgaaFill
import Derived.Test.YtegicfkcdmhjgaaQ8
namespace Go.Proofs.Ytegicfkcdmhjgaa.Pure
open Go.RowKit Go.Proofs.Ytegicfkcdmhjgaa.Q Go.Proofs.Ytegicfkcdmhjgaa.B Go.Proofs.YtegicfkcdmhjgaaW.PrintWords Go.Proofs.YtegicfkcdmhjgaaW.PrintLast Go.Proofs.YtegicfkcdmhjgaaW.PrintMore
set_option linter.unusedVariables false

theorem FnExactFillImage : laws_FnExactFillImage.Pure := by
  intro a b v _ _ _ _ _
  refine Ev.rounds (g := fun k => laws_FnExactFillImage.f k a b v) (r := true) ?_
  unfold laws_FnExactFillImage.f
  by_cases hl : (v.length : Int) > 1048576
  · exact ev_pos hl (Ev.now _)
  refine ev_neg hl ?_
  have hn : v.length ≤ 2000000 := by omega
  have h1 := specFill_ev a b v hn
  have h2 := implFill_ev a b v
  have hlen := fillP_length a b v
  generalize fillP a b v = t at h1 h2 hlen
  obtain ⟨tw, th, tp, E⟩ := t
  simp only at hlen
  repeat (first
    | exact Ev.now _
    | rw [ev_bind_iff (toIntS_ev v hn)]
    | rw [ev_bind_iff (h1)]
    | rw [ev_bind_iff (h2)]
    | rw [ev_bind_iff (eqImage_same tw th tp E hlen)]
    | rw [ev_bind_iff (laws_eqIntS_same v hn)]
    | rw [ev_bind_iff (markIntS_ev v 1 hn (by omega) (by omega))]
    | rw [ev_bind_iff (markImage_ev tw th tp E 1 hlen (by omega) (by omega))]
    | rw [ev_bind_iff (heldImage_ev tw th tp 1 E.length hlen (by omega) (by omega))]
    | refine Ev.step (g := fun k => laws_FnExactFillImage.j0 k _ _ _ _ _ _ _ _ _ _ _ _) (fun k => by rw [laws_FnExactFillImage.j0]) ?_
    | refine ev_pos (by first | rfl | (simp; done) | omega) ?_
    | refine ev_neg (by first | (simp; done) | omega) ?_
    | dsimp only)

end Go.Proofs.Ytegicfkcdmhjgaa.Pure
