/- The program's codes are the reference's, the argument is left alone and the memory is new; at every list. -/
import Derived.Test.YtepifjggnfaeoaaLoopsX
import Derived.Test.YtepifjggnfaeoaaCanonI
import Derived.Test.YtepifjggnfaeoaaQ2
namespace Go.Proofs.Ytepifjggnfaeoaa.Pure
open Go.RowKit Go.Proofs.Ytepifjggnfaeoaa.Q Go.Proofs.Ytepifjggnfaeoaa.B Go.Proofs.YtepifjggnfaeoaaW.PrintWords Go.Proofs.YtepifjggnfaeoaaW.PrintLast Go.Proofs.YtepifjggnfaeoaaW.PrintMore
set_option linter.unusedVariables false

theorem FnExactCanonicalCodes : laws_FnExactCanonicalCodes.Pure := by
  intro l _ _ _
  refine Ev.rounds (g := fun k => laws_FnExactCanonicalCodes.f k l) (r := true) ?_
  unfold laws_FnExactCanonicalCodes.f
  by_cases hl : (l.length : Int) > 1048576
  · exact ev_pos hl (Ev.now _)
  refine ev_neg hl ?_
  have hn : l.length ≤ 2000000 := by omega
  have h1 := specCanon_ev l hn
  have h2 := implCanon_ev l
  have hlen := canonP_length l
  generalize canonP l = E at h1 h2 hlen
  repeat (first
    | exact Ev.now _
    | rw [ev_bind_iff (toIntS_ev l hn)]
    | rw [ev_bind_iff (h1)]
    | rw [ev_bind_iff (h2)]
    | rw [ev_bind_iff (laws_eqIntS_same E hlen)]
    | rw [ev_bind_iff (laws_eqIntS_same l hn)]
    | rw [ev_bind_iff (markIntS_ev l 1 hn (by omega) (by omega))]
    | rw [ev_bind_iff (markIntS_ev E 1 hlen (by omega) (by omega))]
    | rw [ev_bind_iff (heldIntS_ev 1 E.length hlen (by omega) (by omega))]
    | refine Ev.step (g := fun k => laws_FnExactCanonicalCodes.j0 k _ _ _ _) (fun k => by rw [laws_FnExactCanonicalCodes.j0]) ?_
    | refine ev_pos (by first | rfl | (simp; done) | omega) ?_
    | refine ev_neg (by first | (simp; done) | omega) ?_
    | dsimp only)

end Go.Proofs.Ytepifjggnfaeoaa.Pure
