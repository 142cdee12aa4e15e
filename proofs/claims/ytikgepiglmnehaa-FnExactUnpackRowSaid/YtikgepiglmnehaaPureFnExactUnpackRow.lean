/- The program's UnpackRow answers what the reference's answers, leaves its arguments alone and returns memory of its own; at every list, depth and count. -/
import Derived.Test.YtikgepiglmnehaaUnpack
import Derived.Test.YtikgepiglmnehaaQ8
namespace Go.Proofs.Ytikgepiglmnehaa.Pure
open Go.RowKit Go.Proofs.Ytikgepiglmnehaa.Q Go.Proofs.Ytikgepiglmnehaa.B Go.Proofs.YtikgepiglmnehaaW.PrintWords Go.Proofs.YtikgepiglmnehaaW.PrintLast Go.Proofs.YtikgepiglmnehaaW.PrintMore
set_option linter.unusedVariables false

theorem FnExactUnpackRow : laws_FnExactUnpackRow.Pure := by
  intro l d c _ _ _ _ _
  refine Ev.rounds (g := fun k => laws_FnExactUnpackRow.f k l d c) (r := true) ?_
  unfold laws_FnExactUnpackRow.f
  by_cases hl : (l.length : Int) > 1048576
  · exact ev_pos hl (Ev.now _)
  refine ev_neg hl ?_
  have hn : l.length ≤ 2000000 := by omega
  have h1 := specUnpack_ev l d c hn
  have h2 := implUnpack_ev l d c hn
  have hlen : (unpackP l d c).1.length ≤ 64 := by
    unfold unpackP
    split
    · rename_i h
      have := h.1
      unfold okUn at this
      simp only [Bool.and_eq_true, decide_eq_true_eq] at this
      rw [unpk_length]
      omega
    · simp
  cases e : unpackP l d c with
  | mk o ok =>
  rw [e] at h1 h2 hlen
  simp only at hlen
  have hp : o.length ≤ 2000000 := by omega
  have hne : (ok != ok) = false := by simp
  repeat (first
    | exact Ev.now _
    | rw [ev_bind_iff (toIntS_ev l hn)]
    | rw [ev_bind_iff (h1)]
    | rw [ev_bind_iff (h2)]
    | rw [ev_bind_iff (laws_eqIntS_same l hn)]
    | rw [ev_bind_iff (laws_eqIntS_same o hp)]
    | rw [ev_bind_iff (markIntS_ev l 1 hn (by omega) (by omega))]
    | rw [ev_bind_iff (markIntS_ev o 1 hp (by omega) (by omega))]
    | rw [ev_bind_iff (heldIntS_ev 1 o.length hp (by omega) (by omega))]
    | refine Ev.step (g := fun k => laws_FnExactUnpackRow.j0 k _ _ _ _ _ _ _ _ _) (fun k => by rw [laws_FnExactUnpackRow.j0]) ?_
    | refine Ev.step (g := fun k => laws_FnExactUnpackRow.j1 k _ _ _ _ _ _ _) (fun k => by rw [laws_FnExactUnpackRow.j1]) ?_
    | refine Ev.step (g := fun k => laws_FnExactUnpackRow.j2 k _ _ _) (fun k => by rw [laws_FnExactUnpackRow.j2]) ?_
    | refine ev_pos (by first | rfl | (simp; done) | omega) ?_
    | refine ev_neg (by first | (simp; done) | omega) ?_
    | dsimp only)

end Go.Proofs.Ytikgepiglmnehaa.Pure
