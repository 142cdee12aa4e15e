/- What tokens cost is the sum over their halves; at every code. -/
import Derived.Test.YtckndapolgajfaaTokD
import Derived.Test.YtckndapolgajfaaTokDrawT
import Derived.Test.YtckndapolgajfaaQ30
namespace Go.Proofs.Ytckndapolgajfaa.Pure
open Go.RowKit Go.Proofs.Ytckndapolgajfaa.Q Go.Proofs.Ytckndapolgajfaa.B Go.Proofs.YtckndapolgajfaaW.PrintWords Go.Proofs.YtckndapolgajfaaW.PrintLast Go.Proofs.YtckndapolgajfaaW.PrintMore
set_option linter.unusedVariables false

theorem spec_DrawTokenCost_ok (l : List Int) (h : ∀ x ∈ l, (Lit.int .u8 x).wf = true) : ∃ v, Ev (fun k => spec_DrawTokenCost.f k l) v ∧ v.length ≤ 1200 := by
  obtain ⟨b, hl, hb⟩ := newReader_ok l h
  obtain ⟨v, p', hv, g3⟩ := anyTokens_ok b hb
  refine ⟨v, ?_, g3⟩
  unfold spec_DrawTokenCost.f
  rw [hl]
  simp only [Option.bind_some]
  rw [ev_bind_iff hv]
  exact Ev.now _
theorem FnTokenCost : laws_FnTokenCost.Pure := by
  intro l0 _ _ hw
  refine Ev.rounds (g := fun k => laws_FnTokenCost.f k l0) (r := true) ?_
  unfold laws_FnTokenCost.f
  by_cases hl : (l0.length : Int) > 1048576
  · exact ev_pos hl (Ev.now _)
  refine ev_neg hl ?_
  obtain ⟨ts, hd, hn⟩ := spec_DrawTokenCost_ok l0 hw
  have ht : ∀ us : List S33, us.length ≤ 1200 → Ev (fun k => impl_TokenCost.f k us) (cost us) := fun us h => by
    have hi := implCost_ev us (by omega)
    rw [List.take_of_length_le h] at hi
    exact hi
  have hs := specCost_ev ts (by omega)
  rw [List.take_of_length_le hn] at hs
  rw [ev_bind_iff hd, ev_bind_iff (ht ts hn), ev_bind_iff hs]
  refine ev_pos rfl ?_
  have h12 : ¬ (ts.length : Int) > 1200 := by omega
  rw [decide_eq_false h12]
  have e2 : wrap64 ((ts.length : Int) / 2) = ((ts.length / 2 : Nat) : Int) := by rw [w64 (by omega) (by omega)]; omega
  have h3 : ((ts.length / 2 : Nat) : Int) ≤ (ts.length : Int) := by omega
  have hc1 := cost_bound (ts.take (ts.length / 2))
  have hc2 := cost_bound (ts.drop (ts.length / 2))
  have ha := cost_append (ts.take (ts.length / 2)) (ts.drop (ts.length / 2))
  rw [List.take_append_drop] at ha
  have l1 : (ts.take (ts.length / 2)).length ≤ 1200 := by rw [List.length_take]; omega
  have l2 : (ts.drop (ts.length / 2)).length ≤ 1200 := by rw [List.length_drop]; omega
  refine Ev.step (f := fun k => (impl_TokenCost.f k (ts.take (ts.length / 2))).bind fun a => (impl_TokenCost.f k (ts.drop (ts.length / 2))).bind fun b => some (wrap64 (a + b) == cost ts)) (fun k => ?_) ?_
  · simp only [laws_FnTokenCost.j0, Bool.false_eq_true, if_false, e2, Int.toNat_natCast]
    rw [if_pos (Int.natCast_nonneg _), if_pos h3]
  · rw [ev_bind_iff (ht _ l1), ev_bind_iff (ht _ l2)]
    refine ev_now ?_
    rw [w64 (by omega) (by omega), ha]
    simp

end Go.Proofs.Ytckndapolgajfaa.Pure
