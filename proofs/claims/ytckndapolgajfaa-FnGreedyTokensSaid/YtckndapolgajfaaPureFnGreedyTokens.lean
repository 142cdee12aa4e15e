/- The tokens expand to the bytes again; at every code. -/
import Derived.Test.YtckndapolgajfaaLoops
import Derived.Test.YtckndapolgajfaaTokG
import Derived.Test.YtckndapolgajfaaTokE
import Derived.Test.YtckndapolgajfaaTokQ
import Derived.Test.YtckndapolgajfaaTokDraw
import Derived.Test.YtckndapolgajfaaQ27
namespace Go.Proofs.Ytckndapolgajfaa.Pure
open Go.RowKit Go.Proofs.Ytckndapolgajfaa.Q Go.Proofs.Ytckndapolgajfaa.B Go.Proofs.YtckndapolgajfaaW.PrintWords Go.Proofs.YtckndapolgajfaaW.PrintLast Go.Proofs.YtckndapolgajfaaW.PrintMore
set_option linter.unusedVariables false

theorem spec_DrawGreedyTokens_ok (l : List Int) (h : ∀ x ∈ l, (Lit.int .u8 x).wf = true) : ∃ v, Ev (fun k => spec_DrawGreedyTokens.f k l) v ∧ v.length ≤ 300 := by
  obtain ⟨b, hl, hb⟩ := newReader_ok l h
  obtain ⟨v, p', hv, g1, g2, g3⟩ := anyBytes_ok b hb
  refine ⟨v, ?_, g3⟩
  unfold spec_DrawGreedyTokens.f
  rw [hl]
  simp only [Option.bind_some]
  rw [ev_bind_iff hv]
  exact Ev.now _
theorem FnGreedyTokens : laws_FnGreedyTokens.Pure := by
  intro l0 _ _ hw
  refine Ev.rounds (g := fun k => laws_FnGreedyTokens.f k l0) (r := true) ?_
  unfold laws_FnGreedyTokens.f
  by_cases hl : (l0.length : Int) > 1048576
  · exact ev_pos hl (Ev.now _)
  refine ev_neg hl ?_
  obtain ⟨l, hd, hn⟩ := spec_DrawGreedyTokens_ok l0 hw
  have hg := greedyP_length l
  rw [ev_bind_iff hd, ev_bind_iff (implGreedy_ev l), ev_bind_iff (specGreedy_ev l), ev_bind_iff (equalTokens_same (greedyP l) (by omega))]
  refine ev_pos rfl ?_
  refine Ev.step (f := fun k => if (((greedyP l).length : Int) == 0) = true then ((spec_GreedyTokens.f k l).bind fun t => (laws_equalTokens.f k (greedyP l) t).bind fun t2 => some t2) else ((impl_ExpandTokens.f k (greedyP l)).bind fun bt => (if bt.2 = true then ((laws_equalInts.f k bt.1 l).bind fun t => some t) else some false))) (fun k => by simp only [laws_FnGreedyTokens.j0]) ?_
  by_cases h0 : (((greedyP l).length : Int) == 0) = true
  · refine ev_pos h0 ?_
    rw [ev_bind_iff (specGreedy_ev l), ev_bind_iff (equalTokens_same (greedyP l) (by omega))]
    exact Ev.now _
  · refine ev_neg h0 ?_
    have hb : okBytes l = true := by
      by_cases c : okBytes l = true
      · exact c
      · exfalso
        apply h0
        unfold greedyP
        rw [if_neg c]
        rfl
    obtain ⟨b1, b2⟩ := okBytes_ok hb
    have e : greedyP l = toks l (longest l) l.length 0 := if_pos hb
    have hx : expT (greedyP l) [] = (l, true) := by
      rw [e]
      exact exp_toks l (longest l) (fit_g l) b2 b1 l.length 0 (by omega) (by omega)
    have hi := implExp_ev (greedyP l) (by omega)
    rw [hx] at hi
    rw [ev_bind_iff hi]
    refine ev_pos rfl ?_
    rw [ev_bind_iff (laws_equalInts_same l (by omega))]
    exact Ev.now _

end Go.Proofs.Ytckndapolgajfaa.Pure
