/- The cheapest tokens expand to the bytes again and cost no more than the greedy ones or than single bytes; at every code. -/
import Derived.Test.YtckndapolgajfaaLoops
import Derived.Test.YtckndapolgajfaaTokG
import Derived.Test.YtckndapolgajfaaTokB
import Derived.Test.YtckndapolgajfaaTokC
import Derived.Test.YtckndapolgajfaaTokE
import Derived.Test.YtckndapolgajfaaTokQ
import Derived.Test.YtckndapolgajfaaTokDraw
import Derived.Test.YtckndapolgajfaaQ18
namespace Go.Proofs.Ytckndapolgajfaa.Pure
open Go.RowKit Go.Proofs.Ytckndapolgajfaa.Q Go.Proofs.Ytckndapolgajfaa.B Go.Proofs.YtckndapolgajfaaW.PrintWords Go.Proofs.YtckndapolgajfaaW.PrintLast Go.Proofs.YtckndapolgajfaaW.PrintMore
set_option linter.unusedVariables false

theorem spec_DrawBestTokens_ok (l : List Int) (h : ∀ x ∈ l, (Lit.int .u8 x).wf = true) : ∃ v, Ev (fun k => spec_DrawBestTokens.f k l) v ∧ v.length ≤ 300 := by
  obtain ⟨b, hl, hb⟩ := newReader_ok l h
  obtain ⟨v, p', hv, g1, g2, g3⟩ := anyBytes_ok b hb
  refine ⟨v, ?_, g3⟩
  unfold spec_DrawBestTokens.f
  rw [hl]
  simp only [Option.bind_some]
  rw [ev_bind_iff hv]
  exact Ev.now _
theorem FnBestTokens : laws_FnBestTokens.Pure := by
  intro l0 _ _ hw
  refine Ev.rounds (g := fun k => laws_FnBestTokens.f k l0) (r := true) ?_
  unfold laws_FnBestTokens.f
  by_cases hl : (l0.length : Int) > 1048576
  · exact ev_pos hl (Ev.now _)
  refine ev_neg hl ?_
  obtain ⟨l, hd, hn⟩ := spec_DrawBestTokens_ok l0 hw
  have hg := bestP_length l
  rw [ev_bind_iff hd, ev_bind_iff (implBest_ev l), ev_bind_iff (specBest_ev l), ev_bind_iff (equalTokens_same (bestP l) (by omega))]
  refine ev_pos rfl ?_
  refine Ev.step (f := fun k => if (((bestP l).length : Int) == 0) = true then ((spec_BestTokens.f k l).bind fun t => (laws_equalTokens.f k (bestP l) t).bind fun t2 => some t2) else ((impl_ExpandTokens.f k (bestP l)).bind fun bt => (impl_TokenCost.f k (bestP l)).bind fun c => (if bt.2 = true then ((laws_equalInts.f k bt.1 l).bind fun t => (if t = true then ((impl_GreedyTokens.f k l).bind fun g => (impl_TokenCost.f k g).bind fun c2 => (if c ≤ c2 then some (decide (c ≤ wrap64 (9 * (l.length : Int)))) else some false)) else some false)) else some false))) (fun k => by simp only [laws_FnBestTokens.j0]) ?_
  by_cases h0 : (((bestP l).length : Int) == 0) = true
  · refine ev_pos h0 ?_
    rw [ev_bind_iff (specBest_ev l), ev_bind_iff (equalTokens_same (bestP l) (by omega))]
    exact Ev.now _
  · refine ev_neg h0 ?_
    have hb : okBytes l = true := by
      by_cases c : okBytes l = true
      · exact c
      · exfalso
        apply h0
        unfold bestP
        rw [if_neg c]
        rfl
    obtain ⟨b1, b2⟩ := okBytes_ok hb
    have e : bestP l = toks l (bch l) l.length 0 := if_pos hb
    have ht : ∀ ts : List S33, ts.length ≤ 1200 → ts.take 1200 = ts := fun ts h => List.take_of_length_le h
    have hc : cost (bestP l) = cst l 0 := by
      rw [e]
      exact cost_best l l.length 0 (by omega)
    have hi := implCost_ev (bestP l) (by omega)
    rw [ht _ hg, hc] at hi
    have hx : expT (bestP l) [] = (l, true) := by
      rw [e]
      exact exp_toks l (bch l) (fit_b l) b2 b1 l.length 0 (by omega) (by omega)
    have hi2 := implExp_ev (bestP l) (by omega)
    rw [hx] at hi2
    have hgl := greedyP_length l
    have eg : greedyP l = toks l (longest l) l.length 0 := if_pos hb
    have hi3 := implCost_ev (greedyP l) (by omega)
    rw [ht _ hgl] at hi3
    have hle : cst l 0 ≤ cost (greedyP l) := by
      rw [eg]
      exact cost_greedy l l.length 0 (by omega)
    have h9 := (cst_le l l.length 0 (by omega)).1
    rw [ev_bind_iff hi2, ev_bind_iff hi]
    refine ev_pos rfl ?_
    rw [ev_bind_iff (laws_equalInts_same l (by omega))]
    refine ev_pos rfl ?_
    rw [ev_bind_iff (implGreedy_ev l), ev_bind_iff hi3]
    refine ev_pos hle (ev_now ?_)
    rw [w64 (by omega) (by omega)]
    exact decide_eq_true h9

end Go.Proofs.Ytckndapolgajfaa.Pure
