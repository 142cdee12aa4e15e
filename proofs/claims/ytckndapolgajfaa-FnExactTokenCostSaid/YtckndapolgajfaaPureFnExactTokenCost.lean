/- The program's TokenCost answers what the reference's answers and leaves its argument alone; at every list of tokens. -/
import Derived.Test.YtckndapolgajfaaTokO
import Derived.Test.YtckndapolgajfaaTokD
import Derived.Test.YtckndapolgajfaaTokM
import Derived.Test.YtckndapolgajfaaQ25
namespace Go.Proofs.Ytckndapolgajfaa.Pure
open Go.RowKit Go.Proofs.Ytckndapolgajfaa.Q Go.Proofs.Ytckndapolgajfaa.B Go.Proofs.YtckndapolgajfaaW.PrintWords Go.Proofs.YtckndapolgajfaaW.PrintLast Go.Proofs.YtckndapolgajfaaW.PrintMore
set_option linter.unusedVariables false

theorem FnExactTokenCost (l : List S56) (hm : l.length ≤ maxLen) : ∃ k, laws_FnExactTokenCost.f k l = some true := by
  refine Ev.rounds (g := fun k => laws_FnExactTokenCost.f k l) (r := true) ?_
  unfold laws_FnExactTokenCost.f
  obtain ⟨s, hs, hl⟩ := szTokenS_eq l hm
  rw [hs]
  simp only [Option.bind_some]
  by_cases c : s < 0
  · exact ev_pos c (Ev.now _)
  refine ev_neg c ?_
  have hn : l.length ≤ 2000000 := by omega
  have h0 := toTokenS_ev l hn
  have hq : (l.map tokO).length ≤ 2000000 := by rw [List.length_map]; exact hn
  generalize l.map tokO = ts at h0 hq
  have h1 := specCost_ev ts hq
  have h2 := implCost_ev ts hq
  generalize cost (ts.take 1200) = v at h1 h2
  repeat (first
    | exact Ev.now _
    | rw [ev_bind_iff (h0)]
    | rw [ev_bind_iff (h1)]
    | rw [ev_bind_iff (h2)]
    | rw [ev_bind_iff (eqTokenS_same ts hq)]
    | refine ev_pos (by first | rfl | (simp; done) | omega) ?_
    | refine ev_neg (by first | (simp; done) | omega) ?_
    | dsimp only)

end Go.Proofs.Ytckndapolgajfaa.Pure
