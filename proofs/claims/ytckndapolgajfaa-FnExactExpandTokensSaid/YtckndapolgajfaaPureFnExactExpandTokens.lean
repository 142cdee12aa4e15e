/- The program's ExpandTokens answers what the reference's answers, leaves its argument alone and returns memory of its own; at every list of tokens. -/
import Derived.Test.YtckndapolgajfaaTokO
import Derived.Test.YtckndapolgajfaaTokF
import Derived.Test.YtckndapolgajfaaTokM
import Derived.Test.YtckndapolgajfaaLoops
import Derived.Test.YtckndapolgajfaaQ22
namespace Go.Proofs.Ytckndapolgajfaa.Pure
open Go.RowKit Go.Proofs.Ytckndapolgajfaa.Q Go.Proofs.Ytckndapolgajfaa.B Go.Proofs.YtckndapolgajfaaW.PrintWords Go.Proofs.YtckndapolgajfaaW.PrintLast Go.Proofs.YtckndapolgajfaaW.PrintMore
set_option linter.unusedVariables false

theorem FnExactExpandTokens (l : List S56) (hm : l.length ≤ maxLen) : ∃ k, laws_FnExactExpandTokens.f k l = some true := by
  refine Ev.rounds (g := fun k => laws_FnExactExpandTokens.f k l) (r := true) ?_
  unfold laws_FnExactExpandTokens.f
  obtain ⟨s, hs, hl⟩ := szTokenS_eq l hm
  rw [hs]
  simp only [Option.bind_some]
  by_cases c : s < 0
  · exact ev_pos c (Ev.now _)
  refine ev_neg c ?_
  have hn : l.length ≤ 1500000 := by omega
  have h0 := toTokenS_ev l (by omega)
  have hq : (l.map tokO).length ≤ 1500000 := by rw [List.length_map]; exact hn
  generalize l.map tokO = ts at h0 hq
  have h1 := specExp_ev ts hq
  have h2 := implExp_ev ts hq
  have hx := expT_length ts [] (by simp)
  generalize expT ts [] = v at h1 h2 hx
  obtain ⟨F, ok⟩ := v
  have hlen : F.length ≤ 2000000 := Nat.le_trans hx (by omega)
  repeat (first
    | exact Ev.now _
    | rw [ev_bind_iff (h0)]
    | rw [ev_bind_iff (h1)]
    | rw [ev_bind_iff (h2)]
    | rw [ev_bind_iff (eqTokenS_same ts (by omega))]
    | rw [ev_bind_iff (laws_eqIntS_same F hlen)]
    | rw [ev_bind_iff (markTokenS_ev ts 1 (by omega) (by omega) (by omega))]
    | rw [ev_bind_iff (markIntS_ev F 1 hlen (by omega) (by omega))]
    | rw [ev_bind_iff (heldIntS_ev 1 F.length hlen (by omega) (by omega))]
    | refine Ev.step (g := fun k => laws_FnExactExpandTokens.j0 k _ _ _ _ _ _ _) (fun k => by rw [laws_FnExactExpandTokens.j0]) ?_
    | refine Ev.step (g := fun k => laws_FnExactExpandTokens.j1 k _ _ _ _ _) (fun k => by rw [laws_FnExactExpandTokens.j1]) ?_
    | refine Ev.step (g := fun k => laws_FnExactExpandTokens.j2 k _ _ _) (fun k => by rw [laws_FnExactExpandTokens.j2]) ?_
    | refine ev_pos (by first | rfl | (simp; done) | omega) ?_
    | refine ev_neg (by first | (simp; done) | omega) ?_
    | dsimp only)

end Go.Proofs.Ytckndapolgajfaa.Pure
