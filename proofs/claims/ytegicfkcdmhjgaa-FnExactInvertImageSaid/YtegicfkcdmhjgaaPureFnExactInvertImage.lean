/- The program's InvertImage answers what the reference's answers, leaves its argument alone and returns memory of its own; at every image. -/
import Derived.Test.YtegicfkcdmhjgaaLoopI
import Derived.Test.YtegicfkcdmhjgaaInvert
import Derived.Test.YtegicfkcdmhjgaaQ9
namespace Go.Proofs.Ytegicfkcdmhjgaa.Pure
open Go.RowKit Go.Proofs.Ytegicfkcdmhjgaa.Q Go.Proofs.Ytegicfkcdmhjgaa.B Go.Proofs.YtegicfkcdmhjgaaW.PrintWords Go.Proofs.YtegicfkcdmhjgaaW.PrintLast Go.Proofs.YtegicfkcdmhjgaaW.PrintMore
set_option linter.unusedVariables false

theorem FnExactInvertImage (w h p : Int) (D : List Int) (ww : (Lit.int .i64 w).wf = true) (wh : (Lit.int .i64 h).wf = true) (wp : (Lit.int .i64 p).wf = true) (hm : D.length ≤ maxLen) (hw : ∀ x ∈ D, (Lit.int .i64 x).wf = true) :
    ∃ k, laws_FnExactInvertImage.f k w h p D = some true := by
  refine Ev.rounds (g := fun k => laws_FnExactInvertImage.f k w h p D) (r := true) ?_
  unfold laws_FnExactInvertImage.f
  obtain ⟨s, hs, hl⟩ := szImage_eq w h p D 1048576 (by omega) hm
  rw [hs]
  simp only [Option.bind_some]
  by_cases c : s < 0
  · exact ev_pos c (Ev.now _)
  refine ev_neg c ?_
  have hn : D.length ≤ 2000000 := by omega
  have h1 := specInvert_ev w h p D hn
  have h2 : Ev (fun _ => impl_InvertImage.f w h p D) (invertP w h p D) := by rw [implInvert_eq]; exact Ev.now _
  have hlen := invertP_length w h p D hn
  generalize invertP w h p D = t at h1 h2 hlen
  obtain ⟨tw, th, tp, E⟩ := t
  simp only at hlen
  repeat (first
    | exact Ev.now _
    | rw [ev_bind_iff (toImage_ev w h p D hn)]
    | rw [ev_bind_iff (h1)]
    | rw [ev_bind_iff (h2)]
    | rw [ev_bind_iff (eqImage_same w h p D hn)]
    | rw [ev_bind_iff (eqImage_same tw th tp E hlen)]
    | rw [ev_bind_iff (markImage_ev w h p D 1 hn (by omega) (by omega))]
    | rw [ev_bind_iff (markImage_ev tw th tp E 1 hlen (by omega) (by omega))]
    | rw [ev_bind_iff (heldImage_ev tw th tp 1 E.length hlen (by omega) (by omega))]
    | refine Ev.step (g := fun k => laws_FnExactInvertImage.j0 k _ _ _ _ _ _ _ _ _ _ _ _ _) (fun k => by rw [laws_FnExactInvertImage.j0]) ?_
    | refine ev_pos (by first | rfl | (simp; done) | omega) ?_
    | refine ev_neg (by first | (simp; done) | omega) ?_
    | dsimp only)

end Go.Proofs.Ytegicfkcdmhjgaa.Pure
