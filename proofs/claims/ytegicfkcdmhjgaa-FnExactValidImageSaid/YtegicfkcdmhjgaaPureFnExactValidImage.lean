/- The program's ValidImage answers what the reference's answers and leaves its argument alone; at every image. -/
import Derived.Test.YtegicfkcdmhjgaaLoopI
import Derived.Test.YtegicfkcdmhjgaaSpecI
import Derived.Test.YtegicfkcdmhjgaaQ11
namespace Go.Proofs.Ytegicfkcdmhjgaa.Pure
open Go.RowKit Go.Proofs.Ytegicfkcdmhjgaa.Q Go.Proofs.Ytegicfkcdmhjgaa.B Go.Proofs.YtegicfkcdmhjgaaW.PrintWords Go.Proofs.YtegicfkcdmhjgaaW.PrintLast Go.Proofs.YtegicfkcdmhjgaaW.PrintMore
set_option linter.unusedVariables false

theorem FnExactValidImage (w h p : Int) (D : List Int) (ww : (Lit.int .i64 w).wf = true) (wh : (Lit.int .i64 h).wf = true) (wp : (Lit.int .i64 p).wf = true) (hm : D.length ≤ maxLen) (hw : ∀ x ∈ D, (Lit.int .i64 x).wf = true) :
    ∃ k, laws_FnExactValidImage.f k w h p D = some true := by
  refine Ev.rounds (g := fun k => laws_FnExactValidImage.f k w h p D) (r := true) ?_
  unfold laws_FnExactValidImage.f
  obtain ⟨s, hs, hl⟩ := szImage_eq w h p D 1048576 (by omega) hm
  rw [hs]
  simp only [Option.bind_some]
  by_cases c : s < 0
  · exact ev_pos c (Ev.now _)
  refine ev_neg c ?_
  have hn : D.length ≤ 2000000 := by omega
  have h1 : Ev (fun k => spec_ValidImage.f k w h p D) (okImg w h p D) := by
    unfold spec_ValidImage.f
    rw [ev_bind_iff (validImage_ev w h p D hn)]
    exact Ev.now _
  have h2 : Ev (fun _ => impl_ValidImage.f w h p D) (okImg w h p D) := by
    unfold impl_ValidImage.f
    rw [isImage_ok]
    exact Ev.now _
  generalize okImg w h p D = t at h1 h2
  repeat (first
    | exact Ev.now _
    | rw [ev_bind_iff (toImage_ev w h p D hn)]
    | rw [ev_bind_iff (h1)]
    | rw [ev_bind_iff (h2)]
    | rw [ev_bind_iff (eqImage_same w h p D hn)]
    | refine ev_pos (by first | rfl | (simp; done) | omega) ?_
    | refine ev_neg (by first | (simp; done) | omega) ?_
    | dsimp only)

end Go.Proofs.Ytegicfkcdmhjgaa.Pure
