/- What the reference draws for a pixel: an image and a place. No conditions. -/
import Derived.Test.YtegicfkcdmhjgaaDrawI
import Derived.Test.YtegicfkcdmhjgaaQ13
namespace Go.Proofs.Ytegicfkcdmhjgaa.B
open Go.RowKit Go.Proofs.Ytegicfkcdmhjgaa.Q Go.Proofs.YtegicfkcdmhjgaaW.PrintWords Go.Proofs.YtegicfkcdmhjgaaW.PrintLast Go.Proofs.YtegicfkcdmhjgaaW.PrintMore
set_option linter.unusedVariables false

theorem DrawPixel_ok (l : List Int) (h : ∀ x ∈ l, (Lit.int .u8 x).wf = true) : ∃ w h p D x y, Ev (fun k => spec_DrawPixelAt.f k l) (w, h, p, D, x, y) ∧ D.length ≤ 256 := by
  obtain ⟨b, hl, hb⟩ := newReader_ok l h
  obtain ⟨w, h, p, D, q, hq, hD, q0, q1⟩ := anyImage_ok b hb 0 (by omega) (by omega)
  obtain ⟨x, hx, _⟩ := one_ok b q [0, 1, 2, 3, 5, 7, -1, 15, 16] hb (by omega) (by omega) (by simp)
  obtain ⟨y, hy, _⟩ := one_ok b (q + 1) [0, 1, 2, 3, 5, 7, -1, 15, 16] hb (by omega) (by omega) (by simp)
  have px : Ev (fun k => spec_anyPlace.f k b q) (x, q + 1) := by
    unfold spec_anyPlace.f
    rw [ev_bind_iff hx]
    exact Ev.now _
  have py : Ev (fun k => spec_anyPlace.f k b (q + 1)) (y, q + 1 + 1) := by
    unfold spec_anyPlace.f
    rw [ev_bind_iff hy]
    exact Ev.now _
  refine ⟨w, h, p, D, x, y, ?_, hD⟩
  unfold spec_DrawPixelAt.f
  rw [hl]
  simp only [Option.bind_some]
  rw [ev_bind_iff hq, ev_bind_iff px, ev_bind_iff py]
  exact Ev.now _

end Go.Proofs.Ytegicfkcdmhjgaa.B
