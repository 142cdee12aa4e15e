/- The program's PixelAt answers what the reference's answers, leaves its argument alone and returns memory of its own; at every image and place. -/
import Derived.Test.YtegicfkcdmhjgaaLoopI
import Derived.Test.YtegicfkcdmhjgaaPixelS
import Derived.Test.YtegicfkcdmhjgaaQ10
namespace Go.Proofs.Ytegicfkcdmhjgaa.Pure
open Go.RowKit Go.Proofs.Ytegicfkcdmhjgaa.Q Go.Proofs.Ytegicfkcdmhjgaa.B Go.Proofs.YtegicfkcdmhjgaaW.PrintWords Go.Proofs.YtegicfkcdmhjgaaW.PrintLast Go.Proofs.YtegicfkcdmhjgaaW.PrintMore
set_option linter.unusedVariables false

theorem FnExactPixelAt (w h p : Int) (D : List Int) (ww : (Lit.int .i64 w).wf = true) (wh : (Lit.int .i64 h).wf = true) (wp : (Lit.int .i64 p).wf = true) (hm : D.length ≤ maxLen) (hw : ∀ x ∈ D, (Lit.int .i64 x).wf = true) (x : Int) (wx : (Lit.int .i64 x).wf = true) (y : Int) (wy : (Lit.int .i64 y).wf = true) :
    ∃ k, laws_FnExactPixelAt.f k w h p D x y = some true := by
  refine Ev.rounds (g := fun k => laws_FnExactPixelAt.f k w h p D x y) (r := true) ?_
  unfold laws_FnExactPixelAt.f
  obtain ⟨s, hs, hl⟩ := szImage_eq w h p D 1048576 (by omega) hm
  rw [hs]
  simp only [Option.bind_some]
  by_cases c : s < 0
  · exact ev_pos c (Ev.now _)
  refine ev_neg c ?_
  have hn : D.length ≤ 2000000 := by omega
  have h1 := specPixel_ev w h p D x y hn
  have h2 : Ev (fun _ => impl_PixelAt.f w h p D x y) (pixelP w h p D x y) := by rw [implPixel_eq]; exact Ev.now _
  have hlen := pixelP_length w h p D x y
  generalize pixelP w h p D x y = E at h1 h2 hlen
  repeat (first
    | exact Ev.now _
    | rw [ev_bind_iff (toImage_ev w h p D hn)]
    | rw [ev_bind_iff (h1)]
    | rw [ev_bind_iff (h2)]
    | rw [ev_bind_iff (laws_eqIntS_same E hlen)]
    | rw [ev_bind_iff (eqImage_same w h p D hn)]
    | rw [ev_bind_iff (markImage_ev w h p D 1 hn (by omega) (by omega))]
    | rw [ev_bind_iff (markIntS_ev E 1 hlen (by omega) (by omega))]
    | rw [ev_bind_iff (heldIntS_ev 1 E.length hlen (by omega) (by omega))]
    | refine Ev.step (g := fun k => laws_FnExactPixelAt.j0 k _ _ _ _ _ _ _ _ _) (fun k => by rw [laws_FnExactPixelAt.j0]) ?_
    | refine ev_pos (by first | rfl | (simp; done) | omega) ?_
    | refine ev_neg (by first | (simp; done) | omega) ?_
    | dsimp only)

end Go.Proofs.Ytegicfkcdmhjgaa.Pure
