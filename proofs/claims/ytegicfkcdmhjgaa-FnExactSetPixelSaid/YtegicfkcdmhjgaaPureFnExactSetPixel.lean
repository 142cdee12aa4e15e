/- The program's SetPixel answers what the reference's answers, leaves its arguments alone and returns memory of its own; at all arguments. -/
import Derived.Test.YtegicfkcdmhjgaaLoopI
import Derived.Test.YtegicfkcdmhjgaaSet
import Derived.Test.YtegicfkcdmhjgaaQ4
namespace Go.Proofs.Ytegicfkcdmhjgaa.Pure
open Go.RowKit Go.Proofs.Ytegicfkcdmhjgaa.Q Go.Proofs.Ytegicfkcdmhjgaa.B Go.Proofs.YtegicfkcdmhjgaaW.PrintWords Go.Proofs.YtegicfkcdmhjgaaW.PrintLast Go.Proofs.YtegicfkcdmhjgaaW.PrintMore
set_option linter.unusedVariables false

theorem FnExactSetPixel (w h p : Int) (D : List Int) (ww : (Lit.int .i64 w).wf = true) (wh : (Lit.int .i64 h).wf = true) (wp : (Lit.int .i64 p).wf = true) (hm : D.length ≤ maxLen) (hw : ∀ x ∈ D, (Lit.int .i64 x).wf = true) (x : Int) (wx : (Lit.int .i64 x).wf = true) (y : Int) (wy : (Lit.int .i64 y).wf = true) (v : List Int) (hmv : v.length ≤ maxLen) (hwv : ∀ x ∈ v, (Lit.int .i64 x).wf = true) :
    ∃ k, laws_FnExactSetPixel.f k w h p D x y v = some true := by
  refine Ev.rounds (g := fun k => laws_FnExactSetPixel.f k w h p D x y v) (r := true) ?_
  unfold laws_FnExactSetPixel.f
  by_cases hl0 : (v.length : Int) > 1048576
  · exact ev_pos hl0 (Ev.now _)
  refine ev_neg hl0 ?_
  obtain ⟨s, hs, hl⟩ := szImage_eq w h p D 1048576 (by omega) hm
  rw [hs]
  simp only [Option.bind_some]
  by_cases c : s < 0
  · exact ev_pos c (Ev.now _)
  refine ev_neg c ?_
  have hn : D.length ≤ 2000000 := by omega
  have hn2 : v.length ≤ 2000000 := by omega
  have h1 := specSet_ev w h p D x y v hn hn2
  have h2 : Ev (fun _ => impl_SetPixel.f w h p D x y v) (setP w h p D x y v) := by rw [implSet_eq]; exact Ev.now _
  have hlen := setP_length w h p D x y v
  generalize setP w h p D x y v = t at h1 h2 hlen
  obtain ⟨tw, th, tp, F, ok⟩ := t
  simp only at hlen
  have hm1 : 1 + (D.length : Int) ≤ 1000000000 := by omega
  repeat (first
    | exact Ev.now _
    | rw [ev_bind_iff (toImage_ev w h p D hn)]
    | rw [ev_bind_iff (toIntS_ev v hn2)]
    | rw [ev_bind_iff (h1)]
    | rw [ev_bind_iff (h2)]
    | rw [ev_bind_iff (eqImage_same w h p D hn)]
    | rw [ev_bind_iff (laws_eqIntS_same v hn2)]
    | rw [ev_bind_iff (eqImage_same tw th tp F hlen)]
    | rw [ev_bind_iff (markImage_ev w h p D 1 hn (by omega) (by omega))]
    | rw [ev_bind_iff (markIntS_ev v (1 + (D.length : Int)) hn2 (by omega) hm1)]
    | rw [ev_bind_iff (markImage_ev tw th tp F 1 hlen (by omega) (by omega))]
    | rw [ev_bind_iff (heldImage_ev tw th tp 1 F.length hlen (by omega) (by omega))]
    | refine Ev.step (g := fun k => laws_FnExactSetPixel.j0 k _ _ _ _ _ _ _ _ _ _ _ _ _ _ _ _ _ _ _ _ _ _ _) (fun k => by rw [laws_FnExactSetPixel.j0]) ?_
    | refine Ev.step (g := fun k => laws_FnExactSetPixel.j1 k _ _ _ _ _ _ _ _ _ _ _ _ _ _ _ _ _) (fun k => by rw [laws_FnExactSetPixel.j1]) ?_
    | refine Ev.step (g := fun k => laws_FnExactSetPixel.j2 k _ _ _ _ _ _) (fun k => by rw [laws_FnExactSetPixel.j2]) ?_
    | refine ev_pos (by first | rfl | (simp; done) | omega) ?_
    | refine ev_neg (by first | (simp; done) | omega) ?_
    | dsimp only)

end Go.Proofs.Ytegicfkcdmhjgaa.Pure
