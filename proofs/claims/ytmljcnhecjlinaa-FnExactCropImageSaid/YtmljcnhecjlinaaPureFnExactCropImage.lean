/- The program's CropImage answers what the reference's answers, leaves its arguments alone and returns memory of its own; at every image and box. -/
import Derived.Test.YtmljcnhecjlinaaLoopI
import Derived.Test.YtmljcnhecjlinaaCrop
import Derived.Test.YtmljcnhecjlinaaQ15
namespace Go.Proofs.Ytmljcnhecjlinaa.Pure
open Go.RowKit Go.Proofs.Ytmljcnhecjlinaa.Q Go.Proofs.Ytmljcnhecjlinaa.B Go.Proofs.YtmljcnhecjlinaaW.PrintWords Go.Proofs.YtmljcnhecjlinaaW.PrintLast Go.Proofs.YtmljcnhecjlinaaW.PrintMore
set_option linter.unusedVariables false

theorem FnExactCropImage (w h p : Int) (D : List Int) (ww : (Lit.int .i64 w).wf = true) (wh : (Lit.int .i64 h).wf = true) (wp : (Lit.int .i64 p).wf = true) (hm : D.length ≤ maxLen) (hw : ∀ x ∈ D, (Lit.int .i64 x).wf = true) (x y bw bh : Int) (wx : (Lit.int .i64 x).wf = true) (wy : (Lit.int .i64 y).wf = true) (wbw : (Lit.int .i64 bw).wf = true) (wbh : (Lit.int .i64 bh).wf = true) :
    ∃ k, laws_FnExactCropImage.f k w h p D x y bw bh = some true := by
  refine Ev.rounds (g := fun k => laws_FnExactCropImage.f k w h p D x y bw bh) (r := true) ?_
  unfold laws_FnExactCropImage.f
  obtain ⟨s, hs, hl⟩ := szImage_eq w h p D 1048576 (by omega) hm
  rw [hs]
  simp only [Option.bind_some]
  by_cases c : s < 0
  · exact ev_pos c (Ev.now _)
  refine ev_neg c ?_
  have hn : D.length ≤ 2000000 := by omega
  have h1 := specCrop_ev w h p D x y bw bh hn
  have h2 : Ev (fun _ => impl_CropImage.f w h p D x y bw bh) (cropP w h p D x y bw bh) := by rw [implCrop_eq]; exact Ev.now _
  have hlen := cropP_length w h p D x y bw bh
  generalize cropP w h p D x y bw bh = t at h1 h2 hlen
  obtain ⟨tw, th, tp, E, ok⟩ := t
  simp only at hlen
  have hne : (ok != ok) = false := by simp
  repeat (first
    | exact Ev.now _
    | rw [ev_bind_iff (toImage_ev w h p D hn)]
    | rw [ev_bind_iff (toBox_ev x y bw bh)]
    | rw [ev_bind_iff (h1)]
    | rw [ev_bind_iff (h2)]
    | rw [ev_bind_iff (eqImage_same w h p D hn)]
    | rw [ev_bind_iff (eqImage_same tw th tp E hlen)]
    | rw [ev_bind_iff (markImage_ev w h p D 1 hn (by omega) (by omega))]
    | rw [ev_bind_iff (markImage_ev tw th tp E 1 hlen (by omega) (by omega))]
    | rw [ev_bind_iff (heldImage_ev tw th tp 1 E.length hlen (by omega) (by omega))]
    | refine Ev.step (g := fun k => laws_FnExactCropImage.j0 k _ _ _ _ _ _ _ _ _ _ _ _ _ _ _ _ _ _ _ _ _ _ _) (fun k => by rw [laws_FnExactCropImage.j0]) ?_
    | refine Ev.step (g := fun k => laws_FnExactCropImage.j1 k _ _ _ _ _ _ _ _ _ _ _ _ _ _ _ _ _ _) (fun k => by rw [laws_FnExactCropImage.j1]) ?_
    | refine Ev.step (g := fun k => laws_FnExactCropImage.j2 k _ _ _ _ _ _) (fun k => by rw [laws_FnExactCropImage.j2]) ?_
    | refine ev_pos (by first | rfl | (simp; done) | omega) ?_
    | refine ev_neg (by first | (simp; done) | omega) ?_
    | dsimp only)

end Go.Proofs.Ytmljcnhecjlinaa.Pure
