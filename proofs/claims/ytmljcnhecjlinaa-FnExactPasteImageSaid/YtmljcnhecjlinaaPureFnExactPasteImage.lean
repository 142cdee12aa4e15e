/- The program's PasteImage answers what the reference's answers, leaves its arguments alone and returns memory of its own; at every two images and place. -/
import Derived.Test.YtmljcnhecjlinaaLoopI
import Derived.Test.YtmljcnhecjlinaaPasteS
import Derived.Test.YtmljcnhecjlinaaQ16
namespace Go.Proofs.Ytmljcnhecjlinaa.Pure
open Go.RowKit Go.Proofs.Ytmljcnhecjlinaa.Q Go.Proofs.Ytmljcnhecjlinaa.B Go.Proofs.YtmljcnhecjlinaaW.PrintWords Go.Proofs.YtmljcnhecjlinaaW.PrintLast Go.Proofs.YtmljcnhecjlinaaW.PrintMore
set_option linter.unusedVariables false

theorem FnExactPasteImage (w h p : Int) (D : List Int) (ww : (Lit.int .i64 w).wf = true) (wh : (Lit.int .i64 h).wf = true) (wp : (Lit.int .i64 p).wf = true) (hm : D.length ≤ maxLen) (hw : ∀ x ∈ D, (Lit.int .i64 x).wf = true) (x : Int) (wx : (Lit.int .i64 x).wf = true) (y : Int) (wy : (Lit.int .i64 y).wf = true) (pw ph pp : Int) (E : List Int) (wpw : (Lit.int .i64 pw).wf = true) (wph : (Lit.int .i64 ph).wf = true) (wpp : (Lit.int .i64 pp).wf = true) (hmE : E.length ≤ maxLen) (hwE : ∀ x ∈ E, (Lit.int .i64 x).wf = true) :
    ∃ k, laws_FnExactPasteImage.f k w h p D x y pw ph pp E = some true := by
  refine Ev.rounds (g := fun k => laws_FnExactPasteImage.f k w h p D x y pw ph pp E) (r := true) ?_
  unfold laws_FnExactPasteImage.f
  obtain ⟨s, hs, hl⟩ := szImage_eq w h p D 1048576 (by omega) hm
  rw [hs]
  simp only [Option.bind_some]
  by_cases c : s < 0
  · exact ev_pos c (Ev.now _)
  refine ev_neg c ?_
  obtain ⟨s2, hs2, hl2⟩ := szImage_eq pw ph pp E s (by omega) hmE
  rw [hs2]
  simp only [Option.bind_some]
  by_cases c2 : s2 < 0
  · exact ev_pos c2 (Ev.now _)
  refine ev_neg c2 ?_
  have hn : D.length ≤ 2000000 := by omega
  have hn2 : E.length ≤ 2000000 := by omega
  have h1 := specPaste_ev w h p D x y pw ph pp E hn hn2
  have h2 : Ev (fun _ => impl_PasteImage.f w h p D x y pw ph pp E) (pasteP w h p D x y pw ph pp E) := by rw [implPaste_eq]; exact Ev.now _
  have hlen := pasteP_length w h p D x y pw ph pp E
  generalize pasteP w h p D x y pw ph pp E = t at h1 h2 hlen
  obtain ⟨tw, th, tp, F, ok⟩ := t
  simp only at hlen
  have hne : (ok != ok) = false := by simp
  have hm1 : 1 + (D.length : Int) ≤ 1000000000 := by omega
  repeat (first
    | exact Ev.now _
    | rw [ev_bind_iff (toImage_ev w h p D hn)]
    | rw [ev_bind_iff (toImage_ev pw ph pp E hn2)]
    | rw [ev_bind_iff (h1)]
    | rw [ev_bind_iff (h2)]
    | rw [ev_bind_iff (eqImage_same w h p D hn)]
    | rw [ev_bind_iff (eqImage_same pw ph pp E hn2)]
    | rw [ev_bind_iff (eqImage_same tw th tp F hlen)]
    | rw [ev_bind_iff (markImage_ev w h p D 1 hn (by omega) (by omega))]
    | rw [ev_bind_iff (markImage_ev pw ph pp E (1 + (D.length : Int)) hn2 (by omega) hm1)]
    | rw [ev_bind_iff (markImage_ev tw th tp F 1 hlen (by omega) (by omega))]
    | rw [ev_bind_iff (heldImage_ev tw th tp 1 F.length hlen (by omega) (by omega))]
    | refine Ev.step (g := fun k => laws_FnExactPasteImage.j0 k _ _ _ _ _ _ _ _ _ _ _ _ _ _ _ _ _ _ _ _ _ _ _ _ _ _ _ _ _) (fun k => by rw [laws_FnExactPasteImage.j0]) ?_
    | refine Ev.step (g := fun k => laws_FnExactPasteImage.j1 k _ _ _ _ _ _ _ _ _ _ _ _ _ _ _ _ _ _ _ _) (fun k => by rw [laws_FnExactPasteImage.j1]) ?_
    | refine Ev.step (g := fun k => laws_FnExactPasteImage.j2 k _ _ _ _ _ _) (fun k => by rw [laws_FnExactPasteImage.j2]) ?_
    | refine ev_pos (by first | rfl | (simp; done) | omega) ?_
    | refine ev_neg (by first | (simp; done) | omega) ?_
    | dsimp only)

end Go.Proofs.Ytmljcnhecjlinaa.Pure
