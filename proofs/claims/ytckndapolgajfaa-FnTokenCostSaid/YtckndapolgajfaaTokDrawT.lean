/- What the draw of tokens gives. No conditions. -/
import Derived.Test.YtckndapolgajfaaTokDraw
import Derived.Test.YtckndapolgajfaaTokG
import Derived.Test.YtckndapolgajfaaQ16
namespace Go.Proofs.Ytckndapolgajfaa.B
open Go.RowKit Go.Proofs.Ytckndapolgajfaa.Q Go.Proofs.YtckndapolgajfaaW.PrintWords Go.Proofs.YtckndapolgajfaaW.PrintLast Go.Proofs.YtckndapolgajfaaW.PrintMore
set_option linter.unusedVariables false

theorem anyTokens_ok (b : List Int) (hb : Bytes b) : ∃ v p', Ev (fun k => spec_anyTokens.f k b 0) (v, p') ∧ v.length ≤ 1200 := by
  obtain ⟨v, p', hv, g1, g2, g3⟩ := anyBytes_ok b hb
  have hg := specGreedy_ev v
  have hgl := greedyP_length v
  generalize greedyP v = ts at hg hgl
  unfold spec_anyTokens.f
  by_cases h : (ts.length : Int) > 0
  · obtain ⟨c, hc, c0, c1⟩ := pick_ok b p' 8 hb g1 (by omega) (by omega)
    by_cases g : (c == 0) = true
    · obtain ⟨c2, hc2, c20, c21⟩ := pick_ok b (p' + 1) (ts.length : Int) hb (by omega) (by omega) (by omega)
      obtain ⟨c3, hc3, _⟩ := one_ok b (p' + 1 + 1) [0, 5, 255, 256, -1] hb (by omega) (by omega) (by simp)
      obtain ⟨c4, hc4, _⟩ := one_ok b (p' + 1 + 1 + 1) [0, 2, 3, 18, 19] hb (by omega) (by omega) (by simp)
      obtain ⟨c5, hc5, _⟩ := one_ok b (p' + 1 + 1 + 1 + 1) [0, 1, 64, 65] hb (by omega) (by omega) (by simp)
      refine ⟨ts.set c2.toNat ⟨c3, c4, c5⟩, p' + 1 + 1 + 1 + 1 + 1, ?_, by rw [List.length_set]; exact hgl⟩
      rw [ev_bind_iff hv, ev_bind_iff hg]
      refine ev_pos h ?_
      rw [ev_bind_iff hc]
      simp only [g]
      refine Ev.step (g := fun k => spec_anyTokens.j0 k ts true b (p' + 1)) (f := fun k => (spec_reader_pick.f k b (p' + 1) (ts.length : Int)).bind fun t => (spec_reader_one.f k b t.2 [0, 5, 255, 256, -1]).bind fun t3 => (spec_reader_one.f k b t3.2 [0, 2, 3, 18, 19]).bind fun t4 => (spec_reader_one.f k b t4.2 [0, 1, 64, 65]).bind fun t5 => if 0 ≤ t.1 then (if t.1 < (ts.length : Int) then some (ts.set t.1.toNat ⟨t3.1, t4.1, t5.1⟩, t5.2) else none) else none) (fun k => by simp only [spec_anyTokens.j0, if_true]) ?_
      rw [ev_bind_iff hc2, ev_bind_iff hc3, ev_bind_iff hc4, ev_bind_iff hc5]
      exact ev_pos c20 (ev_pos c21 (Ev.now _))
    · refine ⟨ts, p' + 1, ?_, hgl⟩
      rw [ev_bind_iff hv, ev_bind_iff hg]
      refine ev_pos h ?_
      rw [ev_bind_iff hc]
      simp only [Bool.eq_false_iff.2 g]
      refine Ev.step (f := fun _ => some (ts, p' + 1)) (fun k => ?_) (Ev.now _)
      simp only [spec_anyTokens.j0, Bool.false_eq_true, if_false]
  · refine ⟨ts, p', ?_, hgl⟩
    rw [ev_bind_iff hv, ev_bind_iff hg]
    refine ev_neg h ?_
    refine Ev.step (f := fun _ => some (ts, p')) (fun k => ?_) (Ev.now _)
    simp only [spec_anyTokens.j0, Bool.false_eq_true, if_false]

end Go.Proofs.Ytckndapolgajfaa.B
