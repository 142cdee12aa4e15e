/- What the laws' small functions of images answer. No conditions. -/
import Derived.Test.YtpadegboplcapaaLoopsX
import Derived.Test.YtpadegboplcapaaQ3
namespace Go.Proofs.Ytpadegboplcapaa.B
open Go.RowKit Go.Proofs.Ytpadegboplcapaa.Q Go.Proofs.YtpadegboplcapaaW.PrintWords Go.Proofs.YtpadegboplcapaaW.PrintLast Go.Proofs.YtpadegboplcapaaW.PrintMore
set_option linter.unusedVariables false

/-- An image that the laws look at has no more numbers than are left. -/
theorem szImage_eq (w h p : Int) (D : List Int) (a : Int) (ha : 0 ≤ a ∧ a ≤ 1048576) (hn : D.length ≤ 9223372036854775807) : ∃ s : Int, laws_szImage.f w h p D a = some s ∧ (s < 0 ∨ 0 ≤ s ∧ s ≤ a ∧ (D.length : Int) ≤ a) := by
  unfold laws_szImage.f laws_szIntS.f
  by_cases c : (D.length : Int) ≤ a
  · rw [w64 (x := a - (D.length : Int)) (by omega) (by omega), if_neg (by omega)]
    simp only [Option.bind_some]
    rw [if_neg (by omega)]
    exact ⟨_, rfl, .inr (by omega)⟩
  · rw [w64 (x := a - (D.length : Int)) (by omega) (by omega), if_pos (by omega)]
    simp only [Option.bind_some]
    rw [if_pos (by omega)]
    exact ⟨_, rfl, .inl (by omega)⟩
theorem toImage_ev (w h p : Int) (D : List Int) (hn : D.length ≤ 2000000) : Ev (fun k => laws_toImage.f k w h p D) (w, h, p, D) := by
  unfold laws_toImage.f
  rw [ev_bind_iff (toIntS_ev D hn)]
  exact Ev.now _
theorem eqImage_same (w h p : Int) (D : List Int) (hn : D.length ≤ 2000000) : Ev (fun k => laws_eqImage.f k w h p D w h p D) true := by
  unfold laws_eqImage.f
  refine ev_pos rfl (ev_pos rfl (ev_pos rfl ?_))
  rw [ev_bind_iff (laws_eqIntS_same D hn)]
  exact ev_pos rfl (Ev.now _)
theorem markImage_ev (w h p : Int) (D : List Int) (m : Int) (hn : D.length ≤ 2000000) (h0 : 0 ≤ m) (h1 : m ≤ 1000000000) : Ev (fun k => laws_markImage.f k w h p D m) (m + D.length, seqFrom m D.length) := by
  unfold laws_markImage.f
  rw [ev_bind_iff (markIntS_ev D m hn h0 h1)]
  exact Ev.now _

end Go.Proofs.Ytpadegboplcapaa.B
