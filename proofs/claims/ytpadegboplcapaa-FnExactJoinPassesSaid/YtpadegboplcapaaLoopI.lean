/- What the laws' small functions of images answer. No conditions. -/
import Derived.Test.YtpadegboplcapaaLoopsX
import Derived.Test.YtpadegboplcapaaQ3
import Derived.Test.YtpadegboplcapaaQ4
namespace Go.Proofs.Ytpadegboplcapaa.B
open Go.RowKit Go.Proofs.Ytpadegboplcapaa.Q Go.Proofs.YtpadegboplcapaaW.PrintWords Go.Proofs.YtpadegboplcapaaW.PrintLast Go.Proofs.YtpadegboplcapaaW.PrintMore
set_option linter.unusedVariables false

theorem eqImage_same (w h p : Int) (D : List Int) (hn : D.length ≤ 2000000) : Ev (fun k => laws_eqImage.f k w h p D w h p D) true := by
  unfold laws_eqImage.f
  refine ev_pos rfl (ev_pos rfl (ev_pos rfl ?_))
  rw [ev_bind_iff (laws_eqIntS_same D hn)]
  exact ev_pos rfl (Ev.now _)
theorem markImage_ev (w h p : Int) (D : List Int) (m : Int) (hn : D.length ≤ 2000000) (h0 : 0 ≤ m) (h1 : m ≤ 1000000000) : Ev (fun k => laws_markImage.f k w h p D m) (m + D.length, seqFrom m D.length) := by
  unfold laws_markImage.f
  rw [ev_bind_iff (markIntS_ev D m hn h0 h1)]
  exact Ev.now _
theorem heldImage_ev (w h p : Int) (m : Int) (n : Nat) (hn : n ≤ 2000000) (h0 : 0 ≤ m) (h1 : m ≤ 1000000000) : Ev (fun k => laws_heldImage.f k w h p (seqFrom m n) m) (m + n) := by
  unfold laws_heldImage.f
  rw [ev_bind_iff (heldIntS_ev m n hn h0 h1)]
  exact ev_neg (by omega) (Ev.now _)

end Go.Proofs.Ytpadegboplcapaa.B
