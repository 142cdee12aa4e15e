/- All passes of an image together have its pixels; at every code. -/
import Derived.Test.YtpadegboplcapaaPass
import Derived.Test.YtpadegboplcapaaDraw
import Derived.Test.YtpadegboplcapaaQ15
namespace Go.Proofs.Ytpadegboplcapaa.Pure
open Go.RowKit Go.Proofs.Ytpadegboplcapaa.Q Go.Proofs.Ytpadegboplcapaa.B Go.Proofs.YtpadegboplcapaaW.PrintWords Go.Proofs.YtpadegboplcapaaW.PrintLast Go.Proofs.YtpadegboplcapaaW.PrintMore
set_option linter.unusedVariables false

theorem sum_all : ∀ W, W < 17 → ∀ H, H < 17 → 1 ≤ W → 1 ≤ H → ((List.range 7).map fun k => cnt (pX k) (pU k) W * cnt (pY k) (pV k) H).sum = W * H := by decide +kernel
def sumTo (W H n : Nat) : Nat := ((List.range n).map fun k => cnt (pX k) (pU k) W * cnt (pY k) (pV k) H).sum
theorem sumTo_succ (W H n : Nat) : sumTo W H (n + 1) = sumTo W H n + cnt (pX n) (pU n) W * cnt (pY n) (pV n) H := by
  unfold sumTo
  rw [List.range_succ, List.map_append, List.sum_append]
  simp
theorem cnt_small {W : Nat} (hW : W ≤ 16) : ∀ k : Nat, k < 7 → cnt (pX k) (pU k) W ≤ 24 ∧ cnt (pY k) (pV k) W ≤ 24 := by
  intro k hk
  obtain ⟨h1, h2, h3, h4⟩ := pass_lt k hk
  have a := cnt_le (e := W) h1
  have b := cnt_le (e := W) h3
  omega
theorem sumTo_le (W H : Nat) (hW : W ≤ 16) (hH : H ≤ 16) : ∀ n, n ≤ 7 → sumTo W H n ≤ n * 576 := by
  intro n
  induction n with
  | zero => intro _; simp [sumTo]
  | succ n ih =>
    intro hn
    rw [sumTo_succ, Nat.succ_mul]
    have := ih (by omega)
    have h := Nat.mul_le_mul (cnt_small hW n (by omega)).1 (cnt_small hH n (by omega)).2
    omega
theorem DrawPassSize_ok (l : List Int) (h : ∀ x ∈ l, (Lit.int .u8 x).wf = true) : ∃ a b c, Ev (fun k => spec_DrawPassSize.f k l) (a, b, c) := by
  obtain ⟨b, hl, hb⟩ := newReader_ok l h
  obtain ⟨x, hx, _⟩ := pick_ok b 0 18 hb (by omega) (by omega) (by omega)
  obtain ⟨y, hy, _⟩ := pick_ok b (0 + 1) 18 hb (by omega) (by omega) (by omega)
  obtain ⟨z, hz, _⟩ := pick_ok b (0 + 1 + 1) 9 hb (by omega) (by omega) (by omega)
  refine ⟨x, y, wrap64 (z - 1), ?_⟩
  unfold spec_DrawPassSize.f
  rw [hl]
  simp only [Option.bind_some]
  rw [ev_bind_iff hx, ev_bind_iff hy, ev_bind_iff hz]
  exact Ev.now _
theorem FnPassSize : laws_FnPassSize.Pure := by
  intro l0 _ _ hw0
  refine Ev.rounds (g := fun k => laws_FnPassSize.f k l0) (r := true) ?_
  unfold laws_FnPassSize.f
  by_cases hl : (l0.length : Int) > 1048576
  · exact ev_pos hl (Ev.now _)
  refine ev_neg hl ?_
  obtain ⟨w, h, p, hd⟩ := DrawPassSize_ok l0 hw0
  rw [ev_bind_iff hd]
  simp only
  rw [ev_bind_iff (implSize_ev w h p), specPassSize_eq]
  simp only [Option.bind_some]
  refine ev_pos trivial (ev_pos trivial ?_)
  by_cases o : okSize w h p = true
  · obtain ⟨W, H, K, rfl, rfl, rfl, hW, hH, hK⟩ := okSize_N o
    have hneg : decide ((sizeP (W : Int) (H : Int) (K : Int)).1 < 0) = false := by
      unfold sizeP
      rw [if_pos o, decide_eq_false_iff_not]
      simp only
      omega
    rw [hneg]
    refine Ev.step (f := fun k => laws_FnPassSize.l0 k (W : Int) (H : Int) ((sumTo W H 0 : Nat) : Int) ((0 : Nat) : Int)) (fun k => by simp only [laws_FnPassSize.j0, Bool.false_eq_true, if_false]; rfl) ?_
    have := ev_for (fun k (s : Int) i => laws_FnPassSize.l0 k (W : Int) (H : Int) s (i : Int)) 7 (fun i => ((sumTo W H i : Nat) : Int)) (fun i hi r g => ?_) true ?_
    · exact this
    · have hs := implSize_ev (W : Int) (H : Int) (i : Int)
      have oi : okSize (W : Int) (H : Int) (i : Int) = true := by
        unfold okSize
        simp only [Bool.and_eq_true, decide_eq_true_eq]
        omega
      have e : sizeP (W : Int) (H : Int) (i : Int) = ((cnt (pX i) (pU i) W : Int), (cnt (pY i) (pV i) H : Int)) := by
        unfold sizeP
        rw [if_pos oi]
        simp only [Int.toNat_natCast]
      rw [e] at hs
      have h1 := sumTo_le W H hW.2 hH.2 i (by omega)
      have h2 := Nat.mul_le_mul (cnt_small hW.2 i hi).1 (cnt_small hH.2 i hi).2
      have e1 := pup3 (cnt (pX i) (pU i) W) (cnt (pY i) (pV i) H) (by omega)
      have e2 := pup2 (sumTo W H i) (cnt (pX i) (pU i) W * cnt (pY i) (pV i) H) (by omega)
      have hlt : (i : Int) < 7 := by omega
      rw [sumTo_succ] at g
      refine Ev.step (f := fun k => (impl_PassSize.f k (W : Int) (H : Int) (i : Int)).bind fun bt => laws_FnPassSize.l0 k (W : Int) (H : Int) (wrap64 (((sumTo W H i : Nat) : Int) + wrap64 (bt.1 * bt.2))) ((i + 1 : Nat) : Int)) (fun k => ?_) ?_
      · simp only [laws_FnPassSize.l0, pup1 i (by omega)]
        rw [if_pos hlt]
      · rw [ev_bind_iff hs]
        simp only [e1, e2]
        exact g
    · refine Ev.step (f := fun _ => some true) (fun k => ?_) (Ev.now _)
      simp only [laws_FnPassSize.l0, pup3 W H (by have := Nat.mul_le_mul hW.2 hH.2; omega)]
      rw [if_neg (by omega), show sumTo W H 7 = W * H from sum_all W (by omega) H (by omega) hW.1 hH.1]
      simp
  · have e : sizeP w h p = (-1, -1) := by unfold sizeP; rw [if_neg o]
    rw [e]
    refine Ev.step (f := fun _ => some true) (fun k => ?_) (Ev.now _)
    simp [laws_FnPassSize.j0]

end Go.Proofs.Ytpadegboplcapaa.Pure
