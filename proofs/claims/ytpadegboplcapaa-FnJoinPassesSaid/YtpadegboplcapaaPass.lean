/- The passes: their columns and rows, in the program and in the reference. No conditions. -/
import Derived.Test.YtpadegboplcapaaLoopsA
import Derived.Test.YtpadegboplcapaaQ1
import Derived.Test.YtpadegboplcapaaQ5
import Derived.Test.YtpadegboplcapaaQ1
import Derived.Test.YtpadegboplcapaaQ6
import Derived.Test.YtpadegboplcapaaQ7
namespace Go.Proofs.Ytpadegboplcapaa.B
open Go.RowKit Go.Proofs.Ytpadegboplcapaa.Q Go.Proofs.YtpadegboplcapaaW.PrintWords Go.Proofs.YtpadegboplcapaaW.PrintLast Go.Proofs.YtpadegboplcapaaW.PrintMore
set_option linter.unusedVariables false

theorem pup1 (i : Nat) (h : i < 1000000000) : wrap64 ((i : Int) + 1) = ((i + 1 : Nat) : Int) := by rw [w64 (by omega) (by omega)]; omega
theorem pup2 (a b : Nat) (h : a + b < 1000000000) : wrap64 ((a : Int) + (b : Int)) = ((a + b : Nat) : Int) := by rw [w64 (by omega) (by omega)]; omega
theorem pup3 (a b : Nat) (h : a * b < 1000000000) : wrap64 ((a : Int) * (b : Int)) = ((a * b : Nat) : Int) := by
  rw [← Int.natCast_mul, w64 (by omega) (by omega)]
/-- First column and row of a pass, and the distances. -/
def pX (k : Nat) : Nat := [0, 4, 0, 2, 0, 1, 0].getD k 0
def pY (k : Nat) : Nat := [0, 0, 4, 0, 2, 0, 1].getD k 0
def pU (k : Nat) : Nat := [8, 8, 4, 4, 2, 2, 1].getD k 1
def pV (k : Nat) : Nat := [8, 8, 8, 4, 4, 2, 2].getD k 1
theorem pass_cases {P : Nat → Prop} (h0 : P 0) (h1 : P 1) (h2 : P 2) (h3 : P 3) (h4 : P 4) (h5 : P 5) (h6 : P 6) : ∀ k, k < 7 → P k := by
  intro k hk
  match k, hk with
  | 0, _ => exact h0
  | 1, _ => exact h1
  | 2, _ => exact h2
  | 3, _ => exact h3
  | 4, _ => exact h4
  | 5, _ => exact h5
  | 6, _ => exact h6
theorem passT_eq : ∀ k : Nat, k < 7 → passT (k : Int) = ((pX k : Int), (pY k : Int), (pU k : Int), (pV k : Int)) := by
  apply pass_cases <;> rfl
theorem passOf_eq (k : Nat) (hk : k < 7) : impl_passOf.f (k : Int) = some ((pX k : Int), (pY k : Int), (pU k : Int), (pV k : Int)) := by
  unfold impl_passOf.f
  rw [if_pos (by omega), passT_eq k hk]
theorem passStart_eq : ∀ k : Nat, k < 7 → spec_passStart.f (k : Int) = some ((pX k : Int), (pY k : Int), (pU k : Int), (pV k : Int)) := by
  apply pass_cases <;> rfl
theorem pass_lt : ∀ k : Nat, k < 7 → pX k < pU k ∧ pU k ≤ 8 ∧ pY k < pV k ∧ pV k ≤ 8 := by
  apply pass_cases <;> decide
/-- How many numbers there are from x on by d, less than e. -/
def cnt (x d e : Nat) : Nat := (e + d - 1 - x) / d
theorem cnt_lt {x d e i : Nat} (hd : x < d) (h : i < cnt x d e) : x + i * d < e := by
  have hd0 : 0 < d := by omega
  have h1 : (i + 1) * d ≤ e + d - 1 - x := (Nat.le_div_iff_mul_le hd0).1 h
  rw [Nat.succ_mul] at h1
  omega
theorem cnt_ge {x d e : Nat} (hd : x < d) : e ≤ x + cnt x d e * d := by
  have hd0 : 0 < d := by omega
  have h1 : e + d - 1 - x < (cnt x d e + 1) * d := by
    have := (Nat.div_lt_iff_lt_mul hd0).1 (Nat.lt_succ_self ((e + d - 1 - x) / d))
    exact this
  rw [Nat.succ_mul] at h1
  omega
theorem cnt_le {x d e : Nat} (hd : x < d) : cnt x d e ≤ e + d := Nat.le_trans (Nat.div_le_self _ _) (by omega)
def everyN (x d n : Nat) : List Int := (List.range n).map fun (i : Nat) => ((x + i * d : Nat) : Int)
theorem everyN_length (x d n : Nat) : (everyN x d n).length = n := by simp [everyN]
theorem everyN_succ (x d n : Nat) : everyN x d (n + 1) = everyN x d n ++ [((x + n * d : Nat) : Int)] := by simp [everyN, List.range_succ]
theorem every_ev (x d e : Nat) (hd : x < d) (hd8 : d ≤ 8) (he : e ≤ 16) : Ev (fun k => impl_every.f k (x : Int) (d : Int) (e : Int)) (everyN x d (cnt x d e)) := by
  unfold impl_every.f
  have hc := cnt_le (e := e) hd
  have := ev_for (fun k (s : List Int) i => impl_every.l0 k (d : Int) (e : Int) s ((x + i * d : Nat) : Int)) (cnt x d e) (fun i => everyN x d i) (fun i hi r g => ?_) (everyN x d (cnt x d e)) ?_
  · simpa [everyN] using this
  · have h1 := cnt_lt hd hi
    refine Ev.step (fun k => ?_) g
    simp only [impl_every.l0, pup2 (x + i * d) d (by omega)]
    rw [if_pos (by omega), if_pos (by rw [everyN_length]; omega), everyN_succ, Nat.succ_mul, Nat.add_assoc]
  · have h1 := cnt_ge (e := e) hd
    refine Ev.step (f := fun _ => some (everyN x d (cnt x d e))) (fun k => ?_) (Ev.now _)
    simp only [impl_every.l0]
    rw [if_neg (by omega)]
def colsN (k W : Nat) : List Int := everyN (pX k) (pU k) (cnt (pX k) (pU k) W)
def rowsN (k H : Nat) : List Int := everyN (pY k) (pV k) (cnt (pY k) (pV k) H)
theorem cols_ev (k W : Nat) (hk : k < 7) (hW : W ≤ 16) : Ev (fun j => impl_pass_columns.f j (pX k : Int) (pY k : Int) (pU k : Int) (pV k : Int) (W : Int)) (colsN k W) := by
  unfold impl_pass_columns.f
  obtain ⟨h1, h2, h3, h4⟩ := pass_lt k hk
  rw [ev_bind_iff (every_ev _ _ _ h1 h2 hW)]
  exact Ev.now _
theorem rows_ev (k H : Nat) (hk : k < 7) (hH : H ≤ 16) : Ev (fun j => impl_pass_rows.f j (pX k : Int) (pY k : Int) (pU k : Int) (pV k : Int) (H : Int)) (rowsN k H) := by
  unfold impl_pass_rows.f
  obtain ⟨h1, h2, h3, h4⟩ := pass_lt k hk
  rw [ev_bind_iff (every_ev _ _ _ h3 h4 hH)]
  exact Ev.now _
def okSize (w h k : Int) : Bool := ((decide (1 ≤ w) && decide (w ≤ 16)) && (decide (1 ≤ h) && decide (h ≤ 16))) && (decide (0 ≤ k) && decide (k ≤ 6))
def sizeP (w h k : Int) : Int × Int := if okSize w h k = true then ((cnt (pX k.toNat) (pU k.toNat) w.toNat : Int), (cnt (pY k.toNat) (pV k.toNat) h.toNat : Int)) else (-1, -1)
theorem okSize_N {w h k : Int} (o : okSize w h k = true) : ∃ W H K : Nat, w = W ∧ h = H ∧ k = K ∧ (1 ≤ W ∧ W ≤ 16) ∧ (1 ≤ H ∧ H ≤ 16) ∧ K < 7 := by
  unfold okSize at o
  simp only [Bool.and_eq_true, decide_eq_true_eq] at o
  exact ⟨w.toNat, h.toNat, k.toNat, by omega, by omega, by omega, by omega, by omega, by omega⟩
theorem size_one (E x d : Nat) (hE : 1 ≤ E ∧ E ≤ 16) (hx : x < d) (hd : d ≤ 8) : mx 0 (wrap64 (Int.tdiv (wrap64 ((wrap64 ((wrap64 ((E : Int) - (x : Int))) + (d : Int))) - 1)) (d : Int))) = ((cnt x d E : Nat) : Int) := by
  have hc := cnt_le (e := E) hx
  rw [w64 (x := (E : Int) - (x : Int)) (by omega) (by omega), w64 (x := (E : Int) - (x : Int) + (d : Int)) (by omega) (by omega), w64 (x := (E : Int) - (x : Int) + (d : Int) - 1) (by omega) (by omega)]
  have e : (E : Int) - (x : Int) + (d : Int) - 1 = ((E + d - 1 - x : Nat) : Int) := by omega
  rw [e, ← Int.ofNat_tdiv]
  show mx 0 (wrap64 ((cnt x d E : Nat) : Int)) = _
  rw [w64 (by omega) (by omega)]
  exact mx_r (by omega)
theorem specSize_eq (K W H : Nat) (hK : K < 7) (hW : 1 ≤ W ∧ W ≤ 16) (hH : 1 ≤ H ∧ H ≤ 16) : spec_passSize.f (W : Int) (H : Int) (K : Int) = some ((cnt (pX K) (pU K) W : Int), (cnt (pY K) (pV K) H : Int)) := by
  obtain ⟨h1, h2, h3, h4⟩ := pass_lt K hK
  unfold spec_passSize.f
  rw [passStart_eq K hK]
  simp only [Option.bind_some]
  rw [if_neg (by omega), if_neg (by omega), size_one W _ _ hW h1 h2, size_one H _ _ hH h3 h4]

end Go.Proofs.Ytpadegboplcapaa.B
