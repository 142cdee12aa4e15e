/- The pixels of a pass, in the program and in the reference. No conditions. -/
import Derived.Test.YtpadegboplcapaaPass
import Derived.Test.YtpadegboplcapaaSpecI
import Derived.Test.YtpadegboplcapaaQ1
import Derived.Test.YtpadegboplcapaaQ2
import Derived.Test.YtpadegboplcapaaQ8
namespace Go.Proofs.Ytpadegboplcapaa.B
open Go.RowKit Go.Proofs.Ytpadegboplcapaa.Q Go.Proofs.YtpadegboplcapaaW.PrintWords Go.Proofs.YtpadegboplcapaaW.PrintLast Go.Proofs.YtpadegboplcapaaW.PrintMore
set_option linter.unusedVariables false

theorem everyN_mem {x d n : Nat} {z : Int} (h : z ∈ everyN x d n) : ∃ i, i < n ∧ z = ((x + i * d : Nat) : Int) := by
  unfold everyN at h
  obtain ⟨i, hi, rfl⟩ := List.mem_map.1 h
  exact ⟨i, List.mem_range.1 hi, rfl⟩
theorem cols_mem {k W : Nat} (hk : k < 7) {z : Int} (h : z ∈ colsN k W) : 0 ≤ z ∧ z < (W : Int) := by
  obtain ⟨i, hi, rfl⟩ := everyN_mem h
  have := cnt_lt (pass_lt k hk).1 hi
  omega
theorem rows_mem {k H : Nat} (hk : k < 7) {z : Int} (h : z ∈ rowsN k H) : 0 ≤ z ∧ z < (H : Int) := by
  obtain ⟨i, hi, rfl⟩ := everyN_mem h
  have := cnt_lt (pass_lt k hk).2.2.1 hi
  omega
/-- The numbers of a pass of a valid image. -/
def dataN (W H p : Nat) (D : List Int) (k : Nat) : List Int := passAll W p D (rowsN k H) (colsN k W)
theorem flat_len {α : Type} (l : List α) (f : α → List Int) (n : Nat) (h : ∀ x ∈ l, (f x).length = n) : (l.flatMap f).length = l.length * n := by
  induction l with
  | nil => simp
  | cons a l ih =>
    rw [List.flatMap_cons, List.length_append, h a (by simp), ih (fun x hx => h x (by simp [hx])), List.length_cons, Nat.succ_mul, Nat.add_comm]
theorem row_len {W H p k : Nat} {D : List Int} (o : NImg W H p D) (hk : k < 7) {y : Int} (hy : y ∈ rowsN k H) : (passRow W p D (colsN k W) y).length = (colsN k W).length * p := by
  refine flat_len _ _ p fun x hx => ?_
  have a := cols_mem hk hx
  have b := rows_mem hk hy
  exact pix_length D W H p x.toNat y.toNat o.2.2.2 (by omega) (by omega)
theorem data_len {W H p k : Nat} {D : List Int} (o : NImg W H p D) (hk : k < 7) : (dataN W H p D k).length = (rowsN k H).length * ((colsN k W).length * p) := flat_len _ _ _ fun y hy => row_len o hk hy
theorem cnt16 {W k : Nat} (hk : k < 7) (hW : W ≤ 16) : cnt (pX k) (pU k) W ≤ 24 ∧ cnt (pY k) (pV k) W ≤ 24 := by
  obtain ⟨h1, h2, h3, h4⟩ := pass_lt k hk
  have a := cnt_le (e := W) h1
  have b := cnt_le (e := W) h3
  omega
theorem data_small {W H p k : Nat} {D : List Int} (o : NImg W H p D) (hk : k < 7) : (dataN W H p D k).length ≤ 2304 := by
  rw [data_len o hk]
  have a := (cnt16 hk o.1.2).1
  have b := (cnt16 hk o.2.1.2).2
  have e1 : (colsN k W).length ≤ 24 := by unfold colsN; rw [everyN_length]; exact a
  have e2 : (rowsN k H).length ≤ 24 := by unfold rowsN; rw [everyN_length]; exact b
  have h1 := Nat.mul_le_mul e1 o.2.2.1.2
  have h2 := Nat.mul_le_mul e2 h1
  omega
def passP (w h p : Int) (D : List Int) (k : Int) : List Int := if okImg w h p D = true ∧ 0 ≤ k ∧ k ≤ 6 then dataN w.toNat h.toNat p.toNat D k.toNat else []
theorem passP_N {W H P K : Nat} {D : List Int} (hv : okImg (W : Int) (H : Int) (P : Int) D = true) (hK : K < 7) : passP (W : Int) (H : Int) (P : Int) D (K : Int) = dataN W H P D K := by
  unfold passP
  rw [if_pos ⟨hv, by omega, by omega⟩]
  rfl
theorem passP_length (w h p : Int) (D : List Int) (k : Int) : (passP w h p D k).length ≤ 2304 := by
  unfold passP
  by_cases g : okImg w h p D = true ∧ 0 ≤ k ∧ k ≤ 6
  · rw [if_pos g]
    obtain ⟨W, H, P, rfl, rfl, rfl, o⟩ := (okImg_img g.1).1.toN
    exact data_small o (by omega)
  · rw [if_neg g]
    simp
theorem implPass_ev (w h p : Int) (D : List Int) (k : Int) : Ev (fun j => impl_PassData.f j w h p D k) (passP w h p D k) := by
  unfold impl_PassData.f
  by_cases g : okImg w h p D = true ∧ 0 ≤ k ∧ k ≤ 6
  · refine ev_pos g ?_
    obtain ⟨hv, g1, g2⟩ := g
    obtain ⟨W, H, P, rfl, rfl, rfl, o⟩ := (okImg_img hv).1.toN
    obtain ⟨K, rfl⟩ := Int.eq_ofNat_of_zero_le g1
    have hK : K < 7 := by omega
    rw [passP_N hv hK, passOf_eq K hK]
    simp only [Option.bind_some]
    rw [ev_bind_iff (rows_ev K H hK o.2.1.2), ev_bind_iff (cols_ev K W hK o.1.2)]
    have hs := data_small o hK
    have e1 : (colsN K W).length ≤ 24 := by unfold colsN; rw [everyN_length]; exact (cnt16 hK o.1.2).1
    have e2 : (rowsN K H).length ≤ 24 := by unfold rowsN; rw [everyN_length]; exact (cnt16 hK o.2.1.2).2
    refine ev_pos ?_ (Ev.now _)
    unfold passOk
    simp only [Bool.and_eq_true, List.all_eq_true, decide_eq_true_eq]
    refine ⟨fun x hx => cols_mem hK hx, fun y hy => rows_mem hK hy, by omega, by omega, ?_⟩
    have : (passAll W P D (rowsN K H) (colsN K W)).length ≤ 2304 := hs
    simp only [Int.toNat_natCast]
    omega
  · have e : passP w h p D k = [] := by unfold passP; rw [if_neg g]
    rw [e]
    exact ev_neg g (Ev.now _)
theorem everyN_drop {x d n i : Nat} (hi : i < n) : (everyN x d n).drop i = ((x + i * d : Nat) : Int) :: (everyN x d n).drop (i + 1) := by
  have hl : i < (everyN x d n).length := by rw [everyN_length]; exact hi
  rw [List.drop_eq_getElem_cons hl]
  congr 1
  simp [everyN]
/-- The rest of a row, then the rest of the rows. -/
theorem spec_cols {W H P K : Nat} {D : List Int} (o : NImg W H P D) (hK : K < 7) (y : Nat) (hy : y < H) (r : List Int) : ∀ (d i : Nat) (acc : List Int), i + d = cnt (pX K) (pU K) W → acc.length + d * P ≤ 100000 →
    Ev (fun k => spec_passData.l0 k (acc ++ passRow W P D ((colsN K W).drop i) (y : Int)) (pX K : Int) (pU K : Int) (pV K : Int) ((y + pV K : Nat) : Int) (W : Int) (H : Int) (P : Int) D) r →
    Ev (fun k => spec_passData.l1 k acc (pX K : Int) (pU K : Int) (pV K : Int) (y : Int) ((pX K + i * pU K : Nat) : Int) (W : Int) (H : Int) (P : Int) D) r := by
  obtain ⟨h1, h2, h3, h4⟩ := pass_lt K hK
  have o1 := o.1
  have o2 := o.2.1
  have o3 := o.2.2.1
  intro d
  induction d with
  | zero =>
    intro i acc hi _ g
    have hg := cnt_ge (x := pX K) (d := pU K) (e := W) h1
    have e : (colsN K W).drop i = [] := List.drop_of_length_le (by unfold colsN; rw [everyN_length]; omega)
    rw [e] at g
    have e2 : acc ++ passRow W P D [] (y : Int) = acc := by simp [passRow]
    rw [e2] at g
    rw [show i = cnt (pX K) (pU K) W by omega]
    generalize cnt (pX K) (pU K) W * pU K = q at hg
    refine Ev.step (fun k => ?_) g
    simp only [spec_passData.l1]
    rw [if_neg (by omega), pup2 y (pV K) (by omega)]
  | succ d ih =>
    intro i acc hi ha g
    have hlt := cnt_lt (x := pX K) (d := pU K) (e := W) (i := i) h1 (by omega)
    have hpl := pix_length D W H P (pX K + i * pU K) y o.2.2.2 hlt hy
    have hsp := specPixelAt_eq (x := pX K + i * pU K) (y := y) o hlt hy
    rw [Nat.succ_mul] at ha
    have g2 := ih (i + 1) (acc ++ pix D W P (pX K + i * pU K) y) (by omega) (by rw [List.length_append, hpl]; omega) (by
      have e : acc ++ passRow W P D ((colsN K W).drop i) (y : Int) = acc ++ pix D W P (pX K + i * pU K) y ++ passRow W P D ((colsN K W).drop (i + 1)) (y : Int) := by
        unfold colsN
        rw [everyN_drop (x := pX K) (d := pU K) (n := cnt (pX K) (pU K) W) (i := i) (by omega)]
        unfold passRow
        rw [List.flatMap_cons, List.append_assoc]
        rfl
      rw [e] at g
      exact g)
    rw [Nat.succ_mul, ← Nat.add_assoc] at g2
    generalize pX K + i * pU K = x at hlt hpl hsp g2 ⊢
    refine Ev.step (fun k => ?_) g2
    simp only [spec_passData.l1, hsp, Option.bind_some, pup2 x (pU K) (by omega)]
    rw [if_pos (by omega), if_pos (by rw [hpl]; omega)]
theorem spec_rows {W H P K : Nat} {D : List Int} (o : NImg W H P D) (hK : K < 7) : ∀ (d i : Nat) (acc : List Int), i + d = cnt (pY K) (pV K) H → acc.length + d * 96 ≤ 50000 →
    Ev (fun k => spec_passData.l0 k acc (pX K : Int) (pU K : Int) (pV K : Int) ((pY K + i * pV K : Nat) : Int) (W : Int) (H : Int) (P : Int) D) (acc ++ passAll W P D ((rowsN K H).drop i) (colsN K W)) := by
  obtain ⟨h1, h2, h3, h4⟩ := pass_lt K hK
  have o1 := o.1
  have o2 := o.2.1
  have o3 := o.2.2.1
  intro d
  induction d with
  | zero =>
    intro i acc hi _
    have hg := cnt_ge (x := pY K) (d := pV K) (e := H) h3
    have e : (rowsN K H).drop i = [] := List.drop_of_length_le (by unfold rowsN; rw [everyN_length]; omega)
    rw [e, show acc ++ passAll W P D [] (colsN K W) = acc by simp [passAll], show i = cnt (pY K) (pV K) H by omega]
    generalize cnt (pY K) (pV K) H * pV K = q at hg
    refine Ev.step (f := fun _ => some acc) (fun k => ?_) (Ev.now _)
    simp only [spec_passData.l0]
    rw [if_neg (by omega)]
  | succ d ih =>
    intro i acc hi ha
    have hlt := cnt_lt (x := pY K) (d := pV K) (e := H) (i := i) h3 (by omega)
    have hy : ((pY K + i * pV K : Nat) : Int) ∈ rowsN K H := by
      unfold rowsN
      have := List.getElem_mem (l := everyN (pY K) (pV K) (cnt (pY K) (pV K) H)) (n := i) (by rw [everyN_length]; omega)
      simpa [everyN] using this
    have hrl := row_len o hK hy
    have ec : (colsN K W).length = cnt (pX K) (pU K) W := by unfold colsN; rw [everyN_length]
    have c16 := (cnt16 hK o.1.2).1
    have hm := Nat.mul_le_mul c16 o3.2
    rw [ec] at hrl
    have g2 := ih (i + 1) (acc ++ passRow W P D (colsN K W) ((pY K + i * pV K : Nat) : Int)) (by omega) (by rw [List.length_append, hrl]; omega)
    rw [Nat.succ_mul, ← Nat.add_assoc] at g2
    have e : acc ++ passAll W P D ((rowsN K H).drop i) (colsN K W) = acc ++ passRow W P D (colsN K W) ((pY K + i * pV K : Nat) : Int) ++ passAll W P D ((rowsN K H).drop (i + 1)) (colsN K W) := by
      unfold rowsN
      rw [everyN_drop (x := pY K) (d := pV K) (n := cnt (pY K) (pV K) H) (i := i) (by omega)]
      unfold passAll
      rw [List.flatMap_cons, List.append_assoc]
    rw [e]
    have g3 := spec_cols o hK (pY K + i * pV K) hlt _ (cnt (pX K) (pU K) W) 0 acc (by omega) (by omega) (by rw [List.drop_zero]; exact g2)
    rw [show pX K + 0 * pU K = pX K by omega] at g3
    generalize pY K + i * pV K = y at hlt g3 ⊢
    refine Ev.step (fun k => ?_) g3
    simp only [spec_passData.l0]
    rw [if_pos (by omega)]
theorem specPass_ev (w h p : Int) (D : List Int) (k : Int) (hn : D.length ≤ 2000000) : Ev (fun j => spec_PassData.f j w h p D k) (passP w h p D k) := by
  unfold spec_PassData.f
  rw [ev_bind_iff (validImage_ev w h p D hn)]
  by_cases hv : okImg w h p D = true
  · refine ev_pos hv ?_
    rw [inRange_eq]
    simp only [Option.bind_some]
    by_cases g : 0 ≤ k ∧ k ≤ 6
    · refine ev_pos (by simp only [Bool.and_eq_true, decide_eq_true_eq]; exact g) ?_
      obtain ⟨W, H, P, rfl, rfl, rfl, o⟩ := (okImg_img hv).1.toN
      obtain ⟨K, rfl⟩ := Int.eq_ofNat_of_zero_le g.1
      have hK : K < 7 := by omega
      rw [passP_N hv hK]
      have h := spec_rows o hK (cnt (pY K) (pV K) H) 0 [] (by omega) (by have := (cnt16 hK o.2.1.2).2; simp only [List.length_nil]; omega)
      rw [show pY K + 0 * pV K = pY K by omega, List.drop_zero, List.nil_append] at h
      have h2 : Ev (fun j => spec_passData.f j (W : Int) (H : Int) (P : Int) D (K : Int)) (dataN W H P D K) := by
        unfold spec_passData.f
        rw [passStart_eq K hK]
        simp only [Option.bind_some]
        exact h
      rw [ev_bind_iff h2]
      exact Ev.now _
    · have e : passP w h p D k = [] := by unfold passP; rw [if_neg (fun c => g c.2)]
      rw [e]
      exact ev_neg (by simp only [Bool.and_eq_true, decide_eq_true_eq]; exact g) (Ev.now _)
  · have e : passP w h p D k = [] := by unfold passP; rw [if_neg (fun c => hv c.1)]
    rw [e]
    exact ev_neg hv (Ev.now _)

end Go.Proofs.Ytpadegboplcapaa.B
