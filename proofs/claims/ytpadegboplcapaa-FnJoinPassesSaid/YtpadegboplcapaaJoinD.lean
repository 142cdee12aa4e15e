/- The passes of a joined image are the lists, and the joined passes of an image are the image. No conditions. -/
import Derived.Test.YtpadegboplcapaaPassD
import Derived.Test.YtpadegboplcapaaJoin
namespace Go.Proofs.Ytpadegboplcapaa.B
open Go.RowKit Go.Proofs.Ytpadegboplcapaa.Q Go.Proofs.YtpadegboplcapaaW.PrintWords Go.Proofs.YtpadegboplcapaaW.PrintLast Go.Proofs.YtpadegboplcapaaW.PrintMore
set_option linter.unusedVariables false

theorem dataN_tab (W H p k : Nat) (D : List Int) : dataN W H p D k = tab (nC k W) (nR k H) (fun j i => pix D W p (pX k + j * pU k) (pY k + i * pV k)) := by
  unfold dataN passAll rowsN everyN tab
  rw [List.flatMap_map]
  show (List.range (nR k H)).flatMap _ = _
  refine flat_congr _ _ _ fun i hi => ?_
  unfold passRow colsN everyN
  rw [List.flatMap_map]
  rfl
theorem join_data {W H p : Nat} {l3 : List (List Int)} (h : okRest W H p l3 7 0 = true) {k : Nat} (hk : k < 7) : dataN W H p (joinTo W H p l3 7) k = rd_L1 l3 (k : Int) := by
  have hl := (okList_N (okRest_at h k (by omega) (by omega))).1
  rw [dataN_tab]
  have e := tab_pix (rd_L1 l3 (k : Int)) (nC k W) (nR k H) p (by rw [hl, Nat.mul_assoc])
  rw [← e]
  rw [e]
  exact (tab_congr _ _ _ _ fun j i hj hi => joinTo_pix h hk hj hi 7 (by omega) hk).trans e
theorem data_chunk {W H p k : Nat} {D : List Int} (hD : D.length = H * W * p) (hk : k < 7) {j i : Nat} (hj : j < nC k W) (hi : i < nR k H) : chunk (dataN W H p D k) p (i * nC k W + j) = pix D W p (pX k + j * pU k) (pY k + i * pV k) := by
  obtain ⟨a1, _, a3, _⟩ := pass_lt k hk
  rw [dataN_tab]
  exact (tab_eq (nC k W) (nR k H) p (fun j i => pix D W p (pX k + j * pU k) (pY k + i * pV k)) (fun x y hx hy => pix_length D W H p _ _ hD (cnt_lt a1 hx) (cnt_lt a3 hy))).2 j i hj hi
theorem data_ok {W H p k : Nat} {D : List Int} {l3 : List (List Int)} (o : NImg W H p D) (hb : ∀ z ∈ D, 0 ≤ z ∧ z ≤ 255) (hk : k < 7) (he : rd_L1 l3 (k : Int) = dataN W H p D k) : okList W H p l3 k = true := by
  unfold okList
  simp only [Bool.and_eq_true, List.all_eq_true, decide_eq_true_eq]
  rw [he]
  refine ⟨?_, fun z hz => ?_⟩
  · rw [data_len o hk]
    unfold rowsN colsN
    rw [everyN_length, everyN_length]
    rfl
  · rw [dataN_tab] at hz
    obtain ⟨a1, _, a3, _⟩ := pass_lt k hk
    exact tab_mem _ _ _ (fun z => 0 ≤ z ∧ z ≤ 255) (fun x y hx hy z hz => hb z (chunk_mem _ _ _ _ hz)) z hz
theorem okRest_all {W H p : Nat} {l3 : List (List Int)} (h : ∀ k, k < 7 → okList W H p l3 k = true) : ∀ d i, i + d ≤ 7 → okRest W H p l3 d i = true := by
  intro d
  induction d with
  | zero => intro i _; rfl
  | succ d ih =>
    intro i hi
    unfold okRest
    rw [h i (by omega), ih (i + 1) (by omega)]
    rfl
/-- The passes of an image make up the image. -/
theorem join_back {W H p : Nat} {D : List Int} {l3 : List (List Int)} (o : NImg W H p D) (hb : ∀ z ∈ D, 0 ≤ z ∧ z ≤ 255) (he : ∀ k : Nat, k < 7 → rd_L1 l3 (k : Int) = dataN W H p D k) : okRest W H p l3 7 0 = true ∧ joinTo W H p l3 7 = D := by
  have h := okRest_all (fun k hk => data_ok o hb hk (he k hk)) 7 0 (by omega)
  refine ⟨h, pix_ext _ _ W H p (joinTo_length h 7 (by omega)) o.2.2.2 fun X Y hX hY => ?_⟩
  obtain ⟨k, hk, j, i, hj, hi, rfl, rfl⟩ := pass_of W H X Y hX hY
  rw [joinTo_pix h hk hj hi 7 (by omega) hk, he k hk]
  exact data_chunk o.2.2.2 hk hj hi

end Go.Proofs.Ytpadegboplcapaa.B
