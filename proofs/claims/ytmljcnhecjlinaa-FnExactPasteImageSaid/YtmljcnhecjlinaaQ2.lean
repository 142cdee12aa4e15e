-- Written by a program of this session (the kit's printer, with hand-proved contracts for the functions that it does not take).
import Derived.Test.YtmljcnhecjlinaaQ0
namespace Go.Proofs.Ytmljcnhecjlinaa.Q
open Go.RowKit Go.Proofs.YtmljcnhecjlinaaW.PrintWords Go.Proofs.YtmljcnhecjlinaaW.PrintLast Go.Proofs.YtmljcnhecjlinaaW.PrintMore
attribute [local go_sem] max2_int min2_int max_two min_two max_three min_three max_four min_four   -- for this text's walks alone
set_option linter.unusedVariables false
set_option linter.unusedSimpArgs false

/-! ### spec_newImage: function 48 -/
def spec_newImage.f (a0 : Int) (a1 : Int) (a2 : Int) : Option (Int × Int × Int × List Int) := if 0 ≤ (wrap64 ((wrap64 (a0 * a1)) * a2)) then (if (wrap64 ((wrap64 (a0 * a1)) * a2) : Int).toNat ≤ 35184372088832 then (some (a0, a1, a2, (List.replicate (wrap64 ((wrap64 (a0 * a1)) * a2) : Int).toNat 0))) else (none)) else (none)
set_option maxHeartbeats 8000000 in
set_option maxRecDepth 100000 in
theorem spec_newImage.calls (a0 : Int) (a1 : Int) (a2 : Int) (r1 : Int) (r2 : Int) (r3 : Int) (r4 : List Int) (w : World) (h : spec_newImage.f a0 a1 a2 = some (r1, r2, r3, r4)) :
    Calls Try.prog 48 #[.int .i64 a0, .int .i64 a1, .int .i64 a2] w fun e w' => ∃ v3_ : Value, e = .returned (.agg #[.int .i64 r1, .int .i64 r2, .int .i64 r3, v3_]) ∧ Kd.R (Kd.int .i64) 3 w' w.heap.size (fun _ => True) v3_ r4 ∧ Below w.heap.size w w' := by
  have hu28 := Try.underlying28
  have HB := Aside0.mk (Below.refl w.heap.size w)
  have H : (if 0 ≤ (wrap64 ((wrap64 (a0 * a1)) * a2)) then (if (wrap64 ((wrap64 (a0 * a1)) * a2) : Int).toNat ≤ 35184372088832 then (some (a0, a1, a2, (List.replicate (wrap64 ((wrap64 (a0 * a1)) * a2) : Int).toNat 0))) else (none)) else (none)) = some (r1, r2, r3, r4) := h
  clear h
  obtain ⟨ji4, hji4⟩ : ∃ j_ : Int, (wrap64 ((wrap64 (a0 * a1)) * a2)) = j_ := ⟨_, rfl⟩
  replace H : (if 0 ≤ (ji4) then (if (ji4 : Int).toNat ≤ 35184372088832 then (some (a0, a1, a2, (List.replicate (ji4 : Int).toNat 0))) else (none)) else (none)) = some (r1, r2, r3, r4) := by first | (rw [hji4] at H; exact H) | (simp only [hji4] at H ⊢; exact H)
  have hji4w : (IntKind.i64.wrap ((wrap64 (a0 * a1)) * a2)) = ji4 := (i64_w _).trans hji4
  by_cases c5 : 0 ≤ (ji4)
  · rw [if_pos c5] at H
    have c5b0 := eq_true c5
    have c5b1 : decide (0 ≤ (ji4)) = true := decide_eq_true c5
    clear c5
    by_cases c6 : (ji4 : Int).toNat ≤ 35184372088832
    · rw [if_pos c6] at H
      have c6b0 := eq_true c6
      have c6b1 : decide ((ji4 : Int).toNat ≤ 35184372088832) = true := decide_eq_true c6
      clear c6
      obtain ⟨y118, hy118⟩ : ∃ y_ : List Int, y_ = (List.replicate (ji4 : Int).toNat 0) := ⟨_, rfl⟩
      replace H : (some (a0, a1, a2, y118)) = some (r1, r2, r3, r4) := by first | (rw [hy118]; with_reducible exact H) | (have H2_ := (Option.bind_some _ _).symm.trans H; rw [hy118]; with_reducible exact H2_) | (have H2_ := (Option.bind_some _ _).symm.trans H; with_reducible exact H2_) | with_reducible exact H | (rw [hy118]; exact H) | exact H
      have Ny118 := Aside0.mk hy118
      clear hy118
      simp only [Option.some.injEq, Prod.mk.injEq] at H
      obtain ⟨rfl, rfl, rfl, rfl⟩ := H
      go_enter Try.func48, Try.ntmps48
      go_wp2_with (first | ((with_reducible refine gate_dst (N := 6) rfl ?_); refine box_event ?hg (N := 6) ?hd (cs := #[.int .i64 0, .int .i64 0, .int .i64 0, .slice none 0 0]) (t := 28) ?hr ?_; (case hd => rfl); (case hg => rfl); (case hr => first | (go_simp; done) | (go_simp; rfl)); intro gb117 hg w7 hbox hb; have n0_ := Aside0.mk (below_step (B.bl HB) hb); have n1_ := Aside0.mk (hbox); have n2_ := Aside0.mk (B.nle hg (below_size (B.bl HB))); have n3_ := Aside0.mk (B.nle hg (below_size (B.bl HB))); clear HB; have HB := n0_; have BK117 := n1_; have GW117 := n2_; have GE117 := n3_; clear n0_ n1_ n2_ n3_; clear hb hbox hg) | ((with_reducible refine gate_dst (N := 15) rfl ?_); refine Kd.R_make (Kd.int .i64) _ 3 rfl (N := 15) rfl 22 _ _ rfl ji4 rfl rfl Try.underlying22 (.int .i64 0) 8 info3 rfl (by decide) (by omega) 0 (ok := fun _ => True) (okp := fun _ => True) rfl (fun _ hk => hk) trivial (of_decide_eq_true (by first | (with_reducible assumption) | assumption)) (Nat.le_trans (Nat.mul_le_mul_right _ (of_decide_eq_true (by first | (with_reducible assumption) | assumption) : ji4.toNat ≤ 35184372088832)) (by omega)) (Below.refl _ _) (Nat.le_refl _) ?_; intro v119 w8 ho9 hb hg_ hnew_; clear hg_ hnew_; (first | rw [← Ny118.out] at ho9 | (simp only [Int.reduceToNat] at ho9; rw [← Ny118.out] at ho9)); have n0_ := Aside0.mk (Kd.R_lower ho9 (below_size (B.bl HB))); have n1_ := Aside0.mk (blk_below (B.kb BK117) hb); have n2_ := Aside0.mk (below_step (B.bl HB) hb); clear BK117 HB; have HO120 := n0_; have BK117 := n1_; have HB := n2_; clear n0_ n1_ n2_; clear hb ho9; obtain ⟨Ao10, co10, eo10⟩ := Kd.R_slice HO120.out; subst eo10; have hcz11_0 : w8.cell? ⟨gb117, 0, none⟩ = some (.int .i64 0) := B.bc BK117 0; have hcz11_1 : w8.cell? ⟨gb117, 1, none⟩ = some (.int .i64 0) := B.bc BK117 1; have hcz11_2 : w8.cell? ⟨gb117, 2, none⟩ = some (.int .i64 0) := B.bc BK117 2; have hcz11_3 : w8.cell? ⟨gb117, 3, none⟩ = some (.slice none 0 0) := B.bc BK117 3; have hfz11_0 := blk_frozen BK117.out 0; have hfz11_1 := blk_frozen BK117.out 1; have hfz11_2 := blk_frozen BK117.out 2; have hfz11_3 := blk_frozen BK117.out 3))
      refine bodyPost_ret (results_cell_row rfl _ _ gb117 28 #[.int .i64 a0, .int .i64 a1, .int .i64 a2, .slice Ao10 y118.length co10] (0, 0) _ rfl (B.kb0 (B.bp4 BK117)) Try.underlying28 rfl (by kernel_rfl)) rfl ?_
      exact ⟨_, by first | rfl | (simp [errW_none, errW_some] <;> rfl) | (simp only [← hji4]; first | rfl | (simp [errW_none, errW_some] <;> rfl)) | (simp [*, errW_none, errW_some] <;> rfl), by (with_reducible repeat (first | apply Kd.R_alloc | apply Kd.R_drewN | apply Kd.R_drew)); exact Kd.R_mono (B.rf4 HO120 BK117) (fun _ hk => trivial), B.bl HB⟩
    rw [if_neg c6] at H
    exact absurd H (by simp)
  rw [if_neg c5] at H
  exact absurd H (by simp)

end Go.Proofs.Ytmljcnhecjlinaa.Q
