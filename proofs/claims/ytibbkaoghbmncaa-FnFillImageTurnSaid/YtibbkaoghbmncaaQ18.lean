-- Written by a program of this session (the kit's printer, with hand-proved contracts for the functions that it does not take).
import Derived.Test.YtibbkaoghbmncaaQ0
import Derived.Test.YtibbkaoghbmncaaQ3
import Derived.Test.YtibbkaoghbmncaaQ4
import Derived.Test.YtibbkaoghbmncaaQ5
import Derived.Test.YtibbkaoghbmncaaQ17
namespace Go.Proofs.Ytibbkaoghbmncaa.Q
open Go.RowKit Go.Proofs.YtibbkaoghbmncaaW.PrintWords Go.Proofs.YtibbkaoghbmncaaW.PrintLast Go.Proofs.YtibbkaoghbmncaaW.PrintMore
attribute [local go_sem] max2_int min2_int max_two min_two max_three min_three max_four min_four   -- for this text's walks alone
set_option linter.unusedVariables false
set_option linter.unusedSimpArgs false

/-! ### laws_FnFillImageTurn: function 8 -/
def laws_FnFillImageTurn.j0 : Nat → Int → Int → List Int → Bool → Int → Int → Int → List Int → Option (Bool)
  | 0, _, _, _, _, _, _, _, _ => none
  | k + 1, x3, x4, x5, x31, x686000, x686001, x686002, x686003 => if x31 = true then ((spec_FillImage.f k x3 x4 x5).bind fun bt693 => ((laws_equalImage.f k x686000 x686001 x686002 x686003 bt693.1 bt693.2.1 bt693.2.2.1 bt693.2.2.2).bind fun t699 => (some t699))) else ((impl_TurnImage.f x686000 x686001 x686002 x686003 1).bind fun bt700 => ((impl_FillImage.f k x4 x3 x5).bind fun bt706 => ((laws_equalImage.f k bt700.1 bt700.2.1 bt700.2.2.1 bt700.2.2.2 bt706.1 bt706.2.1 bt706.2.2.1 bt706.2.2.2).bind fun t712 => (if t712 = true then ((impl_MirrorImage.f x686000 x686001 x686002 x686003).bind fun bt713 => ((laws_equalImage.f k bt713.1 bt713.2.1 bt713.2.2.1 bt713.2.2.2 x686000 x686001 x686002 x686003).bind fun t719 => (some t719))) else (some false)))))
def laws_FnFillImageTurn.f (k : Nat) (l0 : List Int) : Option (Bool) := if (l0.length : Int) > 1048576 then (some true) else ((spec_DrawFillImage.f k l0).bind fun bt674 => ((impl_FillImage.f k bt674.1 bt674.2.1 bt674.2.2).bind fun bt679 => ((spec_FillImage.f k bt674.1 bt674.2.1 bt674.2.2).bind fun bt686 => ((laws_equalImage.f k bt679.1 bt679.2.1 bt679.2.2.1 bt679.2.2.2 bt686.1 bt686.2.1 bt686.2.2.1 bt686.2.2.2).bind fun t692 => (if t692 = true then (laws_FnFillImageTurn.j0 k bt674.1 bt674.2.1 bt674.2.2 (bt679.1 == 0) bt679.1 bt679.2.1 bt679.2.2.1 bt679.2.2.2) else (laws_FnFillImageTurn.j0 k bt674.1 bt674.2.1 bt674.2.2 true bt679.1 bt679.2.1 bt679.2.2.1 bt679.2.2.2))))))
theorem laws_FnFillImageTurn.mono_l : ∀ k, (∀ y0 y1 y2 y3 y4 y5 y6 y7, LeO (laws_FnFillImageTurn.j0 k y0 y1 y2 y3 y4 y5 y6 y7) (laws_FnFillImageTurn.j0 (k + 1) y0 y1 y2 y3 y4 y5 y6 y7))
  | 0 => fun _ _ _ _ _ _ _ _ r h => by simp [laws_FnFillImageTurn.j0] at h
  | k + 1 => by
    have ih0 := laws_FnFillImageTurn.mono_l k
    · intro y0 y1 y2 y3 y4 y5 y6 y7
      unfold laws_FnFillImageTurn.j0
      repeat' first
      | (with_reducible exact ih0 _ _ _ _ _ _ _ _)
      | (with_reducible exact impl_FillImage.mono _ _ _ _)
      | (with_reducible exact laws_equalImage.mono _ _ _ _ _ _ _ _ _)
      | (with_reducible exact spec_DrawFillImage.mono _ _)
      | (with_reducible exact spec_FillImage.mono _ _ _ _)
      | (with_reducible exact LeO.refl _)
      | (with_reducible exact LeO.none _)
      | (with_reducible refine LeO.ite ?_ ?_)
      | (with_reducible refine LeO.bind ?_ (fun _ => ?_))
      | exact ih0 _ _ _ _ _ _ _ _
      | exact impl_FillImage.mono _ _ _ _
      | exact laws_equalImage.mono _ _ _ _ _ _ _ _ _
      | exact spec_DrawFillImage.mono _ _
      | exact spec_FillImage.mono _ _ _ _
      | exact LeO.none _
      | refine LeO.ite ?_ ?_
      | refine LeO.bind ?_ (fun _ => ?_)
theorem laws_FnFillImageTurn.mono : ∀ a0 k, LeO (laws_FnFillImageTurn.f k a0) (laws_FnFillImageTurn.f (k + 1) a0) := by
  intro a0 k
  have ih0 := laws_FnFillImageTurn.mono_l k
  unfold laws_FnFillImageTurn.f
  repeat' first
      | (with_reducible exact ih0 _ _ _ _ _ _ _ _)
      | (with_reducible exact impl_FillImage.mono _ _ _ _)
      | (with_reducible exact laws_equalImage.mono _ _ _ _ _ _ _ _ _)
      | (with_reducible exact spec_DrawFillImage.mono _ _)
      | (with_reducible exact spec_FillImage.mono _ _ _ _)
      | (with_reducible exact LeO.refl _)
      | (with_reducible exact LeO.none _)
      | (with_reducible refine LeO.ite ?_ ?_)
      | (with_reducible refine LeO.bind ?_ (fun _ => ?_))
      | exact ih0 _ _ _ _ _ _ _ _
      | exact impl_FillImage.mono _ _ _ _
      | exact laws_equalImage.mono _ _ _ _ _ _ _ _ _
      | exact spec_DrawFillImage.mono _ _
      | exact spec_FillImage.mono _ _ _ _
      | exact LeO.none _
      | refine LeO.ite ?_ ?_
      | refine LeO.bind ?_ (fun _ => ?_)
def laws_FnFillImageTurn.T5 : Bool × List (List Nat × List Nat) := (true, [([], []), ([], []), ([], []), ([], []), ([1, 2, 3], [1, 2, 3]), ([0, 4, 4], [0, 4]), ([5], [5]), ([6, 5], [6]), ([7], [7]), ([8, 7], [7, 8]), ([9, 7], [7, 9]), ([7, 10], [7, 10])])
def laws_FnFillImageTurn.B5 : List Nat := [0, 0, 0, 0, 14, 31, 63, 127, 255, 511, 1023, 2047]
theorem laws_FnFillImageTurn.tab5 : rtab .any (opsOf Try.f8 5) = laws_FnFillImageTurn.T5 := by kernel_rfl
theorem laws_FnFillImageTurn.bits5 : waitsOk laws_FnFillImageTurn.T5.2 laws_FnFillImageTurn.B5 = true := by kernel_rfl
def laws_FnFillImageTurn.T7 : Bool × List (List Nat × List Nat) := (true, [([], []), ([0], [0]), ([], []), ([], []), ([], []), ([2, 3, 4, 1], [2, 3, 4]), ([1, 5, 5], [1, 5]), ([6, 6], [6]), ([7], [7]), ([8, 7, 7], [7, 8]), ([7], [7]), ([9, 10, 9, 7], [7, 9, 10]), ([7, 11], [7, 11]), ([12, 11, 0, 1, 2, 3, 4, 5, 6, 7, 8, 9, 10, 11, 12], [12])])
def laws_FnFillImageTurn.B7 : List Nat := [0, 1, 0, 0, 0, 31, 63, 127, 255, 511, 255, 2047, 4095, 8191]
theorem laws_FnFillImageTurn.tab7 : rtab .any (opsOf Try.f8 7) = laws_FnFillImageTurn.T7 := by kernel_rfl
theorem laws_FnFillImageTurn.bits7 : waitsOk laws_FnFillImageTurn.T7.2 laws_FnFillImageTurn.B7 = true := by kernel_rfl
set_option maxHeartbeats 8000000 in
set_option maxRecDepth 100000 in
theorem laws_FnFillImageTurn.calls (k : Nat) (A0 : Option Addr) (c0 : Nat) (l0 : List Int) (r : Bool) (w : World) (hr0 : Kd.C (Kd.int .u8) w A0 l0.length l0) (hc0 : l0.length ≤ c0) (h : laws_FnFillImageTurn.f k l0 = some r) (ht_ : Aside0 (r = true)) :
    Calls Try.prog 8 #[.slice A0 l0.length c0] w fun e w' => e = .returned (.bool r) ∧ Below w.heap.size w w' := by
  have hu26 := Try.underlying26
  have HR0 := Aside0.mk hr0
  have HC0 := Aside0.mk hc0
  clear hr0 hc0
  have HB := Aside0.mk (Below.refl w.heap.size w)
  have H : (if (l0.length : Int) > 1048576 then (some true) else ((spec_DrawFillImage.f k l0).bind fun bt674 => ((impl_FillImage.f k bt674.1 bt674.2.1 bt674.2.2).bind fun bt679 => ((spec_FillImage.f k bt674.1 bt674.2.1 bt674.2.2).bind fun bt686 => ((laws_equalImage.f k bt679.1 bt679.2.1 bt679.2.2.1 bt679.2.2.2 bt686.1 bt686.2.1 bt686.2.2.1 bt686.2.2.2).bind fun t692 => (if t692 = true then (laws_FnFillImageTurn.j0 k bt674.1 bt674.2.1 bt674.2.2 (bt679.1 == 0) bt679.1 bt679.2.1 bt679.2.2.1 bt679.2.2.2) else (laws_FnFillImageTurn.j0 k bt674.1 bt674.2.1 bt674.2.2 true bt679.1 bt679.2.1 bt679.2.2.1 bt679.2.2.2))))))) = some r := h
  clear h
  by_cases c2 : (l0.length : Int) > 1048576
  · rw [if_pos c2] at H
    have c2b0 : decide (1048576 < (l0.length : Int)) = true := decide_eq_true c2
    have c2b1 : decide (1048576 < l0.length) = true := decide_eq_true (by omega)
    clear c2
    obtain rfl := Option.some.inj H
    simp only [Option.some.injEq, Prod.mk.injEq] at H
    obtain ⟨rfl⟩ := H
    go_enter Try.func8, Try.ntmps8
    go_wp2
    go_ret
    exact ⟨by first | rfl | (simp [errW_none, errW_some] <;> rfl) | (simp [*, errW_none, errW_some] <;> rfl), B.bl HB⟩
  rw [if_neg c2] at H
  have c2b0 : decide (1048576 < (l0.length : Int)) = false := decide_eq_false c2
  have c2b1 : decide (1048576 < l0.length) = false := decide_eq_false (by omega)
  clear c2
  replace H := Option.bind_eq_some_iff.mp H
  obtain ⟨⟨t674, t675, t676⟩, A30, H⟩ := H
  replace H : ((impl_FillImage.f k t674 t675 t676).bind fun bt679 => ((spec_FillImage.f k t674 t675 t676).bind fun bt686 => ((laws_equalImage.f k bt679.1 bt679.2.1 bt679.2.2.1 bt679.2.2.2 bt686.1 bt686.2.1 bt686.2.2.1 bt686.2.2.2).bind fun t692 => (if t692 = true then (laws_FnFillImageTurn.j0 k t674 t675 t676 (bt679.1 == 0) bt679.1 bt679.2.1 bt679.2.2.1 bt679.2.2.2) else (laws_FnFillImageTurn.j0 k t674 t675 t676 true bt679.1 bt679.2.1 bt679.2.2.1 bt679.2.2.2))))) = some r := H
  have A3 := Aside0.mk A30
  clear A30
  replace H := Option.bind_eq_some_iff.mp H
  obtain ⟨⟨t679, t680, t681, t682⟩, A40, H⟩ := H
  replace H : ((spec_FillImage.f k t674 t675 t676).bind fun bt686 => ((laws_equalImage.f k t679 t680 t681 t682 bt686.1 bt686.2.1 bt686.2.2.1 bt686.2.2.2).bind fun t692 => (if t692 = true then (laws_FnFillImageTurn.j0 k t674 t675 t676 (t679 == 0) t679 t680 t681 t682) else (laws_FnFillImageTurn.j0 k t674 t675 t676 true t679 t680 t681 t682)))) = some r := H
  have A4 := Aside0.mk A40
  clear A40
  have HC5 := Aside0.mk H
  clear H
  go_enter Try.func8, Try.ntmps8
  go_upto_region 5 with (first | ((with_reducible refine gate_callee (f := 25) rfl ?_); refine goesL_ (some 12) rfl rfl Try.func25 (by kernel_rfl) rfl #[.slice A0 l0.length c0] rfl B.am ?_; (with_reducible refine (spec_DrawFillImage.calls k _ _ l0 t674 t675 t676 _ ?side1 ?side2 A3.out).mono ?_); (case side1 => exact B.kc (HR0.out)); (case side2 => exact HC0.out); rintro e w6 ⟨v677, rfl, ho0, hb⟩; refine ⟨_, rfl, ?_⟩; have n0_ := Aside0.mk (Kd.Q_lower ho0 (below_size (B.bl HB))); have n1_ := Aside0.mk (below_step (B.bl HB) hb); clear HB; have HO678 := n0_; have HB := n1_; clear n0_ n1_; (try clear hb); (try clear hb2); (try clear hk); (try clear hi); (try clear ho0); obtain ⟨Ao7, co7, eo7, _⟩ := Kd.Q_slice HO678.out; subst eo7) | ((with_reducible refine gate_callee (f := 26) rfl ?_); refine goesL_ (some 19) rfl rfl Try.func26 (by kernel_rfl) rfl #[.int .i64 t674, .int .i64 t675, .slice Ao7 t676.length co7] rfl B.am ?_; (with_reducible refine (impl_FillImage.calls k t674 t675 _ _ t676 t679 t680 t681 t682 _ ?side1 ?side2 A4.out).mono ?_); (case side1 => exact B.kc ((Kd.Q_reads' HO678.out).2.2)); (case side2 => exact (Kd.Q_reads' HO678.out).2.1); rintro e w8 ⟨v683, rfl, ho0, hb⟩; refine ⟨_, rfl, ?_⟩; have n0_ := Aside0.mk (Kd.Q_elder' (B.kq HO678) (Kd.R_base ho0) hb); have n1_ := Aside0.mk (Kd.R_lower (Kd.R_new' ho0 (Kd.Q_lt (B.kq HO678))) (below_size (B.bl HB))); have n2_ := Aside0.mk (below_step (B.bl HB) hb); clear HO678 HB; have HO678 := n0_; have HO684 := n1_; have HB := n2_; clear n0_ n1_ n2_; (try clear hb); (try clear hb2); (try clear hk); (try clear hi); (try clear ho0)) | ((with_reducible refine gate_dst (N := 6) rfl ?_); refine box_event ?hg (N := 6) ?hd (cs := #[.int .i64 0, .int .i64 0, .int .i64 0, .slice none 0 0]) (t := 26) ?hr ?_; (case hd => rfl); (case hg => rfl); (case hr => first | (go_simp; done) | (go_simp; rfl)); intro gb685 hg w9 hbox hb; have n0_ := Aside0.mk (Kd.Q_below (B.kq HO678) hb); have n1_ := Aside0.mk (Kd.R_below (B.kr HO684) hb); have n2_ := Aside0.mk (below_step (B.bl HB) hb); have n3_ := Aside0.mk (hbox); have n4_ := Aside0.mk (B.nle hg (below_size (B.bl HB))); have n5_ := Aside0.mk (B.nle hg (below_size (B.bl HB))); clear HO678 HO684 HB; have HO678 := n0_; have HO684 := n1_; have HB := n2_; have BK685 := n3_; have GW685 := n4_; have GE685 := n5_; clear n0_ n1_ n2_ n3_ n4_ n5_; clear hb hbox hg; have hcz10_0 : w9.cell? ⟨gb685, 0, none⟩ = some (.int .i64 0) := B.bc BK685 0; have hcz10_1 : w9.cell? ⟨gb685, 1, none⟩ = some (.int .i64 0) := B.bc BK685 1; have hcz10_2 : w9.cell? ⟨gb685, 2, none⟩ = some (.int .i64 0) := B.bc BK685 2; have hcz10_3 : w9.cell? ⟨gb685, 3, none⟩ = some (.slice none 0 0) := B.bc BK685 3; have hfz10_0 := blk_frozen BK685.out 0; have hfz10_1 := blk_frozen BK685.out 1; have hfz10_2 := blk_frozen BK685.out 2; have hfz10_3 := blk_frozen BK685.out 3; obtain ⟨Ao11, co11, eo11⟩ := Kd.R_slice HO684.out; subst eo11))
  (try simp only [Act.put, List.setIfInBounds_toArray, List.set_cons_zero, List.set_cons_succ])
  go_cut [31] (fun v31 wc => ∃ (kq : Nat) (x31_4 : Bool), v31 = .bool x31_4 ∧ Aside0 (laws_FnFillImageTurn.j0 kq t674 t675 t676 x31_4 t679 t680 t681 t682 = some r) ∧ Aside0 (kq ≤ k) ∧ Aside0 (Kd.Q (Kd.int .i64) 3 wc w.heap.size (fun k_ => some k_ ≠ ((.slice Ao11 t682.length co11) : Value).ownBlock) (.slice Ao7 t676.length co7) t676) ∧ Aside0 (Kd.R (Kd.int .i64) 3 wc w.heap.size (fun k_ => some k_ ≠ ((.slice Ao7 t676.length co7) : Value).ownBlock) (.slice Ao11 t682.length co11) t682) ∧ Aside0 (wc.heap[gb685]? = some (.cells #[.int .i64 t679, .int .i64 t680, .int .i64 t681, (.slice Ao11 t682.length co11)] 26 (0, 0))) ∧ Aside0 (Below w.heap.size w wc))
  case first =>
    have H := HC5.out
    clear HC5
    replace H := Option.bind_eq_some_iff.mp H
    obtain ⟨⟨t686, t687, t688, t689⟩, A120, H⟩ := H
    replace H : ((laws_equalImage.f k t679 t680 t681 t682 t686 t687 t688 t689).bind fun t692 => (if t692 = true then (laws_FnFillImageTurn.j0 k t674 t675 t676 (t679 == 0) t679 t680 t681 t682) else (laws_FnFillImageTurn.j0 k t674 t675 t676 true t679 t680 t681 t682))) = some r := H
    have A12 := Aside0.mk A120
    clear A120
    replace H := Option.bind_eq_some_iff.mp H
    obtain ⟨t692, A130, H⟩ := H
    replace H : (if t692 = true then (laws_FnFillImageTurn.j0 k t674 t675 t676 (t679 == 0) t679 t680 t681 t682) else (laws_FnFillImageTurn.j0 k t674 t675 t676 true t679 t680 t681 t682)) = some r := H
    have A13 := Aside0.mk A130
    clear A130
    by_cases c14 : t692 = true
    · subst c14
      have H1 : (laws_FnFillImageTurn.j0 k t674 t675 t676 (t679 == 0) t679 t680 t681 t682) = some r := by rw [if_pos rfl] at H; exact H
      clear H
      have H := H1
      clear H1
      have H' := Aside0.mk H
      clear H
      try go_wp2
      have n0_ : Aside0 (Kd.Q (Kd.int .i64) 3 ((((w9.setCell ⟨gb685, 0, none⟩ (.int .i64 t679)).setCell ⟨gb685, 1, none⟩ (.int .i64 t680)).setCell ⟨gb685, 2, none⟩ (.int .i64 t681)).setCell ⟨gb685, 3, none⟩ (.slice Ao11 t682.length co11)) w.heap.size (fun k_ => some k_ ≠ (.slice Ao11 t682.length co11 : Value).ownBlock) (.slice Ao7 t676.length co7) t676) := ⟨by (with_reducible repeat (first | apply Kd.Q_alloc | apply Kd.Q_drewN | apply Kd.Q_drew)); exact Kd.Q_mono (Kd.Q_far (p := ⟨gb685, 3, none⟩) (Kd.Q_far (p := ⟨gb685, 2, none⟩) (Kd.Q_far (p := ⟨gb685, 1, none⟩) (Kd.Q_far (p := ⟨gb685, 0, none⟩) (Kd.Q_types HO678.out BK685.out (by decide)) (fun _ hk => hk.2) (.int .i64 t679)) (fun _ hk => hk.2) (.int .i64 t680)) (fun _ hk => hk.2) (.int .i64 t681)) (fun _ hk => hk.2) (.slice Ao11 t682.length co11)) (fun _ hk => hk.1.2)⟩
      have n1_ : Aside0 (Kd.R (Kd.int .i64) 3 ((((w9.setCell ⟨gb685, 0, none⟩ (.int .i64 t679)).setCell ⟨gb685, 1, none⟩ (.int .i64 t680)).setCell ⟨gb685, 2, none⟩ (.int .i64 t681)).setCell ⟨gb685, 3, none⟩ (.slice Ao11 t682.length co11)) w.heap.size (fun k_ => some k_ ≠ (.slice Ao7 t676.length co7 : Value).ownBlock) (.slice Ao11 t682.length co11) t682) := ⟨B.kr0 (Kd.R_mono (B.rf4 HO684 BK685) (fun _ hk => hk.1.2))⟩
      have n2_ : Aside0 (((((w9.setCell ⟨gb685, 0, none⟩ (.int .i64 t679)).setCell ⟨gb685, 1, none⟩ (.int .i64 t680)).setCell ⟨gb685, 2, none⟩ (.int .i64 t681)).setCell ⟨gb685, 3, none⟩ (.slice Ao11 t682.length co11)).heap[gb685]? = some (.cells #[.int .i64 t679, .int .i64 t680, .int .i64 t681, .slice Ao11 t682.length co11] 26 (0, 0))) := ⟨B.kb0 (B.bp4 BK685)⟩
      have n3_ : Aside0 (Below w.heap.size w ((((w9.setCell ⟨gb685, 0, none⟩ (.int .i64 t679)).setCell ⟨gb685, 1, none⟩ (.int .i64 t680)).setCell ⟨gb685, 2, none⟩ (.int .i64 t681)).setCell ⟨gb685, 3, none⟩ (.slice Ao11 t682.length co11))) := ⟨B.bl HB⟩
      (try clear HO678)
      (try clear HO684)
      (try clear BK685)
      (try clear HB)
      generalize ((((w9.setCell ⟨gb685, 0, none⟩ (.int .i64 t679)).setCell ⟨gb685, 1, none⟩ (.int .i64 t680)).setCell ⟨gb685, 2, none⟩ (.int .i64 t681)).setCell ⟨gb685, 3, none⟩ (.slice Ao11 t682.length co11)) = w15 at n0_ n1_ n2_ n3_ ⊢
      have HO678 := n0_
      have HO684 := n1_
      have BK685 := n2_
      have HB := n3_
      clear n0_ n1_ n2_ n3_
      have n0_ := Aside0.mk (Kd.Q_drew HO678.out)
      have n1_ := Aside0.mk (Kd.R_drew HO684.out)
      have n2_ := Aside0.mk (blk_drew BK685.out)
      have n3_ := Aside0.mk (below_drew1 HB.out)
      clear HO678 HO684 BK685 HB
      have HO678 := n0_
      have HO684 := n1_
      have BK685 := n2_
      have HB := n3_
      clear n0_ n1_ n2_ n3_
      refine start_ (n := 12) (S := fun w' => w'.cell? ⟨gb685, 0, none⟩ = some (.int .i64 t679) ∧ w'.cell? ⟨gb685, 1, none⟩ = some (.int .i64 t680) ∧ w'.cell? ⟨gb685, 2, none⟩ = some (.int .i64 t681) ∧ w'.cell? ⟨gb685, 3, none⟩ = some (.slice Ao11 t682.length co11)) (ds := []) #[false, false, false, false, false, false, false, false, false, false, false, false] (by kernel_rfl) rfl rfl ⟨B.bc BK685 0, B.bc BK685 1, B.bc BK685 2, B.bc BK685 3⟩ (fun hHeld => ?_); refine with_tabW laws_FnFillImageTurn.tab5 laws_FnFillImageTurn.bits5 (fun HT_ HW_ => ?_)
      generalize w15.drew = w16 at HO678 HO684 BK685 HB hHeld ⊢
      refine pure_ (i := 1) (N := some 21) (v := ?_) (a' := ?_) #[false, true, false, false, false, false, false, false, false, false, false, false] rfl rfl (any_of HT_.out (by kernel_rfl)) (fun _ _ _ h => h) (Or.inl ⟨by rfl, ?_⟩) ?_ ?_
      rotate_left
      · intro w'
        go_simp
        with_reducible rfl
      rotate_left
      · simp only [Act.put, List.setIfInBounds_toArray, List.set_cons_zero, List.set_cons_succ, i64_w, i32_w]
        rfl
      refine pure_ (i := 2) (N := some 22) (v := ?_) (a' := ?_) #[false, true, true, false, false, false, false, false, false, false, false, false] rfl rfl (any_of HT_.out (by kernel_rfl)) (fun _ _ _ h => h) (Or.inl ⟨by rfl, ?_⟩) ?_ ?_
      rotate_left
      · intro w'
        go_simp
        with_reducible rfl
      rotate_left
      · simp only [Act.put, List.setIfInBounds_toArray, List.set_cons_zero, List.set_cons_succ, i64_w, i32_w]
        rfl
      refine pure_ (i := 3) (N := some 23) (v := ?_) (a' := ?_) #[false, true, true, true, false, false, false, false, false, false, false, false] rfl rfl (any_of HT_.out (by kernel_rfl)) (fun _ _ _ h => h) (Or.inl ⟨by rfl, ?_⟩) ?_ ?_
      rotate_left
      · intro w'
        go_simp
        with_reducible rfl
      rotate_left
      · simp only [Act.put, List.setIfInBounds_toArray, List.set_cons_zero, List.set_cons_succ, i64_w, i32_w]
        rfl
      refine take_ (i := 0) (N := some 20) (v := ?_) (a' := ?_) #[true, true, true, true, false, false, false, false, false, false, false, false] rfl rfl (take_ofW HT_.out HW_.out (by kernel_rfl)) (fun _ _ _ h => h) (Or.inl ⟨by rfl, ?_⟩) hHeld ?_ ?_
      rotate_left
      · rintro w' ⟨s0, s1, s2, s3⟩
        go_simp
        with_reducible rfl
      rotate_left
      · simp only [Act.put, List.setIfInBounds_toArray, List.set_cons_zero, List.set_cons_succ, i64_w, i32_w]
        rfl
      refine one_ (i := 4) (N := some 24) #[true, true, true, true, true, false, false, false, false, false, false, false] rfl rfl (one_of HT_.out (by kernel_rfl)) (by decide) (fun K hK => ?_)
      refine goes_ Try.func27 (by kernel_rfl) rfl #[.int .i64 t674, .int .i64 t675, .slice Ao7 t676.length co7] (by rfl) rfl rfl B.am ?_
      with_reducible refine (spec_FillImage.calls k t674 t675 _ _ t676 t686 t687 t688 t689 _ ?side1 ?side2 A12.out).mono ?_
      (case side1 => exact B.kc ((Kd.Q_reads' HO678.out).2.2))
      (case side2 => exact (Kd.Q_reads' HO678.out).2.1)
      rintro e w17 ⟨v690, rfl, ho0, hb⟩
      refine ⟨_, rfl, ?_⟩
      have n0_ := Aside0.mk (Kd.Q_elder' (B.kq HO678) (Kd.R_base ho0) hb)
      have n1_ := Aside0.mk (Kd.R_elder' (B.kr HO684) (Kd.R_base ho0) hb)
      have n2_ := Aside0.mk (Kd.R_lower (Kd.R_new' (Kd.R_new' ho0 (Kd.Q_lt (B.kq HO678))) (Kd.R_lt (B.kr HO684))) (below_size (B.bl HB)))
      have n3_ := Aside0.mk (blk_below (B.kb BK685) hb)
      have n4_ := Aside0.mk (below_step (B.bl HB) hb)
      clear HO678 HO684 BK685 HB
      have HO678 := n0_
      have HO684 := n1_
      have HO691 := n2_
      have BK685 := n3_
      have HB := n4_
      clear n0_ n1_ n2_ n3_ n4_
      (try clear hb)
      (try clear hb2)
      (try clear hk)
      (try clear hi)
      (try clear ho0)
      obtain ⟨Ao18, co18, eo18⟩ := Kd.R_slice HO691.out
      (first | subst eo18 | (injection eo18 with f1_ f2_ f3_; have f4_ := f1_.symm; have f5_ := f3_.symm; clear f1_ f2_ f3_; subst f4_; subst f5_))
      refine hK.out _ _ ⟨B.bc BK685 0, B.bc BK685 1, B.bc BK685 2, B.bc BK685 3⟩ (fun hHeld => ?_)
      clear hK K
      refine norm_ (a' := ?_) ?_ ?_
      rotate_left
      · show Act.put _ (some 24) _ = _
        simp only [Act.put, List.setIfInBounds_toArray, List.set_cons_zero, List.set_cons_succ, i64_w, i32_w]
        rfl
      refine one_ (i := 5) (N := some 25) #[true, true, true, true, true, true, false, false, false, false, false, false] rfl rfl (one_of HT_.out (by kernel_rfl)) (by decide) (fun K hK => ?_)
      refine goes_ Try.func20 (by kernel_rfl) rfl #[.agg #[.int .i64 t679, .int .i64 t680, .int .i64 t681, .slice Ao11 t682.length co11], .agg #[.int .i64 t686, .int .i64 t687, .int .i64 t688, .slice Ao18 t689.length co18]] (by rfl) rfl rfl B.am ?_
      with_reducible refine (laws_equalImage.calls k t679 t680 t681 _ _ t682 t686 t687 t688 _ _ t689 true _ ?side1 ?side2 ?side3 ?side4 A13.out).mono ?_
      (case side1 => exact B.kc ((Kd.R_reads' HO684.out).2.2))
      (case side2 => exact (Kd.R_reads' HO684.out).2.1)
      (case side3 => exact B.kc ((Kd.R_reads' HO691.out).2.2))
      (case side4 => exact (Kd.R_reads' HO691.out).2.1)
      rintro e w19 ⟨rfl, hb⟩
      refine ⟨_, rfl, ?_⟩
      have n0_ := Aside0.mk (Kd.Q_below (B.kq HO678) hb)
      have n1_ := Aside0.mk (Kd.R_below (B.kr HO684) hb)
      have n2_ := Aside0.mk (Kd.R_below (B.kr HO691) hb)
      have n3_ := Aside0.mk (blk_below (B.kb BK685) hb)
      have n4_ := Aside0.mk (below_step (B.bl HB) hb)
      clear HO678 HO684 HO691 BK685 HB
      have HO678 := n0_
      have HO684 := n1_
      have HO691 := n2_
      have BK685 := n3_
      have HB := n4_
      clear n0_ n1_ n2_ n3_ n4_
      (try clear hb)
      (try clear hb2)
      (try clear hk)
      (try clear hi)
      refine hK.out _ _ ⟨B.bc BK685 0, B.bc BK685 1, B.bc BK685 2, B.bc BK685 3⟩ (fun hHeld => ?_)
      clear hK K
      refine norm_ (a' := ?_) ?_ ?_
      rotate_left
      · show Act.put _ (some 25) _ = _
        simp only [Act.put, List.setIfInBounds_toArray, List.set_cons_zero, List.set_cons_succ, i64_w, i32_w]
        rfl
      refine pure_ (i := 6) (N := some 26) (v := ?_) (a' := ?_) #[true, true, true, true, true, true, true, false, false, false, false, false] rfl rfl (any_of HT_.out (by kernel_rfl)) (fun _ _ _ h => h) (Or.inl ⟨by rfl, ?_⟩) ?_ ?_
      rotate_left
      · intro w'
        go_simp
        with_reducible rfl
      rotate_left
      · simp only [Act.put, List.setIfInBounds_toArray, List.set_cons_zero, List.set_cons_succ, i64_w, i32_w]
        rfl
      refine pure_ (i := 7) (N := some 27) (v := ?_) (a' := ?_) #[true, true, true, true, true, true, true, true, false, false, false, false] rfl rfl (any_of HT_.out (by kernel_rfl)) (fun _ _ _ h => h) (Or.inl ⟨by rfl, ?_⟩) ?_ ?_
      rotate_left
      · intro w'
        go_simp
        with_reducible rfl
      rotate_left
      · simp only [Act.put, List.setIfInBounds_toArray, List.set_cons_zero, List.set_cons_succ, i64_w, i32_w]
        rfl
      refine pure_ (i := 8) (N := some 28) (v := ?_) (a' := ?_) #[true, true, true, true, true, true, true, true, true, false, false, false] rfl rfl (any_of HT_.out (by kernel_rfl)) (fun _ _ _ h => h) (Or.inl ⟨by rfl, ?_⟩) ?_ ?_
      rotate_left
      · intro w'
        go_simp
        with_reducible rfl
      rotate_left
      · simp only [Act.put, List.setIfInBounds_toArray, List.set_cons_zero, List.set_cons_succ, i64_w, i32_w]
        rfl
      refine take_ (i := 9) (N := some 29) (v := ?_) (a' := ?_) #[true, true, true, true, true, true, true, true, true, true, false, false] rfl rfl (take_ofW HT_.out HW_.out (by kernel_rfl)) (fun _ _ _ h => h) (Or.inl ⟨by rfl, ?_⟩) hHeld ?_ ?_
      rotate_left
      · rintro w' ⟨s0, s1, s2, s3⟩
        go_simp
        with_reducible rfl
      rotate_left
      · simp only [Act.put, List.setIfInBounds_toArray, List.set_cons_zero, List.set_cons_succ, i64_w, i32_w]
        rfl
      refine pure_ (i := 10) (N := some 30) (v := ?_) (a' := ?_) #[true, true, true, true, true, true, true, true, true, true, true, false] rfl rfl (any_of HT_.out (by kernel_rfl)) (fun _ _ _ h => h) (Or.inl ⟨by rfl, ?_⟩) ?_ ?_
      rotate_left
      · intro w'
        go_simp
        with_reducible rfl
      rotate_left
      · simp only [Act.put, List.setIfInBounds_toArray, List.set_cons_zero, List.set_cons_succ, i64_w, i32_w]
        rfl
      refine pure_ (i := 11) (N := some 31) (v := ?_) (a' := ?_) #[true, true, true, true, true, true, true, true, true, true, true, true] rfl rfl (any_of HT_.out (by kernel_rfl)) (fun _ _ _ h => h) (Or.inl ⟨by rfl, ?_⟩) ?_ ?_
      rotate_left
      · intro w'
        go_simp
        with_reducible rfl
      rotate_left
      · simp only [Act.put, List.setIfInBounds_toArray, List.set_cons_zero, List.set_cons_succ, i64_w, i32_w]
        rfl
      refine done_ (done_of HT_.out (by kernel_rfl)) ?_
      try go_wp2
      go_meet
      case rel => exact ⟨_, ((t679 == 0)), (by first | rfl | (simp; done) | (simp [*]; done)), H', ⟨by first | omega | exact Nat.le_refl _⟩, ⟨by (with_reducible repeat (first | apply Kd.Q_alloc | apply Kd.Q_drewN | apply Kd.Q_drew)); exact Kd.Q_mono HO678.out (fun _ hk => hk.1)⟩, ⟨B.kr0 (Kd.R_mono HO684.out (fun _ hk => hk.1))⟩, ⟨B.kb BK685⟩, ⟨B.bl HB⟩⟩
    replace c14 := Bool.eq_false_iff.mpr c14
    subst c14
    have H1 : (laws_FnFillImageTurn.j0 k t674 t675 t676 true t679 t680 t681 t682) = some r := by rw [if_neg (show ¬ (false = true) by decide)] at H; exact H
    clear H
    have H := H1
    clear H1
    have H' := Aside0.mk H
    clear H
    try go_wp2
    have n0_ : Aside0 (Kd.Q (Kd.int .i64) 3 ((((w9.setCell ⟨gb685, 0, none⟩ (.int .i64 t679)).setCell ⟨gb685, 1, none⟩ (.int .i64 t680)).setCell ⟨gb685, 2, none⟩ (.int .i64 t681)).setCell ⟨gb685, 3, none⟩ (.slice Ao11 t682.length co11)) w.heap.size (fun k_ => some k_ ≠ (.slice Ao11 t682.length co11 : Value).ownBlock) (.slice Ao7 t676.length co7) t676) := ⟨by (with_reducible repeat (first | apply Kd.Q_alloc | apply Kd.Q_drewN | apply Kd.Q_drew)); exact Kd.Q_mono (Kd.Q_far (p := ⟨gb685, 3, none⟩) (Kd.Q_far (p := ⟨gb685, 2, none⟩) (Kd.Q_far (p := ⟨gb685, 1, none⟩) (Kd.Q_far (p := ⟨gb685, 0, none⟩) (Kd.Q_types HO678.out BK685.out (by decide)) (fun _ hk => hk.2) (.int .i64 t679)) (fun _ hk => hk.2) (.int .i64 t680)) (fun _ hk => hk.2) (.int .i64 t681)) (fun _ hk => hk.2) (.slice Ao11 t682.length co11)) (fun _ hk => hk.1.2)⟩
    have n1_ : Aside0 (Kd.R (Kd.int .i64) 3 ((((w9.setCell ⟨gb685, 0, none⟩ (.int .i64 t679)).setCell ⟨gb685, 1, none⟩ (.int .i64 t680)).setCell ⟨gb685, 2, none⟩ (.int .i64 t681)).setCell ⟨gb685, 3, none⟩ (.slice Ao11 t682.length co11)) w.heap.size (fun k_ => some k_ ≠ (.slice Ao7 t676.length co7 : Value).ownBlock) (.slice Ao11 t682.length co11) t682) := ⟨B.kr0 (Kd.R_mono (B.rf4 HO684 BK685) (fun _ hk => hk.1.2))⟩
    have n2_ : Aside0 (((((w9.setCell ⟨gb685, 0, none⟩ (.int .i64 t679)).setCell ⟨gb685, 1, none⟩ (.int .i64 t680)).setCell ⟨gb685, 2, none⟩ (.int .i64 t681)).setCell ⟨gb685, 3, none⟩ (.slice Ao11 t682.length co11)).heap[gb685]? = some (.cells #[.int .i64 t679, .int .i64 t680, .int .i64 t681, .slice Ao11 t682.length co11] 26 (0, 0))) := ⟨B.kb0 (B.bp4 BK685)⟩
    have n3_ : Aside0 (Below w.heap.size w ((((w9.setCell ⟨gb685, 0, none⟩ (.int .i64 t679)).setCell ⟨gb685, 1, none⟩ (.int .i64 t680)).setCell ⟨gb685, 2, none⟩ (.int .i64 t681)).setCell ⟨gb685, 3, none⟩ (.slice Ao11 t682.length co11))) := ⟨B.bl HB⟩
    (try clear HO678)
    (try clear HO684)
    (try clear BK685)
    (try clear HB)
    generalize ((((w9.setCell ⟨gb685, 0, none⟩ (.int .i64 t679)).setCell ⟨gb685, 1, none⟩ (.int .i64 t680)).setCell ⟨gb685, 2, none⟩ (.int .i64 t681)).setCell ⟨gb685, 3, none⟩ (.slice Ao11 t682.length co11)) = w20 at n0_ n1_ n2_ n3_ ⊢
    have HO678 := n0_
    have HO684 := n1_
    have BK685 := n2_
    have HB := n3_
    clear n0_ n1_ n2_ n3_
    have n0_ := Aside0.mk (Kd.Q_drew HO678.out)
    have n1_ := Aside0.mk (Kd.R_drew HO684.out)
    have n2_ := Aside0.mk (blk_drew BK685.out)
    have n3_ := Aside0.mk (below_drew1 HB.out)
    clear HO678 HO684 BK685 HB
    have HO678 := n0_
    have HO684 := n1_
    have BK685 := n2_
    have HB := n3_
    clear n0_ n1_ n2_ n3_
    refine start_ (n := 12) (S := fun w' => w'.cell? ⟨gb685, 0, none⟩ = some (.int .i64 t679) ∧ w'.cell? ⟨gb685, 1, none⟩ = some (.int .i64 t680) ∧ w'.cell? ⟨gb685, 2, none⟩ = some (.int .i64 t681) ∧ w'.cell? ⟨gb685, 3, none⟩ = some (.slice Ao11 t682.length co11)) (ds := []) #[false, false, false, false, false, false, false, false, false, false, false, false] (by kernel_rfl) rfl rfl ⟨B.bc BK685 0, B.bc BK685 1, B.bc BK685 2, B.bc BK685 3⟩ (fun hHeld => ?_); refine with_tabW laws_FnFillImageTurn.tab5 laws_FnFillImageTurn.bits5 (fun HT_ HW_ => ?_)
    generalize w20.drew = w21 at HO678 HO684 BK685 HB hHeld ⊢
    refine pure_ (i := 1) (N := some 21) (v := ?_) (a' := ?_) #[false, true, false, false, false, false, false, false, false, false, false, false] rfl rfl (any_of HT_.out (by kernel_rfl)) (fun _ _ _ h => h) (Or.inl ⟨by rfl, ?_⟩) ?_ ?_
    rotate_left
    · intro w'
      go_simp
      with_reducible rfl
    rotate_left
    · simp only [Act.put, List.setIfInBounds_toArray, List.set_cons_zero, List.set_cons_succ, i64_w, i32_w]
      rfl
    refine pure_ (i := 2) (N := some 22) (v := ?_) (a' := ?_) #[false, true, true, false, false, false, false, false, false, false, false, false] rfl rfl (any_of HT_.out (by kernel_rfl)) (fun _ _ _ h => h) (Or.inl ⟨by rfl, ?_⟩) ?_ ?_
    rotate_left
    · intro w'
      go_simp
      with_reducible rfl
    rotate_left
    · simp only [Act.put, List.setIfInBounds_toArray, List.set_cons_zero, List.set_cons_succ, i64_w, i32_w]
      rfl
    refine pure_ (i := 3) (N := some 23) (v := ?_) (a' := ?_) #[false, true, true, true, false, false, false, false, false, false, false, false] rfl rfl (any_of HT_.out (by kernel_rfl)) (fun _ _ _ h => h) (Or.inl ⟨by rfl, ?_⟩) ?_ ?_
    rotate_left
    · intro w'
      go_simp
      with_reducible rfl
    rotate_left
    · simp only [Act.put, List.setIfInBounds_toArray, List.set_cons_zero, List.set_cons_succ, i64_w, i32_w]
      rfl
    refine take_ (i := 0) (N := some 20) (v := ?_) (a' := ?_) #[true, true, true, true, false, false, false, false, false, false, false, false] rfl rfl (take_ofW HT_.out HW_.out (by kernel_rfl)) (fun _ _ _ h => h) (Or.inl ⟨by rfl, ?_⟩) hHeld ?_ ?_
    rotate_left
    · rintro w' ⟨s0, s1, s2, s3⟩
      go_simp
      with_reducible rfl
    rotate_left
    · simp only [Act.put, List.setIfInBounds_toArray, List.set_cons_zero, List.set_cons_succ, i64_w, i32_w]
      rfl
    refine one_ (i := 4) (N := some 24) #[true, true, true, true, true, false, false, false, false, false, false, false] rfl rfl (one_of HT_.out (by kernel_rfl)) (by decide) (fun K hK => ?_)
    refine goes_ Try.func27 (by kernel_rfl) rfl #[.int .i64 t674, .int .i64 t675, .slice Ao7 t676.length co7] (by rfl) rfl rfl B.am ?_
    with_reducible refine (spec_FillImage.calls k t674 t675 _ _ t676 t686 t687 t688 t689 _ ?side1 ?side2 A12.out).mono ?_
    (case side1 => exact B.kc ((Kd.Q_reads' HO678.out).2.2))
    (case side2 => exact (Kd.Q_reads' HO678.out).2.1)
    rintro e w22 ⟨v690, rfl, ho0, hb⟩
    refine ⟨_, rfl, ?_⟩
    have n0_ := Aside0.mk (Kd.Q_elder' (B.kq HO678) (Kd.R_base ho0) hb)
    have n1_ := Aside0.mk (Kd.R_elder' (B.kr HO684) (Kd.R_base ho0) hb)
    have n2_ := Aside0.mk (Kd.R_lower (Kd.R_new' (Kd.R_new' ho0 (Kd.Q_lt (B.kq HO678))) (Kd.R_lt (B.kr HO684))) (below_size (B.bl HB)))
    have n3_ := Aside0.mk (blk_below (B.kb BK685) hb)
    have n4_ := Aside0.mk (below_step (B.bl HB) hb)
    clear HO678 HO684 BK685 HB
    have HO678 := n0_
    have HO684 := n1_
    have HO691 := n2_
    have BK685 := n3_
    have HB := n4_
    clear n0_ n1_ n2_ n3_ n4_
    (try clear hb)
    (try clear hb2)
    (try clear hk)
    (try clear hi)
    (try clear ho0)
    obtain ⟨Ao23, co23, eo23⟩ := Kd.R_slice HO691.out
    (first | subst eo23 | (injection eo23 with f1_ f2_ f3_; have f4_ := f1_.symm; have f5_ := f3_.symm; clear f1_ f2_ f3_; subst f4_; subst f5_))
    refine hK.out _ _ ⟨B.bc BK685 0, B.bc BK685 1, B.bc BK685 2, B.bc BK685 3⟩ (fun hHeld => ?_)
    clear hK K
    refine norm_ (a' := ?_) ?_ ?_
    rotate_left
    · show Act.put _ (some 24) _ = _
      simp only [Act.put, List.setIfInBounds_toArray, List.set_cons_zero, List.set_cons_succ, i64_w, i32_w]
      rfl
    refine one_ (i := 5) (N := some 25) #[true, true, true, true, true, true, false, false, false, false, false, false] rfl rfl (one_of HT_.out (by kernel_rfl)) (by decide) (fun K hK => ?_)
    refine goes_ Try.func20 (by kernel_rfl) rfl #[.agg #[.int .i64 t679, .int .i64 t680, .int .i64 t681, .slice Ao11 t682.length co11], .agg #[.int .i64 t686, .int .i64 t687, .int .i64 t688, .slice Ao23 t689.length co23]] (by rfl) rfl rfl B.am ?_
    with_reducible refine (laws_equalImage.calls k t679 t680 t681 _ _ t682 t686 t687 t688 _ _ t689 false _ ?side1 ?side2 ?side3 ?side4 A13.out).mono ?_
    (case side1 => exact B.kc ((Kd.R_reads' HO684.out).2.2))
    (case side2 => exact (Kd.R_reads' HO684.out).2.1)
    (case side3 => exact B.kc ((Kd.R_reads' HO691.out).2.2))
    (case side4 => exact (Kd.R_reads' HO691.out).2.1)
    rintro e w24 ⟨rfl, hb⟩
    refine ⟨_, rfl, ?_⟩
    have n0_ := Aside0.mk (Kd.Q_below (B.kq HO678) hb)
    have n1_ := Aside0.mk (Kd.R_below (B.kr HO684) hb)
    have n2_ := Aside0.mk (Kd.R_below (B.kr HO691) hb)
    have n3_ := Aside0.mk (blk_below (B.kb BK685) hb)
    have n4_ := Aside0.mk (below_step (B.bl HB) hb)
    clear HO678 HO684 HO691 BK685 HB
    have HO678 := n0_
    have HO684 := n1_
    have HO691 := n2_
    have BK685 := n3_
    have HB := n4_
    clear n0_ n1_ n2_ n3_ n4_
    (try clear hb)
    (try clear hb2)
    (try clear hk)
    (try clear hi)
    refine hK.out _ _ ⟨B.bc BK685 0, B.bc BK685 1, B.bc BK685 2, B.bc BK685 3⟩ (fun hHeld => ?_)
    clear hK K
    refine norm_ (a' := ?_) ?_ ?_
    rotate_left
    · show Act.put _ (some 25) _ = _
      simp only [Act.put, List.setIfInBounds_toArray, List.set_cons_zero, List.set_cons_succ, i64_w, i32_w]
      rfl
    refine pure_ (i := 6) (N := some 26) (v := ?_) (a' := ?_) #[true, true, true, true, true, true, true, false, false, false, false, false] rfl rfl (any_of HT_.out (by kernel_rfl)) (fun _ _ _ h => h) (Or.inl ⟨by rfl, ?_⟩) ?_ ?_
    rotate_left
    · intro w'
      go_simp
      with_reducible rfl
    rotate_left
    · simp only [Act.put, List.setIfInBounds_toArray, List.set_cons_zero, List.set_cons_succ, i64_w, i32_w]
      rfl
    refine pure_ (i := 7) (N := some 27) (v := ?_) (a' := ?_) #[true, true, true, true, true, true, true, true, false, false, false, false] rfl rfl (any_of HT_.out (by kernel_rfl)) (fun _ _ _ h => h) (Or.inl ⟨by rfl, ?_⟩) ?_ ?_
    rotate_left
    · intro w'
      go_simp
      with_reducible rfl
    rotate_left
    · simp only [Act.put, List.setIfInBounds_toArray, List.set_cons_zero, List.set_cons_succ, i64_w, i32_w]
      rfl
    refine pure_ (i := 8) (N := some 28) (v := undef) (a' := ?_) #[true, true, true, true, true, true, true, true, true, false, false, false] rfl rfl (any_of HT_.out (by kernel_rfl)) (fun _ _ _ h => h) (Or.inr ⟨by rfl, rfl⟩) ?_ ?_
    rotate_left
    · simp only [Act.put, List.setIfInBounds_toArray, List.set_cons_zero, List.set_cons_succ, i64_w, i32_w]
      rfl
    refine pure_ (i := 9) (N := some 29) (v := undef) (a' := ?_) #[true, true, true, true, true, true, true, true, true, true, false, false] rfl rfl (any_of HT_.out (by kernel_rfl)) (fun _ _ _ h => h) (Or.inr ⟨by rfl, rfl⟩) ?_ ?_
    rotate_left
    · simp only [Act.put, List.setIfInBounds_toArray, List.set_cons_zero, List.set_cons_succ, i64_w, i32_w]
      rfl
    refine pure_ (i := 10) (N := some 30) (v := undef) (a' := ?_) #[true, true, true, true, true, true, true, true, true, true, true, false] rfl rfl (any_of HT_.out (by kernel_rfl)) (fun _ _ _ h => h) (Or.inr ⟨by rfl, rfl⟩) ?_ ?_
    rotate_left
    · simp only [Act.put, List.setIfInBounds_toArray, List.set_cons_zero, List.set_cons_succ, i64_w, i32_w]
      rfl
    refine pure_ (i := 11) (N := some 31) (v := ?_) (a' := ?_) #[true, true, true, true, true, true, true, true, true, true, true, true] rfl rfl (any_of HT_.out (by kernel_rfl)) (fun _ _ _ h => h) (Or.inl ⟨by rfl, ?_⟩) ?_ ?_
    rotate_left
    · intro w'
      go_simp
      with_reducible rfl
    rotate_left
    · simp only [Act.put, List.setIfInBounds_toArray, List.set_cons_zero, List.set_cons_succ, i64_w, i32_w]
      rfl
    refine done_ (done_of HT_.out (by kernel_rfl)) ?_
    try go_wp2
    go_meet
    case rel => exact ⟨_, (true), (by first | rfl | (simp; done) | (simp [*]; done)), H', ⟨by first | omega | exact Nat.le_refl _⟩, ⟨by (with_reducible repeat (first | apply Kd.Q_alloc | apply Kd.Q_drewN | apply Kd.Q_drew)); exact Kd.Q_mono HO678.out (fun _ hk => hk.1)⟩, ⟨B.kr0 (Kd.R_mono HO684.out (fun _ hk => hk.1))⟩, ⟨B.kb BK685⟩, ⟨B.bl HB⟩⟩
  case rest =>
    clear HC5
    try clear c1
    try clear c2
    try clear c2b0
    try clear c2b1
    try clear p2
    try clear c8
    try clear c14
    try clear c20
    try clear hcz10_0
    try clear hcz10_1
    try clear hcz10_2
    try clear hcz10_3
    try clear hfz10_0
    try clear hfz10_1
    try clear hfz10_2
    try clear hfz10_3
    obtain ⟨kq, x31_4, rfl, HA, HJ4, HO_5, HO_686003, BK685, HB⟩ := hcut
    cases kq with
    | zero => exact absurd HA.out (by simp [laws_FnFillImageTurn.j0])
    | succ kj4 =>
      have H := HA.out
      clear HA
      simp only [laws_FnFillImageTurn.j0] at H
      by_cases c25 : x31_4 = true
      · subst c25
        have H1 : ((spec_FillImage.f kj4 t674 t675 t676).bind fun bt693 => ((laws_equalImage.f kj4 t679 t680 t681 t682 bt693.1 bt693.2.1 bt693.2.2.1 bt693.2.2.2).bind fun t699 => (some t699))) = some r := by rw [if_pos rfl] at H; exact H
        clear H
        have H := H1
        clear H1
        replace H := Option.bind_eq_some_iff.mp H
        obtain ⟨⟨t693, t694, t695, t696⟩, A260, H⟩ := H
        replace H : ((laws_equalImage.f kj4 t679 t680 t681 t682 t693 t694 t695 t696).bind fun t699 => (some t699)) = some r := H
        have A26 := Aside0.mk A260
        clear A260
        replace H := Option.bind_eq_some_iff.mp H
        obtain ⟨t699, A270, H⟩ := H
        replace H : (some t699) = some r := H
        have A27 := Aside0.mk A270
        clear A270
        obtain rfl := Option.some.inj H
        simp only [Option.some.injEq, Prod.mk.injEq] at H
        obtain ⟨rfl⟩ := H
        try go_wp2
        have n0_ := Aside0.mk (Kd.Q_drew HO_5.out)
        have n1_ := Aside0.mk (Kd.R_drew HO_686003.out)
        have n2_ := Aside0.mk (blk_drew BK685.out)
        have n3_ := Aside0.mk (below_drew1 HB.out)
        clear HO_5 HO_686003 BK685 HB
        have HO_5 := n0_
        have HO_686003 := n1_
        have BK685 := n2_
        have HB := n3_
        clear n0_ n1_ n2_ n3_
        refine start_ (n := 7) (S := fun w' => w'.cell? ⟨gb685, 0, none⟩ = some (.int .i64 t679) ∧ w'.cell? ⟨gb685, 1, none⟩ = some (.int .i64 t680) ∧ w'.cell? ⟨gb685, 2, none⟩ = some (.int .i64 t681) ∧ w'.cell? ⟨gb685, 3, none⟩ = some (.slice Ao11 t682.length co11)) (ds := []) #[false, false, false, false, false, false, false] (by kernel_rfl) rfl rfl ⟨B.bc BK685 0, B.bc BK685 1, B.bc BK685 2, B.bc BK685 3⟩ (fun hHeld => ?_)
        generalize wc.drew = w28 at HO_5 HO_686003 BK685 HB hHeld ⊢
        refine pure_ (i := 1) (N := some 33) (v := ?_) (a' := ?_) #[false, true, false, false, false, false, false] rfl rfl (by kernel_rfl) (fun _ _ _ h => h) (Or.inl ⟨by rfl, ?_⟩) ?_ ?_
        rotate_left
        · intro w'
          go_simp
          with_reducible rfl
        rotate_left
        · simp only [Act.put, List.setIfInBounds_toArray, List.set_cons_zero, List.set_cons_succ, i64_w, i32_w]
          rfl
        refine pure_ (i := 2) (N := some 34) (v := ?_) (a' := ?_) #[false, true, true, false, false, false, false] rfl rfl (by kernel_rfl) (fun _ _ _ h => h) (Or.inl ⟨by rfl, ?_⟩) ?_ ?_
        rotate_left
        · intro w'
          go_simp
          with_reducible rfl
        rotate_left
        · simp only [Act.put, List.setIfInBounds_toArray, List.set_cons_zero, List.set_cons_succ, i64_w, i32_w]
          rfl
        refine pure_ (i := 3) (N := some 35) (v := ?_) (a' := ?_) #[false, true, true, true, false, false, false] rfl rfl (by kernel_rfl) (fun _ _ _ h => h) (Or.inl ⟨by rfl, ?_⟩) ?_ ?_
        rotate_left
        · intro w'
          go_simp
          with_reducible rfl
        rotate_left
        · simp only [Act.put, List.setIfInBounds_toArray, List.set_cons_zero, List.set_cons_succ, i64_w, i32_w]
          rfl
        refine take_ (i := 0) (N := some 32) (v := ?_) (a' := ?_) #[true, true, true, true, false, false, false] rfl rfl (by kernel_rfl) (fun _ _ _ h => h) (Or.inl ⟨by rfl, ?_⟩) hHeld ?_ ?_
        rotate_left
        · rintro w' ⟨s0, s1, s2, s3⟩
          go_simp
          with_reducible rfl
        rotate_left
        · simp only [Act.put, List.setIfInBounds_toArray, List.set_cons_zero, List.set_cons_succ, i64_w, i32_w]
          rfl
        refine one_ (i := 4) (N := some 36) #[true, true, true, true, true, false, false] rfl rfl (by kernel_rfl) (by decide) (fun K hK => ?_)
        refine goes_ Try.func27 (by kernel_rfl) rfl #[.int .i64 t674, .int .i64 t675, .slice Ao7 t676.length co7] (by rfl) rfl rfl B.am ?_
        with_reducible refine (spec_FillImage.calls kj4 t674 t675 _ _ t676 t693 t694 t695 t696 _ ?side1 ?side2 A26.out).mono ?_
        (case side1 => exact B.kc ((Kd.Q_reads' HO_5.out).2.2))
        (case side2 => exact (Kd.Q_reads' HO_5.out).2.1)
        rintro e w29 ⟨v697, rfl, ho0, hb⟩
        refine ⟨_, rfl, ?_⟩
        have n0_ := Aside0.mk (Kd.Q_elder' (B.kq HO_5) (Kd.R_base ho0) hb)
        have n1_ := Aside0.mk (Kd.R_elder' (B.kr HO_686003) (Kd.R_base ho0) hb)
        have n2_ := Aside0.mk (Kd.R_lower (Kd.R_new' (Kd.R_new' ho0 (Kd.Q_lt (B.kq HO_5))) (Kd.R_lt (B.kr HO_686003))) (below_size (B.bl HB)))
        have n3_ := Aside0.mk (blk_below (B.kb BK685) hb)
        have n4_ := Aside0.mk (below_step (B.bl HB) hb)
        clear HO_5 HO_686003 BK685 HB
        have HO_5 := n0_
        have HO_686003 := n1_
        have HO698 := n2_
        have BK685 := n3_
        have HB := n4_
        clear n0_ n1_ n2_ n3_ n4_
        (try clear hb)
        (try clear hb2)
        (try clear hk)
        (try clear hi)
        (try clear ho0)
        obtain ⟨Ao30, co30, eo30⟩ := Kd.R_slice HO698.out
        (first | subst eo30 | (injection eo30 with f1_ f2_ f3_; have f4_ := f1_.symm; have f5_ := f3_.symm; clear f1_ f2_ f3_; subst f4_; subst f5_))
        refine hK.out _ _ ⟨B.bc BK685 0, B.bc BK685 1, B.bc BK685 2, B.bc BK685 3⟩ (fun hHeld => ?_)
        clear hK K
        refine norm_ (a' := ?_) ?_ ?_
        rotate_left
        · show Act.put _ (some 36) _ = _
          simp only [Act.put, List.setIfInBounds_toArray, List.set_cons_zero, List.set_cons_succ, i64_w, i32_w]
          rfl
        refine one_ (i := 5) (N := some 37) #[true, true, true, true, true, true, false] rfl rfl (by kernel_rfl) (by decide) (fun K hK => ?_)
        refine goes_ Try.func20 (by kernel_rfl) rfl #[.agg #[.int .i64 t679, .int .i64 t680, .int .i64 t681, .slice Ao11 t682.length co11], .agg #[.int .i64 t693, .int .i64 t694, .int .i64 t695, .slice Ao30 t696.length co30]] (by rfl) rfl rfl B.am ?_
        with_reducible refine (laws_equalImage.calls kj4 t679 t680 t681 _ _ t682 t693 t694 t695 _ _ t696 t699 _ ?side1 ?side2 ?side3 ?side4 A27.out).mono ?_
        (case side1 => exact B.kc ((Kd.R_reads' HO_686003.out).2.2))
        (case side2 => exact (Kd.R_reads' HO_686003.out).2.1)
        (case side3 => exact B.kc ((Kd.R_reads' HO698.out).2.2))
        (case side4 => exact (Kd.R_reads' HO698.out).2.1)
        rintro e w31 ⟨rfl, hb⟩
        refine ⟨_, rfl, ?_⟩
        have n0_ := Aside0.mk (Kd.Q_below (B.kq HO_5) hb)
        have n1_ := Aside0.mk (Kd.R_below (B.kr HO_686003) hb)
        have n2_ := Aside0.mk (Kd.R_below (B.kr HO698) hb)
        have n3_ := Aside0.mk (blk_below (B.kb BK685) hb)
        have n4_ := Aside0.mk (below_step (B.bl HB) hb)
        clear HO_5 HO_686003 HO698 BK685 HB
        have HO_5 := n0_
        have HO_686003 := n1_
        have HO698 := n2_
        have BK685 := n3_
        have HB := n4_
        clear n0_ n1_ n2_ n3_ n4_
        (try clear hb)
        (try clear hb2)
        (try clear hk)
        (try clear hi)
        refine hK.out _ _ ⟨B.bc BK685 0, B.bc BK685 1, B.bc BK685 2, B.bc BK685 3⟩ (fun hHeld => ?_)
        clear hK K
        refine norm_ (a' := ?_) ?_ ?_
        rotate_left
        · show Act.put _ (some 37) _ = _
          simp only [Act.put, List.setIfInBounds_toArray, List.set_cons_zero, List.set_cons_succ, i64_w, i32_w]
          rfl
        refine pure_ (i := 6) (N := some 2) (v := ?_) (a' := ?_) #[true, true, true, true, true, true, true] rfl rfl (by kernel_rfl) (fun _ _ _ h => h) (Or.inl ⟨by rfl, ?_⟩) ?_ ?_
        rotate_left
        · intro w'
          go_simp
          with_reducible rfl
        rotate_left
        · simp only [Act.put, List.setIfInBounds_toArray, List.set_cons_zero, List.set_cons_succ, i64_w, i32_w]
          rfl
        refine done_ (by kernel_rfl) ?_
        try go_wp2
        go_ret
        exact ⟨by first | rfl | (simp [errW_none, errW_some] <;> rfl) | (simp [*, errW_none, errW_some] <;> rfl), B.bl HB⟩
      replace c25 := Bool.eq_false_iff.mpr c25
      subst c25
      have H1 : ((impl_TurnImage.f t679 t680 t681 t682 1).bind fun bt700 => ((impl_FillImage.f kj4 t675 t674 t676).bind fun bt706 => ((laws_equalImage.f kj4 bt700.1 bt700.2.1 bt700.2.2.1 bt700.2.2.2 bt706.1 bt706.2.1 bt706.2.2.1 bt706.2.2.2).bind fun t712 => (if t712 = true then ((impl_MirrorImage.f t679 t680 t681 t682).bind fun bt713 => ((laws_equalImage.f kj4 bt713.1 bt713.2.1 bt713.2.2.1 bt713.2.2.2 t679 t680 t681 t682).bind fun t719 => (some t719))) else (some false))))) = some r := by rw [if_neg (show ¬ (false = true) by decide)] at H; exact H
      clear H
      have H := H1
      clear H1
      replace H := Option.bind_eq_some_iff.mp H
      obtain ⟨⟨t700, t701, t702, t703⟩, A320, H⟩ := H
      replace H : ((impl_FillImage.f kj4 t675 t674 t676).bind fun bt706 => ((laws_equalImage.f kj4 t700 t701 t702 t703 bt706.1 bt706.2.1 bt706.2.2.1 bt706.2.2.2).bind fun t712 => (if t712 = true then ((impl_MirrorImage.f t679 t680 t681 t682).bind fun bt713 => ((laws_equalImage.f kj4 bt713.1 bt713.2.1 bt713.2.2.1 bt713.2.2.2 t679 t680 t681 t682).bind fun t719 => (some t719))) else (some false)))) = some r := H
      have A32 := Aside0.mk A320
      clear A320
      replace H := Option.bind_eq_some_iff.mp H
      obtain ⟨⟨t706, t707, t708, t709⟩, A330, H⟩ := H
      replace H : ((laws_equalImage.f kj4 t700 t701 t702 t703 t706 t707 t708 t709).bind fun t712 => (if t712 = true then ((impl_MirrorImage.f t679 t680 t681 t682).bind fun bt713 => ((laws_equalImage.f kj4 bt713.1 bt713.2.1 bt713.2.2.1 bt713.2.2.2 t679 t680 t681 t682).bind fun t719 => (some t719))) else (some false))) = some r := H
      have A33 := Aside0.mk A330
      clear A330
      replace H := Option.bind_eq_some_iff.mp H
      obtain ⟨t712, A340, H⟩ := H
      replace H : (if t712 = true then ((impl_MirrorImage.f t679 t680 t681 t682).bind fun bt713 => ((laws_equalImage.f kj4 bt713.1 bt713.2.1 bt713.2.2.1 bt713.2.2.2 t679 t680 t681 t682).bind fun t719 => (some t719))) else (some false)) = some r := H
      have A34 := Aside0.mk A340
      clear A340
      by_cases c35 : t712 = true
      · subst c35
        have H1 : ((impl_MirrorImage.f t679 t680 t681 t682).bind fun bt713 => ((laws_equalImage.f kj4 bt713.1 bt713.2.1 bt713.2.2.1 bt713.2.2.2 t679 t680 t681 t682).bind fun t719 => (some t719))) = some r := by rw [if_pos rfl] at H; exact H
        clear H
        have H := H1
        clear H1
        replace H := Option.bind_eq_some_iff.mp H
        obtain ⟨⟨t713, t714, t715, t716⟩, A360, H⟩ := H
        replace H : ((laws_equalImage.f kj4 t713 t714 t715 t716 t679 t680 t681 t682).bind fun t719 => (some t719)) = some r := H
        have A36 := Aside0.mk A360
        clear A360
        replace H := Option.bind_eq_some_iff.mp H
        obtain ⟨t719, A370, H⟩ := H
        replace H : (some t719) = some r := H
        have A37 := Aside0.mk A370
        clear A370
        obtain rfl := Option.some.inj H
        simp only [Option.some.injEq, Prod.mk.injEq] at H
        obtain ⟨rfl⟩ := H
        try go_wp2
        have n0_ := Aside0.mk (Kd.Q_drew HO_5.out)
        have n1_ := Aside0.mk (Kd.R_drew HO_686003.out)
        have n2_ := Aside0.mk (blk_drew BK685.out)
        have n3_ := Aside0.mk (below_drew1 HB.out)
        clear HO_5 HO_686003 BK685 HB
        have HO_5 := n0_
        have HO_686003 := n1_
        have BK685 := n2_
        have HB := n3_
        clear n0_ n1_ n2_ n3_
        refine start_ (n := 14) (S := fun w' => w'.cell? ⟨gb685, 0, none⟩ = some (.int .i64 t679) ∧ w'.cell? ⟨gb685, 1, none⟩ = some (.int .i64 t680) ∧ w'.cell? ⟨gb685, 2, none⟩ = some (.int .i64 t681) ∧ w'.cell? ⟨gb685, 3, none⟩ = some (.slice Ao11 t682.length co11)) (ds := []) #[false, false, false, false, false, false, false, false, false, false, false, false, false, false] (by kernel_rfl) rfl rfl ⟨B.bc BK685 0, B.bc BK685 1, B.bc BK685 2, B.bc BK685 3⟩ (fun hHeld => ?_); refine with_tabW laws_FnFillImageTurn.tab7 laws_FnFillImageTurn.bits7 (fun HT_ HW_ => ?_)
        generalize wc.drew = w38 at HO_5 HO_686003 BK685 HB hHeld ⊢
        refine pure_ (i := 2) (N := some 40) (v := ?_) (a' := ?_) #[false, false, true, false, false, false, false, false, false, false, false, false, false, false] rfl rfl (any_of HT_.out (by kernel_rfl)) (fun _ _ _ h => h) (Or.inl ⟨by rfl, ?_⟩) ?_ ?_
        rotate_left
        · intro w'
          go_simp
          with_reducible rfl
        rotate_left
        · simp only [Act.put, List.setIfInBounds_toArray, List.set_cons_zero, List.set_cons_succ, i64_w, i32_w]
          rfl
        refine pure_ (i := 3) (N := some 41) (v := ?_) (a' := ?_) #[false, false, true, true, false, false, false, false, false, false, false, false, false, false] rfl rfl (any_of HT_.out (by kernel_rfl)) (fun _ _ _ h => h) (Or.inl ⟨by rfl, ?_⟩) ?_ ?_
        rotate_left
        · intro w'
          go_simp
          with_reducible rfl
        rotate_left
        · simp only [Act.put, List.setIfInBounds_toArray, List.set_cons_zero, List.set_cons_succ, i64_w, i32_w]
          rfl
        refine pure_ (i := 4) (N := some 42) (v := ?_) (a' := ?_) #[false, false, true, true, true, false, false, false, false, false, false, false, false, false] rfl rfl (any_of HT_.out (by kernel_rfl)) (fun _ _ _ h => h) (Or.inl ⟨by rfl, ?_⟩) ?_ ?_
        rotate_left
        · intro w'
          go_simp
          with_reducible rfl
        rotate_left
        · simp only [Act.put, List.setIfInBounds_toArray, List.set_cons_zero, List.set_cons_succ, i64_w, i32_w]
          rfl
        refine take_ (i := 0) (N := some 38) (v := ?_) (a' := ?_) #[true, false, true, true, true, false, false, false, false, false, false, false, false, false] rfl rfl (take_ofW HT_.out HW_.out (by kernel_rfl)) (fun _ _ _ h => h) (Or.inl ⟨by rfl, ?_⟩) hHeld ?_ ?_
        rotate_left
        · rintro w' ⟨s0, s1, s2, s3⟩
          go_simp
          with_reducible rfl
        rotate_left
        · simp only [Act.put, List.setIfInBounds_toArray, List.set_cons_zero, List.set_cons_succ, i64_w, i32_w]
          rfl
        refine one_ (i := 1) (N := some 39) #[true, true, true, true, true, false, false, false, false, false, false, false, false, false] rfl rfl (one_of HT_.out (by kernel_rfl)) (by decide) (fun K hK => ?_)
        refine goes_ Try.func22 (by kernel_rfl) rfl #[.agg #[.int .i64 t679, .int .i64 t680, .int .i64 t681, .slice Ao11 t682.length co11], .int .i64 1] (by rfl) rfl rfl B.am ?_
        with_reducible refine (impl_TurnImage.calls t679 t680 t681 _ _ t682 1 t700 t701 t702 t703 _ ?side1 ?side2 A32.out).mono ?_
        (case side1 => exact B.kc ((Kd.R_reads' HO_686003.out).2.2))
        (case side2 => exact (Kd.R_reads' HO_686003.out).2.1)
        rintro e w39 ⟨v704, rfl, ho0, hb⟩
        refine ⟨_, rfl, ?_⟩
        have n0_ := Aside0.mk (Kd.Q_elder' (B.kq HO_5) (Kd.R_base ho0) hb)
        have n1_ := Aside0.mk (Kd.R_elder' (B.kr HO_686003) (Kd.R_base ho0) hb)
        have n2_ := Aside0.mk (Kd.R_lower (Kd.R_new' (Kd.R_new' ho0 (Kd.Q_lt (B.kq HO_5))) (Kd.R_lt (B.kr HO_686003))) (below_size (B.bl HB)))
        have n3_ := Aside0.mk (blk_below (B.kb BK685) hb)
        have n4_ := Aside0.mk (below_step (B.bl HB) hb)
        clear HO_5 HO_686003 BK685 HB
        have HO_5 := n0_
        have HO_686003 := n1_
        have HO705 := n2_
        have BK685 := n3_
        have HB := n4_
        clear n0_ n1_ n2_ n3_ n4_
        (try clear hb)
        (try clear hb2)
        (try clear hk)
        (try clear hi)
        (try clear ho0)
        refine hK.out _ _ ⟨B.bc BK685 0, B.bc BK685 1, B.bc BK685 2, B.bc BK685 3⟩ (fun hHeld => ?_)
        clear hK K
        refine norm_ (a' := ?_) ?_ ?_
        rotate_left
        · show Act.put _ (some 39) _ = _
          simp only [Act.put, List.setIfInBounds_toArray, List.set_cons_zero, List.set_cons_succ, i64_w, i32_w]
          rfl
        refine one_ (i := 5) (N := some 43) #[true, true, true, true, true, true, false, false, false, false, false, false, false, false] rfl rfl (one_of HT_.out (by kernel_rfl)) (by decide) (fun K hK => ?_)
        refine goes_ Try.func26 (by kernel_rfl) rfl #[.int .i64 t675, .int .i64 t674, .slice Ao7 t676.length co7] (by rfl) rfl rfl B.am ?_
        with_reducible refine (impl_FillImage.calls kj4 t675 t674 _ _ t676 t706 t707 t708 t709 _ ?side1 ?side2 A33.out).mono ?_
        (case side1 => exact B.kc ((Kd.Q_reads' HO_5.out).2.2))
        (case side2 => exact (Kd.Q_reads' HO_5.out).2.1)
        rintro e w40 ⟨v710, rfl, ho0, hb⟩
        refine ⟨_, rfl, ?_⟩
        have n0_ := Aside0.mk (Kd.Q_elder' (B.kq HO_5) (Kd.R_base ho0) hb)
        have n1_ := Aside0.mk (Kd.R_elder' (B.kr HO_686003) (Kd.R_base ho0) hb)
        have n2_ := Aside0.mk (Kd.R_elder' (B.kr HO705) (Kd.R_base ho0) hb)
        have n3_ := Aside0.mk (Kd.R_lower (Kd.R_new' (Kd.R_new' (Kd.R_new' ho0 (Kd.Q_lt (B.kq HO_5))) (Kd.R_lt (B.kr HO_686003))) (Kd.R_lt (B.kr HO705))) (below_size (B.bl HB)))
        have n4_ := Aside0.mk (blk_below (B.kb BK685) hb)
        have n5_ := Aside0.mk (below_step (B.bl HB) hb)
        clear HO_5 HO_686003 HO705 BK685 HB
        have HO_5 := n0_
        have HO_686003 := n1_
        have HO705 := n2_
        have HO711 := n3_
        have BK685 := n4_
        have HB := n5_
        clear n0_ n1_ n2_ n3_ n4_ n5_
        (try clear hb)
        (try clear hb2)
        (try clear hk)
        (try clear hi)
        (try clear ho0)
        obtain ⟨Ao41, co41, eo41⟩ := Kd.R_slice HO705.out
        (first | subst eo41 | (injection eo41 with f1_ f2_ f3_; have f4_ := f1_.symm; have f5_ := f3_.symm; clear f1_ f2_ f3_; subst f4_; subst f5_))
        obtain ⟨Ao42, co42, eo42⟩ := Kd.R_slice HO711.out
        (first | subst eo42 | (injection eo42 with f1_ f2_ f3_; have f4_ := f1_.symm; have f5_ := f3_.symm; clear f1_ f2_ f3_; subst f4_; subst f5_))
        refine hK.out _ _ ⟨B.bc BK685 0, B.bc BK685 1, B.bc BK685 2, B.bc BK685 3⟩ (fun hHeld => ?_)
        clear hK K
        refine norm_ (a' := ?_) ?_ ?_
        rotate_left
        · show Act.put _ (some 43) _ = _
          simp only [Act.put, List.setIfInBounds_toArray, List.set_cons_zero, List.set_cons_succ, i64_w, i32_w]
          rfl
        refine one_ (i := 6) (N := some 44) #[true, true, true, true, true, true, true, false, false, false, false, false, false, false] rfl rfl (one_of HT_.out (by kernel_rfl)) (by decide) (fun K hK => ?_)
        refine goes_ Try.func20 (by kernel_rfl) rfl #[.agg #[.int .i64 t700, .int .i64 t701, .int .i64 t702, .slice Ao41 t703.length co41], .agg #[.int .i64 t706, .int .i64 t707, .int .i64 t708, .slice Ao42 t709.length co42]] (by rfl) rfl rfl B.am ?_
        with_reducible refine (laws_equalImage.calls kj4 t700 t701 t702 _ _ t703 t706 t707 t708 _ _ t709 true _ ?side1 ?side2 ?side3 ?side4 A34.out).mono ?_
        (case side1 => exact B.kc ((Kd.R_reads' HO705.out).2.2))
        (case side2 => exact (Kd.R_reads' HO705.out).2.1)
        (case side3 => exact B.kc ((Kd.R_reads' HO711.out).2.2))
        (case side4 => exact (Kd.R_reads' HO711.out).2.1)
        rintro e w43 ⟨rfl, hb⟩
        refine ⟨_, rfl, ?_⟩
        have n0_ := Aside0.mk (Kd.Q_below (B.kq HO_5) hb)
        have n1_ := Aside0.mk (Kd.R_below (B.kr HO_686003) hb)
        have n2_ := Aside0.mk (Kd.R_below (B.kr HO705) hb)
        have n3_ := Aside0.mk (Kd.R_below (B.kr HO711) hb)
        have n4_ := Aside0.mk (blk_below (B.kb BK685) hb)
        have n5_ := Aside0.mk (below_step (B.bl HB) hb)
        clear HO_5 HO_686003 HO705 HO711 BK685 HB
        have HO_5 := n0_
        have HO_686003 := n1_
        have HO705 := n2_
        have HO711 := n3_
        have BK685 := n4_
        have HB := n5_
        clear n0_ n1_ n2_ n3_ n4_ n5_
        (try clear hb)
        (try clear hb2)
        (try clear hk)
        (try clear hi)
        refine hK.out _ _ ⟨B.bc BK685 0, B.bc BK685 1, B.bc BK685 2, B.bc BK685 3⟩ (fun hHeld => ?_)
        clear hK K
        refine norm_ (a' := ?_) ?_ ?_
        rotate_left
        · show Act.put _ (some 44) _ = _
          simp only [Act.put, List.setIfInBounds_toArray, List.set_cons_zero, List.set_cons_succ, i64_w, i32_w]
          rfl
        refine pure_ (i := 7) (N := some 45) (v := ?_) (a' := ?_) #[true, true, true, true, true, true, true, true, false, false, false, false, false, false] rfl rfl (any_of HT_.out (by kernel_rfl)) (fun _ _ _ h => h) (Or.inl ⟨by rfl, ?_⟩) ?_ ?_
        rotate_left
        · intro w'
          go_simp
          with_reducible rfl
        rotate_left
        · simp only [Act.put, List.setIfInBounds_toArray, List.set_cons_zero, List.set_cons_succ, i64_w, i32_w]
          rfl
        refine take_ (i := 8) (N := some 46) (v := ?_) (a' := ?_) #[true, true, true, true, true, true, true, true, true, false, false, false, false, false] rfl rfl (take_ofW HT_.out HW_.out (by kernel_rfl)) (fun _ _ _ h => h) (Or.inl ⟨by rfl, ?_⟩) hHeld ?_ ?_
        rotate_left
        · rintro w' ⟨s0, s1, s2, s3⟩
          go_simp
          with_reducible rfl
        rotate_left
        · simp only [Act.put, List.setIfInBounds_toArray, List.set_cons_zero, List.set_cons_succ, i64_w, i32_w]
          rfl
        refine take_ (i := 10) (N := some 48) (v := ?_) (a' := ?_) #[true, true, true, true, true, true, true, true, true, false, true, false, false, false] rfl rfl (take_ofW HT_.out HW_.out (by kernel_rfl)) (fun _ _ _ h => h) (Or.inl ⟨by rfl, ?_⟩) hHeld ?_ ?_
        rotate_left
        · rintro w' ⟨s0, s1, s2, s3⟩
          go_simp
          with_reducible rfl
        rotate_left
        · simp only [Act.put, List.setIfInBounds_toArray, List.set_cons_zero, List.set_cons_succ, i64_w, i32_w]
          rfl
        refine one_ (i := 9) (N := some 47) #[true, true, true, true, true, true, true, true, true, true, true, false, false, false] rfl rfl (one_of HT_.out (by kernel_rfl)) (by decide) (fun K hK => ?_)
        refine goes_ Try.func21 (by kernel_rfl) rfl #[.agg #[.int .i64 t679, .int .i64 t680, .int .i64 t681, .slice Ao11 t682.length co11]] (by rfl) rfl rfl B.am ?_
        with_reducible refine (impl_MirrorImage.calls t679 t680 t681 _ _ t682 t713 t714 t715 t716 _ ?side1 ?side2 A36.out).mono ?_
        (case side1 => exact B.kc ((Kd.R_reads' HO_686003.out).2.2))
        (case side2 => exact (Kd.R_reads' HO_686003.out).2.1)
        rintro e w44 ⟨v717, rfl, ho0, hb⟩
        refine ⟨_, rfl, ?_⟩
        have n0_ := Aside0.mk (Kd.Q_elder' (B.kq HO_5) (Kd.R_base ho0) hb)
        have n1_ := Aside0.mk (Kd.R_elder' (B.kr HO_686003) (Kd.R_base ho0) hb)
        have n2_ := Aside0.mk (Kd.R_elder' (B.kr HO705) (Kd.R_base ho0) hb)
        have n3_ := Aside0.mk (Kd.R_elder' (B.kr HO711) (Kd.R_base ho0) hb)
        have n4_ := Aside0.mk (Kd.R_lower (Kd.R_new' (Kd.R_new' (Kd.R_new' (Kd.R_new' ho0 (Kd.Q_lt (B.kq HO_5))) (Kd.R_lt (B.kr HO_686003))) (Kd.R_lt (B.kr HO705))) (Kd.R_lt (B.kr HO711))) (below_size (B.bl HB)))
        have n5_ := Aside0.mk (blk_below (B.kb BK685) hb)
        have n6_ := Aside0.mk (below_step (B.bl HB) hb)
        clear HO_5 HO_686003 HO705 HO711 BK685 HB
        have HO_5 := n0_
        have HO_686003 := n1_
        have HO705 := n2_
        have HO711 := n3_
        have HO718 := n4_
        have BK685 := n5_
        have HB := n6_
        clear n0_ n1_ n2_ n3_ n4_ n5_ n6_
        (try clear hb)
        (try clear hb2)
        (try clear hk)
        (try clear hi)
        (try clear ho0)
        obtain ⟨Ao45, co45, eo45⟩ := Kd.R_slice HO718.out
        (first | subst eo45 | (injection eo45 with f1_ f2_ f3_; have f4_ := f1_.symm; have f5_ := f3_.symm; clear f1_ f2_ f3_; subst f4_; subst f5_))
        refine hK.out _ _ ⟨B.bc BK685 0, B.bc BK685 1, B.bc BK685 2, B.bc BK685 3⟩ (fun hHeld => ?_)
        clear hK K
        refine norm_ (a' := ?_) ?_ ?_
        rotate_left
        · show Act.put _ (some 47) _ = _
          simp only [Act.put, List.setIfInBounds_toArray, List.set_cons_zero, List.set_cons_succ, i64_w, i32_w]
          rfl
        refine one_ (i := 11) (N := some 49) #[true, true, true, true, true, true, true, true, true, true, true, true, false, false] rfl rfl (one_of HT_.out (by kernel_rfl)) (by decide) (fun K hK => ?_)
        refine goes_ Try.func20 (by kernel_rfl) rfl #[.agg #[.int .i64 t713, .int .i64 t714, .int .i64 t715, .slice Ao45 t716.length co45], .agg #[.int .i64 t679, .int .i64 t680, .int .i64 t681, .slice Ao11 t682.length co11]] (by rfl) rfl rfl B.am ?_
        with_reducible refine (laws_equalImage.calls kj4 t713 t714 t715 _ _ t716 t679 t680 t681 _ _ t682 t719 _ ?side1 ?side2 ?side3 ?side4 A37.out).mono ?_
        (case side1 => exact B.kc ((Kd.R_reads' HO718.out).2.2))
        (case side2 => exact (Kd.R_reads' HO718.out).2.1)
        (case side3 => exact B.kc ((Kd.R_reads' HO_686003.out).2.2))
        (case side4 => exact (Kd.R_reads' HO_686003.out).2.1)
        rintro e w46 ⟨rfl, hb⟩
        refine ⟨_, rfl, ?_⟩
        have n0_ := Aside0.mk (Kd.Q_below (B.kq HO_5) hb)
        have n1_ := Aside0.mk (Kd.R_below (B.kr HO_686003) hb)
        have n2_ := Aside0.mk (Kd.R_below (B.kr HO705) hb)
        have n3_ := Aside0.mk (Kd.R_below (B.kr HO711) hb)
        have n4_ := Aside0.mk (Kd.R_below (B.kr HO718) hb)
        have n5_ := Aside0.mk (blk_below (B.kb BK685) hb)
        have n6_ := Aside0.mk (below_step (B.bl HB) hb)
        clear HO_5 HO_686003 HO705 HO711 HO718 BK685 HB
        have HO_5 := n0_
        have HO_686003 := n1_
        have HO705 := n2_
        have HO711 := n3_
        have HO718 := n4_
        have BK685 := n5_
        have HB := n6_
        clear n0_ n1_ n2_ n3_ n4_ n5_ n6_
        (try clear hb)
        (try clear hb2)
        (try clear hk)
        (try clear hi)
        refine hK.out _ _ ⟨B.bc BK685 0, B.bc BK685 1, B.bc BK685 2, B.bc BK685 3⟩ (fun hHeld => ?_)
        clear hK K
        refine norm_ (a' := ?_) ?_ ?_
        rotate_left
        · show Act.put _ (some 49) _ = _
          simp only [Act.put, List.setIfInBounds_toArray, List.set_cons_zero, List.set_cons_succ, i64_w, i32_w]
          rfl
        refine pure_ (i := 12) (N := some 50) (v := ?_) (a' := ?_) #[true, true, true, true, true, true, true, true, true, true, true, true, true, false] rfl rfl (any_of HT_.out (by kernel_rfl)) (fun _ _ _ h => h) (Or.inl ⟨by rfl, ?_⟩) ?_ ?_
        rotate_left
        · intro w'
          go_simp
          with_reducible rfl
        rotate_left
        · simp only [Act.put, List.setIfInBounds_toArray, List.set_cons_zero, List.set_cons_succ, i64_w, i32_w]
          rfl
        refine pure_ (i := 13) (N := some 2) (v := ?_) (a' := ?_) #[true, true, true, true, true, true, true, true, true, true, true, true, true, true] rfl rfl (any_of HT_.out (by kernel_rfl)) (fun _ _ _ h => h) (Or.inl ⟨by rfl, ?_⟩) ?_ ?_
        rotate_left
        · intro w'
          go_simp
          with_reducible rfl
        rotate_left
        · simp only [Act.put, List.setIfInBounds_toArray, List.set_cons_zero, List.set_cons_succ, i64_w, i32_w]
          rfl
        refine done_ (done_of HT_.out (by kernel_rfl)) ?_
        try go_wp2
        go_ret
        exact ⟨by first | rfl | (simp [errW_none, errW_some] <;> rfl) | (simp [*, errW_none, errW_some] <;> rfl), B.bl HB⟩
      replace c35 := Bool.eq_false_iff.mpr c35
      subst c35
      have H1 : (some false) = some r := by rw [if_neg (show ¬ (false = true) by decide)] at H; exact H
      clear H
      have H := H1
      clear H1
      obtain rfl := Option.some.inj H
      exact absurd ht_.out (by decide)

/-- THE ONE PURE STATEMENT of laws_FnFillImageTurn: yours. -/
def laws_FnFillImageTurn.Pure : Prop := ∀ (l0 : List Int), l0.length ≤ maxLen → l0.length * 1 ≤ 140737488351232 → (∀ x ∈ l0, (Lit.int .u8 x).wf = true) → ∃ k, laws_FnFillImageTurn.f k l0 = some true
theorem laws_FnFillImageTurn.walk (P : laws_FnFillImageTurn.Pure) (a0 : Option Addr) (len0 cap0 : Nat) (z0 : List Int) (w : World) (w0 : (a0 = none ∧ len0 = 0 ∧ cap0 = 0 ∧ z0 = []) ∨ ∃ x, a0 = some x ∧ len0 ≤ cap0 ∧ cap0 ≤ maxLen ∧ z0.length = cap0 ∧ (∀ i, i < z0.length → w.cell? (x.add i) = some (.int .u8 (z0.getD i 0))) ∧ ∀ n ∈ z0, (Lit.int .u8 n).wf = true) (y0 : len0 * 1 ≤ 140737488351232) :
    Calls Try.prog 8 #[.slice a0 len0 cap0] w fun e w' => e = .returned (.bool true) ∧ Below w.heap.size w w' := by
  obtain ⟨l0, rfl, hr0, hm0, hw0, hc0⟩ := ReadsInt.ofRowC w0
  obtain ⟨k, h⟩ := P l0 hm0 y0 hw0
  refine (laws_FnFillImageTurn.calls k _ _ l0 true w (Kd.C_of_reads (d := (0 : Int)) (h1 := fun _ => rfl) hr0) hc0 h ⟨rfl⟩).mono ?_
  rintro e w' ⟨rfl, hd⟩
  exact ⟨rfl, hd⟩

end Go.Proofs.Ytibbkaoghbmncaa.Q
