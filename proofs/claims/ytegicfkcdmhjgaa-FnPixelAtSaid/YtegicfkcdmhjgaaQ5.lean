-- Written by a program of this session (the kit's printer, with hand-proved contracts for the functions that it does not take).
import Derived.Test.YtegicfkcdmhjgaaQ0
import Derived.Test.YtegicfkcdmhjgaaQ1
import Derived.Test.YtegicfkcdmhjgaaQ2
namespace Go.Proofs.Ytegicfkcdmhjgaa.Q
open Go.RowKit Go.Proofs.YtegicfkcdmhjgaaW.PrintWords Go.Proofs.YtegicfkcdmhjgaaW.PrintLast Go.Proofs.YtegicfkcdmhjgaaW.PrintMore
attribute [local go_sem] max2_int min2_int max_two min_two max_three min_three max_four min_four   -- for this text's walks alone
set_option linter.unusedVariables false
set_option linter.unusedSimpArgs false

/-! ### spec_onImage: function 43 -/
def spec_onImage.f (a0_0 : Int) (a0_1 : Int) (a0_2 : Int) (l0_3 : List Int) (a1 : Int) (a2 : Int) : Option (Bool) := (spec_inRange.f a1 0 (wrap64 (a0_0 - 1))).bind fun t235 => (if t235 = true then ((spec_inRange.f a2 0 (wrap64 (a0_1 - 1))).bind fun t236 => (some t236)) else (some false))
set_option maxHeartbeats 8000000 in
set_option maxRecDepth 100000 in
theorem spec_onImage.calls (a0_0 : Int) (a0_1 : Int) (a0_2 : Int) (A0_3 : Option Addr) (c0_3 : Nat) (l0_3 : List Int) (a1 : Int) (a2 : Int) (r : Bool) (w : World) (hr0_3 : Kd.C (Kd.int .i64) w A0_3 l0_3.length l0_3) (hc0_3 : l0_3.length ≤ c0_3) (h : spec_onImage.f a0_0 a0_1 a0_2 l0_3 a1 a2 = some r) :
    Calls Try.prog 43 #[.agg #[.int .i64 a0_0, .int .i64 a0_1, .int .i64 a0_2, .slice A0_3 l0_3.length c0_3], .int .i64 a1, .int .i64 a2] w fun e w' => e = .returned (.bool r) ∧ Below w.heap.size w w' := by
  have hu27 := Try.underlying27
  have HR0_3 := Aside0.mk hr0_3
  have HC0_3 := Aside0.mk hc0_3
  clear hr0_3 hc0_3
  have HB := Aside0.mk (Below.refl w.heap.size w)
  have H : ((spec_inRange.f a1 0 (wrap64 (a0_0 - 1))).bind fun t235 => (if t235 = true then ((spec_inRange.f a2 0 (wrap64 (a0_1 - 1))).bind fun t236 => (some t236)) else (some false))) = some r := h
  clear h
  replace H := Option.bind_eq_some_iff.mp H
  obtain ⟨t235, A40, H⟩ := H
  replace H : (if t235 = true then ((spec_inRange.f a2 0 (wrap64 (a0_1 - 1))).bind fun t236 => (some t236)) else (some false)) = some r := H
  have A4 := Aside0.mk A40
  clear A40
  by_cases c5 : t235 = true
  · subst c5
    have H1 : ((spec_inRange.f a2 0 (wrap64 (a0_1 - 1))).bind fun t236 => (some t236)) = some r := by rw [if_pos rfl] at H; exact H
    clear H
    have H := H1
    clear H1
    replace H := Option.bind_eq_some_iff.mp H
    obtain ⟨t236, A60, H⟩ := H
    replace H : (some t236) = some r := H
    have A6 := Aside0.mk A60
    clear A60
    obtain rfl := Option.some.inj H
    simp only [Option.some.injEq, Prod.mk.injEq] at H
    obtain ⟨rfl⟩ := H
    go_enter Try.func43, Try.ntmps43
    go_wp2_with (first | ((with_reducible refine gate_dst (N := 3) rfl ?_); refine box_event ?hg (N := 3) ?hd (cs := #[.int .i64 a0_0, .int .i64 a0_1, .int .i64 a0_2, .slice A0_3 l0_3.length c0_3]) (t := 27) ?hr ?_; (case hd => rfl); (case hg => rfl); (case hr => first | (go_simp; done) | (go_simp; rfl)); intro gb234 hg w7 hbox hb; have n0_ := Aside0.mk (below_step (B.bl HB) hb); have n1_ := Aside0.mk (hbox); have n2_ := Aside0.mk (B.nle hg (below_size (B.bl HB))); have n3_ := Aside0.mk (B.nle hg (below_size (B.bl HB))); clear HB; have HB := n0_; have BK234 := n1_; have GW234 := n2_; have GE234 := n3_; clear n0_ n1_ n2_ n3_; clear hb hbox hg; have hcz8_0 : w7.cell? ⟨gb234, 0, none⟩ = some (.int .i64 a0_0) := B.bc BK234 0; have hcz8_1 : w7.cell? ⟨gb234, 1, none⟩ = some (.int .i64 a0_1) := B.bc BK234 1; have hcz8_2 : w7.cell? ⟨gb234, 2, none⟩ = some (.int .i64 a0_2) := B.bc BK234 2; have hcz8_3 : w7.cell? ⟨gb234, 3, none⟩ = some (.slice A0_3 l0_3.length c0_3) := B.bc BK234 3; have hfz8_0 := blk_frozen BK234.out 0; have hfz8_1 := blk_frozen BK234.out 1; have hfz8_2 := blk_frozen BK234.out 2; have hfz8_3 := blk_frozen BK234.out 3) | ((with_reducible refine gate_callee (f := 57) rfl ?_); refine goesL_ (some 11) rfl rfl Try.func57 (by kernel_rfl) rfl #[.int .i64 a1, .int .i64 0, .int .i64 (wrap64 (a0_0 - 1))] rfl B.am ?_; (with_reducible refine (spec_inRange.calls a1 0 (wrap64 (a0_0 - 1)) true _ A4.out).mono ?_); rintro e w' ⟨rfl, ⟨nd, rfl⟩⟩; refine ⟨_, rfl, ?_⟩) | (go_at_call 57; (with_reducible refine (spec_inRange.calls a2 0 (wrap64 (a0_1 - 1)) t236 _ A6.out).mono ?_); rintro e w' ⟨rfl, ⟨nd, rfl⟩⟩))
    go_ret
    exact ⟨by first | rfl | (simp [errW_none, errW_some] <;> rfl) | (simp [*, errW_none, errW_some] <;> rfl), B.bl HB⟩
  replace c5 := Bool.eq_false_iff.mpr c5
  subst c5
  have H1 : (some false) = some r := by rw [if_neg (show ¬ (false = true) by decide)] at H; exact H
  clear H
  have H := H1
  clear H1
  obtain rfl := Option.some.inj H
  simp only [Option.some.injEq, Prod.mk.injEq] at H
  obtain ⟨rfl⟩ := H
  go_enter Try.func43, Try.ntmps43
  go_wp2_with (first | ((with_reducible refine gate_dst (N := 3) rfl ?_); refine box_event ?hg (N := 3) ?hd (cs := #[.int .i64 a0_0, .int .i64 a0_1, .int .i64 a0_2, .slice A0_3 l0_3.length c0_3]) (t := 27) ?hr ?_; (case hd => rfl); (case hg => rfl); (case hr => first | (go_simp; done) | (go_simp; rfl)); intro gb234 hg w9 hbox hb; have n0_ := Aside0.mk (below_step (B.bl HB) hb); have n1_ := Aside0.mk (hbox); have n2_ := Aside0.mk (B.nle hg (below_size (B.bl HB))); have n3_ := Aside0.mk (B.nle hg (below_size (B.bl HB))); clear HB; have HB := n0_; have BK234 := n1_; have GW234 := n2_; have GE234 := n3_; clear n0_ n1_ n2_ n3_; clear hb hbox hg; have hcz10_0 : w9.cell? ⟨gb234, 0, none⟩ = some (.int .i64 a0_0) := B.bc BK234 0; have hcz10_1 : w9.cell? ⟨gb234, 1, none⟩ = some (.int .i64 a0_1) := B.bc BK234 1; have hcz10_2 : w9.cell? ⟨gb234, 2, none⟩ = some (.int .i64 a0_2) := B.bc BK234 2; have hcz10_3 : w9.cell? ⟨gb234, 3, none⟩ = some (.slice A0_3 l0_3.length c0_3) := B.bc BK234 3; have hfz10_0 := blk_frozen BK234.out 0; have hfz10_1 := blk_frozen BK234.out 1; have hfz10_2 := blk_frozen BK234.out 2; have hfz10_3 := blk_frozen BK234.out 3) | ((with_reducible refine gate_callee (f := 57) rfl ?_); refine goesL_ (some 11) rfl rfl Try.func57 (by kernel_rfl) rfl #[.int .i64 a1, .int .i64 0, .int .i64 (wrap64 (a0_0 - 1))] rfl B.am ?_; (with_reducible refine (spec_inRange.calls a1 0 (wrap64 (a0_0 - 1)) false _ A4.out).mono ?_); rintro e w' ⟨rfl, ⟨nd, rfl⟩⟩; refine ⟨_, rfl, ?_⟩))
  go_ret
  exact ⟨by first | rfl | (simp [errW_none, errW_some] <;> rfl) | (simp [*, errW_none, errW_some] <;> rfl), B.bl HB⟩

/-! ### spec_pixelAt: function 44 -/
def spec_pixelAt.f (a0_0 : Int) (a0_1 : Int) (a0_2 : Int) (l0_3 : List Int) (a1 : Int) (a2 : Int) : Option (List Int) := if 0 ≤ (wrap64 ((wrap64 ((wrap64 (a2 * a0_0)) + a1)) * a0_2)) then (if (wrap64 ((wrap64 ((wrap64 (a2 * a0_0)) + a1)) * a0_2)) ≤ (wrap64 ((wrap64 ((wrap64 ((wrap64 (a2 * a0_0)) + a1)) * a0_2)) + a0_2)) then (if (wrap64 ((wrap64 ((wrap64 ((wrap64 (a2 * a0_0)) + a1)) * a0_2)) + a0_2)) ≤ (l0_3.length : Int) then ((spec_copyInts.f ((l0_3.take ((wrap64 ((wrap64 ((wrap64 ((wrap64 (a2 * a0_0)) + a1)) * a0_2)) + a0_2)) : Int).toNat).drop ((wrap64 ((wrap64 ((wrap64 (a2 * a0_0)) + a1)) * a0_2)) : Int).toNat)).bind fun t245 => (some t245)) else (none)) else (none)) else (none)
set_option maxHeartbeats 8000000 in
set_option maxRecDepth 100000 in
theorem spec_pixelAt.calls (a0_0 : Int) (a0_1 : Int) (a0_2 : Int) (A0_3 : Option Addr) (c0_3 : Nat) (l0_3 : List Int) (a1 : Int) (a2 : Int) (r : List Int) (w : World) (hr0_3 : Kd.C (Kd.int .i64) w A0_3 l0_3.length l0_3) (hc0_3 : l0_3.length ≤ c0_3) (h : spec_pixelAt.f a0_0 a0_1 a0_2 l0_3 a1 a2 = some r) :
    Calls Try.prog 44 #[.agg #[.int .i64 a0_0, .int .i64 a0_1, .int .i64 a0_2, .slice A0_3 l0_3.length c0_3], .int .i64 a1, .int .i64 a2] w fun e w' => ∃ v0_ : Value, e = .returned (v0_) ∧ Kd.R (Kd.int .i64) 3 w' w.heap.size (fun _ => True) v0_ r ∧ Below w.heap.size w w' := by
  have hu27 := Try.underlying27
  have HR0_3 := Aside0.mk hr0_3
  have HC0_3 := Aside0.mk hc0_3
  clear hr0_3 hc0_3
  have HB := Aside0.mk (Below.refl w.heap.size w)
  have H : (if 0 ≤ (wrap64 ((wrap64 ((wrap64 (a2 * a0_0)) + a1)) * a0_2)) then (if (wrap64 ((wrap64 ((wrap64 (a2 * a0_0)) + a1)) * a0_2)) ≤ (wrap64 ((wrap64 ((wrap64 ((wrap64 (a2 * a0_0)) + a1)) * a0_2)) + a0_2)) then (if (wrap64 ((wrap64 ((wrap64 ((wrap64 (a2 * a0_0)) + a1)) * a0_2)) + a0_2)) ≤ (l0_3.length : Int) then ((spec_copyInts.f ((l0_3.take ((wrap64 ((wrap64 ((wrap64 ((wrap64 (a2 * a0_0)) + a1)) * a0_2)) + a0_2)) : Int).toNat).drop ((wrap64 ((wrap64 ((wrap64 (a2 * a0_0)) + a1)) * a0_2)) : Int).toNat)).bind fun t245 => (some t245)) else (none)) else (none)) else (none)) = some r := h
  clear h
  obtain ⟨ji4, hji4⟩ : ∃ j_ : Int, (wrap64 ((wrap64 ((wrap64 (a2 * a0_0)) + a1)) * a0_2)) = j_ := ⟨_, rfl⟩
  replace H : (if 0 ≤ (ji4) then (if (ji4) ≤ (wrap64 ((ji4) + a0_2)) then (if (wrap64 ((ji4) + a0_2)) ≤ (l0_3.length : Int) then ((spec_copyInts.f ((l0_3.take ((wrap64 ((ji4) + a0_2)) : Int).toNat).drop ((ji4) : Int).toNat)).bind fun t245 => (some t245)) else (none)) else (none)) else (none)) = some r := by first | (rw [hji4] at H; exact H) | (simp only [hji4] at H ⊢; exact H)
  have hji4w : (IntKind.i64.wrap ((wrap64 ((wrap64 (a2 * a0_0)) + a1)) * a0_2)) = ji4 := (i64_w _).trans hji4
  by_cases c5 : 0 ≤ (ji4)
  · rw [if_pos c5] at H
    have c5b0 := eq_true c5
    have c5b1 : decide (0 ≤ (ji4)) = true := decide_eq_true c5
    clear c5
    by_cases c6 : (ji4) ≤ (wrap64 ((ji4) + a0_2))
    · rw [if_pos c6] at H
      have c6b0 := eq_true c6
      have c6b1 : decide ((ji4) ≤ (wrap64 ((ji4) + a0_2))) = true := decide_eq_true c6
      by_cases c7 : (wrap64 ((ji4) + a0_2)) ≤ (l0_3.length : Int)
      · rw [if_pos c7] at H
        have c7b0 := eq_true c7
        have c7b1 : decide ((wrap64 ((ji4) + a0_2)) ≤ (l0_3.length : Int)) = true := decide_eq_true c7
        replace H := Option.bind_eq_some_iff.mp H
        obtain ⟨t245, A80, H⟩ := H
        replace H : (some t245) = some r := H
        have A8 := Aside0.mk A80
        clear A80
        obtain rfl := Option.some.inj H
        simp only [Option.some.injEq, Prod.mk.injEq] at H
        obtain ⟨rfl⟩ := H
        go_enter Try.func44, Try.ntmps44
        go_wp2_with (first | ((with_reducible refine gate_dst (N := 3) rfl ?_); refine box_event ?hg (N := 3) ?hd (cs := #[.int .i64 a0_0, .int .i64 a0_1, .int .i64 a0_2, .slice A0_3 l0_3.length c0_3]) (t := 27) ?hr ?_; (case hd => rfl); (case hg => rfl); (case hr => first | (go_simp; done) | (go_simp; rfl)); intro gb243 hg w9 hbox hb; have n0_ := Aside0.mk (below_step (B.bl HB) hb); have n1_ := Aside0.mk (hbox); have n2_ := Aside0.mk (B.nle hg (below_size (B.bl HB))); have n3_ := Aside0.mk (B.nle hg (below_size (B.bl HB))); clear HB; have HB := n0_; have BK243 := n1_; have GW243 := n2_; have GE243 := n3_; clear n0_ n1_ n2_ n3_; clear hb hbox hg; have hcz10_0 : w9.cell? ⟨gb243, 0, none⟩ = some (.int .i64 a0_0) := B.bc BK243 0; have hcz10_1 : w9.cell? ⟨gb243, 1, none⟩ = some (.int .i64 a0_1) := B.bc BK243 1; have hcz10_2 : w9.cell? ⟨gb243, 2, none⟩ = some (.int .i64 a0_2) := B.bc BK243 2; have hcz10_3 : w9.cell? ⟨gb243, 3, none⟩ = some (.slice A0_3 l0_3.length c0_3) := B.bc BK243 3; have hfz10_0 := blk_frozen BK243.out 0; have hfz10_1 := blk_frozen BK243.out 1; have hfz10_2 := blk_frozen BK243.out 2; have hfz10_3 := blk_frozen BK243.out 3; obtain ⟨i011, hi011, _, hsz11, _⟩ := info_parts info3; obtain ⟨A11, hcut11, hA11, hC11⟩ := print_mid_of (P := Try.prog) (Value.int .i64) 0 22 3 .i64 .i64 Try.underlying22 hi011 hsz11 A0_3 c0_3 l0_3 (ji4) (wrap64 ((ji4) + a0_2)) (of_decide_eq_true (by first | (with_reducible assumption) | assumption)) (by first | omega | exact of_decide_eq_true (by first | (with_reducible assumption) | assumption)) (of_decide_eq_true (by first | (with_reducible assumption) | assumption)) HC0_3.out; have HR244 := Aside0.mk (Kd.C_of_reads (h1 := fun _ => rfl) (hA11 _ (Kd.reads_of_C HR0_3.out))); have HC244 := Aside0.mk hC11; clear hA11 hC11 hi011 hsz11) | ((with_reducible refine gate_callee (f := 60) rfl ?_); refine goesL_ (some 25) rfl rfl Try.func60 (by kernel_rfl) rfl #[.slice A11 ((l0_3.take ((wrap64 ((ji4) + a0_2)) : Int).toNat).drop ((ji4) : Int).toNat).length (c0_3 - (ji4).toNat)] rfl (by (try simp only [List.map_toArray, List.map_cons, List.map_nil]); first | done | (rw [show ((l0_3.take ((wrap64 ((ji4) + a0_2)) : Int).toNat).drop ((ji4) : Int).toNat).length = ((wrap64 ((ji4) + a0_2)).toNat - (ji4).toNat) from (by rw [List.length_drop, List.length_take]; have h_ : ((wrap64 ((ji4) + a0_2)) : Int) ≤ (l0_3.length : Int) := of_decide_eq_true (by first | (with_reducible assumption) | assumption); omega)] <;> rfl) | (simp only [hji4]; rfl) | rfl | (simp only [List.length_drop, List.length_take]; rfl)) ?_; (with_reducible refine (spec_copyInts.calls _ _ ((l0_3.take ((wrap64 ((ji4) + a0_2)) : Int).toNat).drop ((ji4) : Int).toNat) t245 _ ?side1 ?side2 A8.out).mono ?_); (case side1 => exact B.kc (Kd.C_below HR244.out HB.out)); (case side2 => exact HC244.out); rintro e w12 ⟨v246, rfl, ho0, hb⟩; refine ⟨_, rfl, ?_⟩; have n0_ := Aside0.mk (Kd.R_lower ho0 (below_size (B.bl HB))); have n1_ := Aside0.mk (blk_below (B.kb BK243) hb); have n2_ := Aside0.mk (below_step (B.bl HB) hb); clear BK243 HB; have HO247 := n0_; have BK243 := n1_; have HB := n2_; clear n0_ n1_ n2_; (try clear hb); (try clear hb2); (try clear hk); (try clear hi); (try clear ho0)))
        go_ret
        exact ⟨_, by first | rfl | (simp [errW_none, errW_some] <;> rfl) | (simp only [← hji4]; first | rfl | (simp [errW_none, errW_some] <;> rfl)) | (simp [*, errW_none, errW_some] <;> rfl), by (with_reducible repeat (first | apply Kd.R_alloc | apply Kd.R_drewN | apply Kd.R_drew)); exact HO247.out, B.bl HB⟩
      rw [if_neg c7] at H
      exact absurd H (by simp)
    rw [if_neg c6] at H
    exact absurd H (by simp)
  rw [if_neg c5] at H
  exact absurd H (by simp)

/-! ### spec_PixelAt: function 23 -/
def spec_PixelAt.f (k : Nat) (a0_0 : Int) (a0_1 : Int) (a0_2 : Int) (l0_3 : List Int) (a1 : Int) (a2 : Int) : Option (List Int) := (spec_validImage.f k a0_0 a0_1 a0_2 l0_3).bind fun t249 => (if t249 = true then ((spec_onImage.f a0_0 a0_1 a0_2 l0_3 a1 a2).bind fun t250 => (if t250 = true then ((spec_pixelAt.f a0_0 a0_1 a0_2 l0_3 a1 a2).bind fun t251 => (some t251)) else (some ([] : List Int)))) else (some ([] : List Int)))
theorem spec_PixelAt.mono : ∀ a0 a1 a2 a3 a4 a5 k, LeO (spec_PixelAt.f k a0 a1 a2 a3 a4 a5) (spec_PixelAt.f (k + 1) a0 a1 a2 a3 a4 a5) := by
  intro a0 a1 a2 a3 a4 a5 k
  unfold spec_PixelAt.f
  repeat' first
      | (with_reducible exact spec_validImage.mono _ _ _ _ _)
      | (with_reducible exact LeO.refl _)
      | (with_reducible exact LeO.none _)
      | (with_reducible refine LeO.ite ?_ ?_)
      | (with_reducible refine LeO.bind ?_ (fun _ => ?_))
      | exact spec_validImage.mono _ _ _ _ _
      | exact LeO.none _
      | refine LeO.ite ?_ ?_
      | refine LeO.bind ?_ (fun _ => ?_)
set_option maxHeartbeats 8000000 in
set_option maxRecDepth 100000 in
theorem spec_PixelAt.calls (k : Nat) (a0_0 : Int) (a0_1 : Int) (a0_2 : Int) (A0_3 : Option Addr) (c0_3 : Nat) (l0_3 : List Int) (a1 : Int) (a2 : Int) (r : List Int) (w : World) (hr0_3 : Kd.C (Kd.int .i64) w A0_3 l0_3.length l0_3) (hc0_3 : l0_3.length ≤ c0_3) (h : spec_PixelAt.f k a0_0 a0_1 a0_2 l0_3 a1 a2 = some r) :
    Calls Try.prog 23 #[.agg #[.int .i64 a0_0, .int .i64 a0_1, .int .i64 a0_2, .slice A0_3 l0_3.length c0_3], .int .i64 a1, .int .i64 a2] w fun e w' => ∃ v0_ : Value, e = .returned (v0_) ∧ Kd.R (Kd.int .i64) 3 w' w.heap.size (fun _ => True) v0_ r ∧ Below w.heap.size w w' := by
  have hu27 := Try.underlying27
  have HR0_3 := Aside0.mk hr0_3
  have HC0_3 := Aside0.mk hc0_3
  clear hr0_3 hc0_3
  have HB := Aside0.mk (Below.refl w.heap.size w)
  have H : ((spec_validImage.f k a0_0 a0_1 a0_2 l0_3).bind fun t249 => (if t249 = true then ((spec_onImage.f a0_0 a0_1 a0_2 l0_3 a1 a2).bind fun t250 => (if t250 = true then ((spec_pixelAt.f a0_0 a0_1 a0_2 l0_3 a1 a2).bind fun t251 => (some t251)) else (some ([] : List Int)))) else (some ([] : List Int)))) = some r := h
  clear h
  replace H := Option.bind_eq_some_iff.mp H
  obtain ⟨t249, A40, H⟩ := H
  replace H : (if t249 = true then ((spec_onImage.f a0_0 a0_1 a0_2 l0_3 a1 a2).bind fun t250 => (if t250 = true then ((spec_pixelAt.f a0_0 a0_1 a0_2 l0_3 a1 a2).bind fun t251 => (some t251)) else (some ([] : List Int)))) else (some ([] : List Int))) = some r := H
  have A4 := Aside0.mk A40
  clear A40
  by_cases c5 : t249 = true
  · subst c5
    have H1 : ((spec_onImage.f a0_0 a0_1 a0_2 l0_3 a1 a2).bind fun t250 => (if t250 = true then ((spec_pixelAt.f a0_0 a0_1 a0_2 l0_3 a1 a2).bind fun t251 => (some t251)) else (some ([] : List Int)))) = some r := by rw [if_pos rfl] at H; exact H
    clear H
    have H := H1
    clear H1
    replace H := Option.bind_eq_some_iff.mp H
    obtain ⟨t250, A60, H⟩ := H
    replace H : (if t250 = true then ((spec_pixelAt.f a0_0 a0_1 a0_2 l0_3 a1 a2).bind fun t251 => (some t251)) else (some ([] : List Int))) = some r := H
    have A6 := Aside0.mk A60
    clear A60
    by_cases c7 : t250 = true
    · subst c7
      have H1 : ((spec_pixelAt.f a0_0 a0_1 a0_2 l0_3 a1 a2).bind fun t251 => (some t251)) = some r := by rw [if_pos rfl] at H; exact H
      clear H
      have H := H1
      clear H1
      replace H := Option.bind_eq_some_iff.mp H
      obtain ⟨t251, A80, H⟩ := H
      replace H : (some t251) = some r := H
      have A8 := Aside0.mk A80
      clear A80
      obtain rfl := Option.some.inj H
      simp only [Option.some.injEq, Prod.mk.injEq] at H
      obtain ⟨rfl⟩ := H
      go_enter Try.func23, Try.ntmps23
      go_wp2_with (first | ((with_reducible refine gate_dst (N := 3) rfl ?_); refine box_event ?hg (N := 3) ?hd (cs := #[.int .i64 a0_0, .int .i64 a0_1, .int .i64 a0_2, .slice A0_3 l0_3.length c0_3]) (t := 27) ?hr ?_; (case hd => rfl); (case hg => rfl); (case hr => first | (go_simp; done) | (go_simp; rfl)); intro gb248 hg w9 hbox hb; have n0_ := Aside0.mk (below_step (B.bl HB) hb); have n1_ := Aside0.mk (hbox); have n2_ := Aside0.mk (B.nle hg (below_size (B.bl HB))); have n3_ := Aside0.mk (B.nle hg (below_size (B.bl HB))); clear HB; have HB := n0_; have BK248 := n1_; have GW248 := n2_; have GE248 := n3_; clear n0_ n1_ n2_ n3_; clear hb hbox hg; have hcz10_0 : w9.cell? ⟨gb248, 0, none⟩ = some (.int .i64 a0_0) := B.bc BK248 0; have hcz10_1 : w9.cell? ⟨gb248, 1, none⟩ = some (.int .i64 a0_1) := B.bc BK248 1; have hcz10_2 : w9.cell? ⟨gb248, 2, none⟩ = some (.int .i64 a0_2) := B.bc BK248 2; have hcz10_3 : w9.cell? ⟨gb248, 3, none⟩ = some (.slice A0_3 l0_3.length c0_3) := B.bc BK248 3; have hfz10_0 := blk_frozen BK248.out 0; have hfz10_1 := blk_frozen BK248.out 1; have hfz10_2 := blk_frozen BK248.out 2; have hfz10_3 := blk_frozen BK248.out 3) | ((with_reducible refine gate_callee (f := 36) rfl ?_); refine goesL_ (some 8) rfl rfl Try.func36 (by kernel_rfl) rfl #[.agg #[.int .i64 a0_0, .int .i64 a0_1, .int .i64 a0_2, .slice A0_3 l0_3.length c0_3]] rfl B.am ?_; (with_reducible refine (spec_validImage.calls k a0_0 a0_1 a0_2 _ _ l0_3 true _ ?side1 ?side2 A4.out).mono ?_); (case side1 => exact B.kc (Kd.C_below HR0_3.out HB.out)); (case side2 => exact HC0_3.out); rintro e w11 ⟨rfl, hb⟩; refine ⟨_, rfl, ?_⟩; have n0_ := Aside0.mk (blk_below (B.kb BK248) hb); have n1_ := Aside0.mk (below_step (B.bl HB) hb); clear BK248 HB; have BK248 := n0_; have HB := n1_; clear n0_ n1_; (try clear hb); (try clear hb2); (try clear hk); (try clear hi); have hcz12_0 : w11.cell? ⟨gb248, 0, none⟩ = some (.int .i64 a0_0) := B.bc BK248 0; have hcz12_1 : w11.cell? ⟨gb248, 1, none⟩ = some (.int .i64 a0_1) := B.bc BK248 1; have hcz12_2 : w11.cell? ⟨gb248, 2, none⟩ = some (.int .i64 a0_2) := B.bc BK248 2; have hcz12_3 : w11.cell? ⟨gb248, 3, none⟩ = some (.slice A0_3 l0_3.length c0_3) := B.bc BK248 3; have hfz12_0 := blk_frozen BK248.out 0; have hfz12_1 := blk_frozen BK248.out 1; have hfz12_2 := blk_frozen BK248.out 2; have hfz12_3 := blk_frozen BK248.out 3) | (go_at_call 43; (with_reducible refine (spec_onImage.calls a0_0 a0_1 a0_2 _ _ l0_3 a1 a2 true _ ?side1 ?side2 A6.out).mono ?_); (case side1 => exact B.kc (Kd.C_below HR0_3.out HB.out)); (case side2 => exact HC0_3.out); rintro e w13 ⟨rfl, hb⟩; have n0_ := Aside0.mk (blk_below (B.kb BK248) hb); have n1_ := Aside0.mk (below_step (B.bl HB) hb); clear BK248 HB; have BK248 := n0_; have HB := n1_; clear n0_ n1_; (try clear hb); (try clear hb2); (try clear hk); (try clear hi); have hcz14_0 : w13.cell? ⟨gb248, 0, none⟩ = some (.int .i64 a0_0) := B.bc BK248 0; have hcz14_1 : w13.cell? ⟨gb248, 1, none⟩ = some (.int .i64 a0_1) := B.bc BK248 1; have hcz14_2 : w13.cell? ⟨gb248, 2, none⟩ = some (.int .i64 a0_2) := B.bc BK248 2; have hcz14_3 : w13.cell? ⟨gb248, 3, none⟩ = some (.slice A0_3 l0_3.length c0_3) := B.bc BK248 3; have hfz14_0 := blk_frozen BK248.out 0; have hfz14_1 := blk_frozen BK248.out 1; have hfz14_2 := blk_frozen BK248.out 2; have hfz14_3 := blk_frozen BK248.out 3) | ((with_reducible refine gate_callee (f := 44) rfl ?_); refine goesL_ (some 20) rfl rfl Try.func44 (by kernel_rfl) rfl #[.agg #[.int .i64 a0_0, .int .i64 a0_1, .int .i64 a0_2, .slice A0_3 l0_3.length c0_3], .int .i64 a1, .int .i64 a2] rfl B.am ?_; (with_reducible refine (spec_pixelAt.calls a0_0 a0_1 a0_2 _ _ l0_3 a1 a2 t251 _ ?side1 ?side2 A8.out).mono ?_); (case side1 => exact B.kc (Kd.C_below HR0_3.out HB.out)); (case side2 => exact HC0_3.out); rintro e w15 ⟨v252, rfl, ho0, hb⟩; refine ⟨_, rfl, ?_⟩; have n0_ := Aside0.mk (Kd.R_lower ho0 (below_size (B.bl HB))); have n1_ := Aside0.mk (blk_below (B.kb BK248) hb); have n2_ := Aside0.mk (below_step (B.bl HB) hb); clear BK248 HB; have HO253 := n0_; have BK248 := n1_; have HB := n2_; clear n0_ n1_ n2_; (try clear hb); (try clear hb2); (try clear hk); (try clear hi); (try clear ho0)))
      go_ret
      exact ⟨_, by first | rfl | (simp [errW_none, errW_some] <;> rfl) | (simp [*, errW_none, errW_some] <;> rfl), by (with_reducible repeat (first | apply Kd.R_alloc | apply Kd.R_drewN | apply Kd.R_drew)); exact HO253.out, B.bl HB⟩
    replace c7 := Bool.eq_false_iff.mpr c7
    subst c7
    have H1 : (some ([] : List Int)) = some r := by rw [if_neg (show ¬ (false = true) by decide)] at H; exact H
    clear H
    have H := H1
    clear H1
    obtain rfl := Option.some.inj H
    simp only [Option.some.injEq, Prod.mk.injEq] at H
    obtain ⟨rfl⟩ := H
    go_enter Try.func23, Try.ntmps23
    go_wp2_with (first | ((with_reducible refine gate_dst (N := 3) rfl ?_); refine box_event ?hg (N := 3) ?hd (cs := #[.int .i64 a0_0, .int .i64 a0_1, .int .i64 a0_2, .slice A0_3 l0_3.length c0_3]) (t := 27) ?hr ?_; (case hd => rfl); (case hg => rfl); (case hr => first | (go_simp; done) | (go_simp; rfl)); intro gb248 hg w16 hbox hb; have n0_ := Aside0.mk (below_step (B.bl HB) hb); have n1_ := Aside0.mk (hbox); have n2_ := Aside0.mk (B.nle hg (below_size (B.bl HB))); have n3_ := Aside0.mk (B.nle hg (below_size (B.bl HB))); clear HB; have HB := n0_; have BK248 := n1_; have GW248 := n2_; have GE248 := n3_; clear n0_ n1_ n2_ n3_; clear hb hbox hg; have hcz17_0 : w16.cell? ⟨gb248, 0, none⟩ = some (.int .i64 a0_0) := B.bc BK248 0; have hcz17_1 : w16.cell? ⟨gb248, 1, none⟩ = some (.int .i64 a0_1) := B.bc BK248 1; have hcz17_2 : w16.cell? ⟨gb248, 2, none⟩ = some (.int .i64 a0_2) := B.bc BK248 2; have hcz17_3 : w16.cell? ⟨gb248, 3, none⟩ = some (.slice A0_3 l0_3.length c0_3) := B.bc BK248 3; have hfz17_0 := blk_frozen BK248.out 0; have hfz17_1 := blk_frozen BK248.out 1; have hfz17_2 := blk_frozen BK248.out 2; have hfz17_3 := blk_frozen BK248.out 3) | ((with_reducible refine gate_callee (f := 36) rfl ?_); refine goesL_ (some 8) rfl rfl Try.func36 (by kernel_rfl) rfl #[.agg #[.int .i64 a0_0, .int .i64 a0_1, .int .i64 a0_2, .slice A0_3 l0_3.length c0_3]] rfl B.am ?_; (with_reducible refine (spec_validImage.calls k a0_0 a0_1 a0_2 _ _ l0_3 true _ ?side1 ?side2 A4.out).mono ?_); (case side1 => exact B.kc (Kd.C_below HR0_3.out HB.out)); (case side2 => exact HC0_3.out); rintro e w18 ⟨rfl, hb⟩; refine ⟨_, rfl, ?_⟩; have n0_ := Aside0.mk (blk_below (B.kb BK248) hb); have n1_ := Aside0.mk (below_step (B.bl HB) hb); clear BK248 HB; have BK248 := n0_; have HB := n1_; clear n0_ n1_; (try clear hb); (try clear hb2); (try clear hk); (try clear hi); have hcz19_0 : w18.cell? ⟨gb248, 0, none⟩ = some (.int .i64 a0_0) := B.bc BK248 0; have hcz19_1 : w18.cell? ⟨gb248, 1, none⟩ = some (.int .i64 a0_1) := B.bc BK248 1; have hcz19_2 : w18.cell? ⟨gb248, 2, none⟩ = some (.int .i64 a0_2) := B.bc BK248 2; have hcz19_3 : w18.cell? ⟨gb248, 3, none⟩ = some (.slice A0_3 l0_3.length c0_3) := B.bc BK248 3; have hfz19_0 := blk_frozen BK248.out 0; have hfz19_1 := blk_frozen BK248.out 1; have hfz19_2 := blk_frozen BK248.out 2; have hfz19_3 := blk_frozen BK248.out 3) | (go_at_call 43; (with_reducible refine (spec_onImage.calls a0_0 a0_1 a0_2 _ _ l0_3 a1 a2 false _ ?side1 ?side2 A6.out).mono ?_); (case side1 => exact B.kc (Kd.C_below HR0_3.out HB.out)); (case side2 => exact HC0_3.out); rintro e w20 ⟨rfl, hb⟩; have n0_ := Aside0.mk (blk_below (B.kb BK248) hb); have n1_ := Aside0.mk (below_step (B.bl HB) hb); clear BK248 HB; have BK248 := n0_; have HB := n1_; clear n0_ n1_; (try clear hb); (try clear hb2); (try clear hk); (try clear hi)))
    go_ret
    exact ⟨_, by first | rfl | (simp [errW_none, errW_some] <;> rfl) | (simp [*, errW_none, errW_some] <;> rfl), by first | exact Kd.R_nil _ _ _ _ _ | exact Kd.N_nil _ _ _ _ _ | exact Kd.V_nil _ _ _ _ _ | exact Kd.Q_nil _ _ _ _ _ | exact Kd.S_nil _ _ _ _ _, B.bl HB⟩
  replace c5 := Bool.eq_false_iff.mpr c5
  subst c5
  have H1 : (some ([] : List Int)) = some r := by rw [if_neg (show ¬ (false = true) by decide)] at H; exact H
  clear H
  have H := H1
  clear H1
  obtain rfl := Option.some.inj H
  simp only [Option.some.injEq, Prod.mk.injEq] at H
  obtain ⟨rfl⟩ := H
  go_enter Try.func23, Try.ntmps23
  go_wp2_with (first | ((with_reducible refine gate_dst (N := 3) rfl ?_); refine box_event ?hg (N := 3) ?hd (cs := #[.int .i64 a0_0, .int .i64 a0_1, .int .i64 a0_2, .slice A0_3 l0_3.length c0_3]) (t := 27) ?hr ?_; (case hd => rfl); (case hg => rfl); (case hr => first | (go_simp; done) | (go_simp; rfl)); intro gb248 hg w21 hbox hb; have n0_ := Aside0.mk (below_step (B.bl HB) hb); have n1_ := Aside0.mk (hbox); have n2_ := Aside0.mk (B.nle hg (below_size (B.bl HB))); have n3_ := Aside0.mk (B.nle hg (below_size (B.bl HB))); clear HB; have HB := n0_; have BK248 := n1_; have GW248 := n2_; have GE248 := n3_; clear n0_ n1_ n2_ n3_; clear hb hbox hg; have hcz22_0 : w21.cell? ⟨gb248, 0, none⟩ = some (.int .i64 a0_0) := B.bc BK248 0; have hcz22_1 : w21.cell? ⟨gb248, 1, none⟩ = some (.int .i64 a0_1) := B.bc BK248 1; have hcz22_2 : w21.cell? ⟨gb248, 2, none⟩ = some (.int .i64 a0_2) := B.bc BK248 2; have hcz22_3 : w21.cell? ⟨gb248, 3, none⟩ = some (.slice A0_3 l0_3.length c0_3) := B.bc BK248 3; have hfz22_0 := blk_frozen BK248.out 0; have hfz22_1 := blk_frozen BK248.out 1; have hfz22_2 := blk_frozen BK248.out 2; have hfz22_3 := blk_frozen BK248.out 3) | ((with_reducible refine gate_callee (f := 36) rfl ?_); refine goesL_ (some 8) rfl rfl Try.func36 (by kernel_rfl) rfl #[.agg #[.int .i64 a0_0, .int .i64 a0_1, .int .i64 a0_2, .slice A0_3 l0_3.length c0_3]] rfl B.am ?_; (with_reducible refine (spec_validImage.calls k a0_0 a0_1 a0_2 _ _ l0_3 false _ ?side1 ?side2 A4.out).mono ?_); (case side1 => exact B.kc (Kd.C_below HR0_3.out HB.out)); (case side2 => exact HC0_3.out); rintro e w23 ⟨rfl, hb⟩; refine ⟨_, rfl, ?_⟩; have n0_ := Aside0.mk (blk_below (B.kb BK248) hb); have n1_ := Aside0.mk (below_step (B.bl HB) hb); clear BK248 HB; have BK248 := n0_; have HB := n1_; clear n0_ n1_; (try clear hb); (try clear hb2); (try clear hk); (try clear hi)))
  go_ret
  exact ⟨_, by first | rfl | (simp [errW_none, errW_some] <;> rfl) | (simp [*, errW_none, errW_some] <;> rfl), by first | exact Kd.R_nil _ _ _ _ _ | exact Kd.N_nil _ _ _ _ _ | exact Kd.V_nil _ _ _ _ _ | exact Kd.Q_nil _ _ _ _ _ | exact Kd.S_nil _ _ _ _ _, B.bl HB⟩

/-! ### impl_Image_at: function 45 (by hand) -/
-- GIVEN (loop.example/pixelworks/impl.Image).at
-- AUX yes
set_option maxHeartbeats 2000000 in
theorem at_calls (a0_0 a0_1 a0_2 ax ay : Int) (A0 : Option Addr) (c0 : Nat) (D : List Int) (w : World) (ho : B.ImgI a0_0 a0_1 a0_2 D) (hx : 0 ≤ ax ∧ ax < a0_0) (hy : 0 ≤ ay ∧ ay < a0_1)
    (hr : Kd.C (Kd.int .i64) w A0 D.length D) (hc : D.length ≤ c0) :
    Calls Try.prog 45 #[.agg #[.int .i64 a0_0, .int .i64 a0_1, .int .i64 a0_2, .slice A0 D.length c0], .int .i64 ax, .int .i64 ay] w fun e w' =>
      ∃ A1 c1, e = .returned (.slice A1 (B.pix D a0_0.toNat a0_2.toNat ax.toNat ay.toNat).length c1) ∧ (B.pix D a0_0.toNat a0_2.toNat ax.toNat ay.toNat).length ≤ c1 ∧
        Kd.C (Kd.int .i64) w' A1 (B.pix D a0_0.toNat a0_2.toNat ax.toNat ay.toNat).length (B.pix D a0_0.toNat a0_2.toNat ax.toNat ay.toNat) ∧ Below w.heap.size w w' := by
  obtain ⟨i1, i2, i3, i4, i5, i6, i7⟩ := ho.idx hx hy
  have hp : 1 ≤ a0_2 ∧ a0_2 ≤ 4 := ⟨ho.2.2.2.2.1, ho.2.2.2.2.2.1⟩
  obtain ⟨n, hn⟩ : ∃ n : Int, wrap64 (wrap64 (wrap64 (ay * a0_0) + ax) * a0_2) = n := ⟨_, rfl⟩
  have hn2 : n = (ay * a0_0 + ax) * a0_2 := by rw [← hn, i1, i2, i3]
  rw [← hn2] at i4 i5 i6 i7
  have hpx : (D.take (n + a0_2).toNat).drop n.toNat = B.pix D a0_0.toNat a0_2.toNat ax.toNat ay.toNat := by
    rw [i7]
    exact B.pix_mid D _ _ _ _ _ (by omega)
  have hw : wrap64 (n + a0_2) = n + a0_2 := B.w64 (by omega) (by omega)
  obtain ⟨i0, hi0, _, hsz, _⟩ := info_parts info3
  obtain ⟨A1, hcut, hA1, hC1⟩ := print_mid_of (P := Try.prog) (Value.int .i64) 0 22 3 .i64 .i64 Try.underlying22 hi0 hsz A0 c0 D n (n + a0_2) i4 (by omega) i5 hc
  rw [hpx] at hcut hA1 hC1
  have HR := Aside0.mk (Kd.C_of_reads (h1 := fun _ => rfl) (hA1 _ (Kd.reads_of_C hr)))
  have HC := Aside0.mk hC1
  generalize B.pix D a0_0.toNat a0_2.toNat ax.toNat ay.toNat = px at hcut HR HC
  have c1 := eq_true i4
  have c2 : decide (0 ≤ n) = true := decide_eq_true i4
  have hu28 := Try.underlying27
  have hn' : (IntKind.i64.wrap (wrap64 (wrap64 (ay * a0_0) + ax) * a0_2)) = n := (i64_w _).trans hn
  clear ho hx hy hr hc i1 i2 i3 i4 i5 i6 i7 hn2 hpx hi0 hsz hA1 hC1 hp
  go_enter Try.func45, Try.ntmps45
  go_wp2
  go_ret
  exact ⟨A1, _, rfl, HC.out, Kd.C_alloc HR.out _, below_alloc (Below.refl _ _) _⟩

/-! ### impl_PixelAt: function 24 (by hand) -/
-- GIVEN loop.example/pixelworks/impl.PixelAt
-- ROUNDS no
-- MAKING yes
def onImg (w h x y : Int) : Bool := (decide (0 ≤ x) && decide (x < w)) && (decide (0 ≤ y) && decide (y < h))
def impl_PixelAt.f (a0_0 : Int) (a0_1 : Int) (a0_2 : Int) (l0_3 : List Int) (a1 : Int) (a2 : Int) : Option (List Int) :=
  if B.okImg a0_0 a0_1 a0_2 l0_3 = true ∧ onImg a0_0 a0_1 a1 a2 = true then some (B.pix l0_3 a0_0.toNat a0_2.toNat a1.toNat a2.toNat) else some []
set_option maxHeartbeats 4000000 in
theorem pixel_no (a0_0 : Int) (a0_1 : Int) (a0_2 : Int) (A0_3 : Option Addr) (c0_3 : Nat) (l0_3 : List Int) (a1 : Int) (a2 : Int) (w : World) (hr0_3 : Kd.C (Kd.int .i64) w A0_3 l0_3.length l0_3) (hc0_3 : l0_3.length ≤ c0_3) (hv : B.okImg a0_0 a0_1 a0_2 l0_3 = false) :
    Calls Try.prog 24 #[.agg #[.int .i64 a0_0, .int .i64 a0_1, .int .i64 a0_2, .slice A0_3 l0_3.length c0_3], .int .i64 a1, .int .i64 a2] w fun e w' => ∃ v0_ : Value, e = .returned (v0_) ∧ Kd.R (Kd.int .i64) 3 w' w.heap.size (fun _ => True) v0_ [] ∧ Below w.heap.size w w' := by
  have hu28 := Try.underlying27
  have H1 := Aside0.mk (fun (W : World) (hW : Below w.heap.size w W) => impl_isImage.calls a0_0 a0_1 a0_2 A0_3 c0_3 l0_3 false W (Kd.C_below hr0_3 hW) hc0_3 (by rw [isImage_ok, hv]))
  have BM : Aside0 ((w.alloc (.cells #[.int .i64 a0_0, .int .i64 a0_1, .int .i64 a0_2, .slice A0_3 l0_3.length c0_3] 27)).heap[w.heap.size]? = some (.cells #[.int .i64 a0_0, .int .i64 a0_1, .int .i64 a0_2, .slice A0_3 l0_3.length c0_3] 27 (0, 0))) := ⟨(heap_alloc_new w (.cells #[.int .i64 a0_0, .int .i64 a0_1, .int .i64 a0_2, .slice A0_3 l0_3.length c0_3] 27))⟩
  have HB : Aside0 (Below w.heap.size w (w.alloc (.cells #[.int .i64 a0_0, .int .i64 a0_1, .int .i64 a0_2, .slice A0_3 l0_3.length c0_3] 27))) := ⟨(below_alloc (Below.refl _ _) _)⟩
  clear hv hr0_3 hc0_3
  go_enter Try.func24, Try.ntmps24
  go_wp2_with fail
  refine (H1.out _ HB.out).mono ?_
  rintro e w1 ⟨rfl, hb1⟩
  have n0_ := Aside0.mk (blk_below BM.out hb1)
  have nb_ := Aside0.mk (below_step HB.out hb1)
  clear BM HB hb1
  have BM := n0_
  have HB := nb_
  clear n0_ nb_
  have hcBM0 := B.bc BM 0
  have hcBM1 := B.bc BM 1
  have hcBM2 := B.bc BM 2
  have hcBM3 := B.bc BM 3
  go_wp2
  go_ret
  exact ⟨_, rfl, Kd.R_nil _ _ _ _ _, HB.out⟩
set_option maxHeartbeats 4000000 in
theorem pixel_x0 (a0_0 : Int) (a0_1 : Int) (a0_2 : Int) (A0_3 : Option Addr) (c0_3 : Nat) (l0_3 : List Int) (a1 : Int) (a2 : Int) (w : World) (hr0_3 : Kd.C (Kd.int .i64) w A0_3 l0_3.length l0_3) (hc0_3 : l0_3.length ≤ c0_3) (hv : B.okImg a0_0 a0_1 a0_2 l0_3 = true) (t1 : a1 < 0) :
    Calls Try.prog 24 #[.agg #[.int .i64 a0_0, .int .i64 a0_1, .int .i64 a0_2, .slice A0_3 l0_3.length c0_3], .int .i64 a1, .int .i64 a2] w fun e w' => ∃ v0_ : Value, e = .returned (v0_) ∧ Kd.R (Kd.int .i64) 3 w' w.heap.size (fun _ => True) v0_ [] ∧ Below w.heap.size w w' := by
  have hu28 := Try.underlying27
  have H1 := Aside0.mk (fun (W : World) (hW : Below w.heap.size w W) => impl_isImage.calls a0_0 a0_1 a0_2 A0_3 c0_3 l0_3 true W (Kd.C_below hr0_3 hW) hc0_3 (by rw [isImage_ok, hv]))
  have u1 : decide (a1 < 0) = true := decide_eq_true t1
  clear t1
  have BM : Aside0 ((w.alloc (.cells #[.int .i64 a0_0, .int .i64 a0_1, .int .i64 a0_2, .slice A0_3 l0_3.length c0_3] 27)).heap[w.heap.size]? = some (.cells #[.int .i64 a0_0, .int .i64 a0_1, .int .i64 a0_2, .slice A0_3 l0_3.length c0_3] 27 (0, 0))) := ⟨(heap_alloc_new w (.cells #[.int .i64 a0_0, .int .i64 a0_1, .int .i64 a0_2, .slice A0_3 l0_3.length c0_3] 27))⟩
  have HB : Aside0 (Below w.heap.size w (w.alloc (.cells #[.int .i64 a0_0, .int .i64 a0_1, .int .i64 a0_2, .slice A0_3 l0_3.length c0_3] 27))) := ⟨(below_alloc (Below.refl _ _) _)⟩
  clear hv hr0_3 hc0_3
  go_enter Try.func24, Try.ntmps24
  go_wp2_with fail
  refine (H1.out _ HB.out).mono ?_
  rintro e w1 ⟨rfl, hb1⟩
  have n0_ := Aside0.mk (blk_below BM.out hb1)
  have nb_ := Aside0.mk (below_step HB.out hb1)
  clear BM HB hb1
  have BM := n0_
  have HB := nb_
  clear n0_ nb_
  have hcBM0 := B.bc BM 0
  have hcBM1 := B.bc BM 1
  have hcBM2 := B.bc BM 2
  have hcBM3 := B.bc BM 3
  go_wp2
  go_ret
  exact ⟨_, rfl, Kd.R_nil _ _ _ _ _, HB.out⟩
set_option maxHeartbeats 4000000 in
theorem pixel_x1 (a0_0 : Int) (a0_1 : Int) (a0_2 : Int) (A0_3 : Option Addr) (c0_3 : Nat) (l0_3 : List Int) (a1 : Int) (a2 : Int) (w : World) (hr0_3 : Kd.C (Kd.int .i64) w A0_3 l0_3.length l0_3) (hc0_3 : l0_3.length ≤ c0_3) (hv : B.okImg a0_0 a0_1 a0_2 l0_3 = true) (t1 : ¬ a1 < 0) (t2 : a0_0 ≤ a1) :
    Calls Try.prog 24 #[.agg #[.int .i64 a0_0, .int .i64 a0_1, .int .i64 a0_2, .slice A0_3 l0_3.length c0_3], .int .i64 a1, .int .i64 a2] w fun e w' => ∃ v0_ : Value, e = .returned (v0_) ∧ Kd.R (Kd.int .i64) 3 w' w.heap.size (fun _ => True) v0_ [] ∧ Below w.heap.size w w' := by
  have hu28 := Try.underlying27
  have H1 := Aside0.mk (fun (W : World) (hW : Below w.heap.size w W) => impl_isImage.calls a0_0 a0_1 a0_2 A0_3 c0_3 l0_3 true W (Kd.C_below hr0_3 hW) hc0_3 (by rw [isImage_ok, hv]))
  have u1 : decide (a1 < 0) = false := decide_eq_false t1
  clear t1
  have u2 : decide (a0_0 ≤ a1) = true := decide_eq_true t2
  clear t2
  have BM : Aside0 ((w.alloc (.cells #[.int .i64 a0_0, .int .i64 a0_1, .int .i64 a0_2, .slice A0_3 l0_3.length c0_3] 27)).heap[w.heap.size]? = some (.cells #[.int .i64 a0_0, .int .i64 a0_1, .int .i64 a0_2, .slice A0_3 l0_3.length c0_3] 27 (0, 0))) := ⟨(heap_alloc_new w (.cells #[.int .i64 a0_0, .int .i64 a0_1, .int .i64 a0_2, .slice A0_3 l0_3.length c0_3] 27))⟩
  have HB : Aside0 (Below w.heap.size w (w.alloc (.cells #[.int .i64 a0_0, .int .i64 a0_1, .int .i64 a0_2, .slice A0_3 l0_3.length c0_3] 27))) := ⟨(below_alloc (Below.refl _ _) _)⟩
  clear hv hr0_3 hc0_3
  go_enter Try.func24, Try.ntmps24
  go_wp2_with fail
  refine (H1.out _ HB.out).mono ?_
  rintro e w1 ⟨rfl, hb1⟩
  have n0_ := Aside0.mk (blk_below BM.out hb1)
  have nb_ := Aside0.mk (below_step HB.out hb1)
  clear BM HB hb1
  have BM := n0_
  have HB := nb_
  clear n0_ nb_
  have hcBM0 := B.bc BM 0
  have hcBM1 := B.bc BM 1
  have hcBM2 := B.bc BM 2
  have hcBM3 := B.bc BM 3
  go_wp2
  go_ret
  exact ⟨_, rfl, Kd.R_nil _ _ _ _ _, HB.out⟩
set_option maxHeartbeats 4000000 in
theorem pixel_y0 (a0_0 : Int) (a0_1 : Int) (a0_2 : Int) (A0_3 : Option Addr) (c0_3 : Nat) (l0_3 : List Int) (a1 : Int) (a2 : Int) (w : World) (hr0_3 : Kd.C (Kd.int .i64) w A0_3 l0_3.length l0_3) (hc0_3 : l0_3.length ≤ c0_3) (hv : B.okImg a0_0 a0_1 a0_2 l0_3 = true) (t1 : ¬ a1 < 0) (t2 : ¬ a0_0 ≤ a1) (t3 : a2 < 0) :
    Calls Try.prog 24 #[.agg #[.int .i64 a0_0, .int .i64 a0_1, .int .i64 a0_2, .slice A0_3 l0_3.length c0_3], .int .i64 a1, .int .i64 a2] w fun e w' => ∃ v0_ : Value, e = .returned (v0_) ∧ Kd.R (Kd.int .i64) 3 w' w.heap.size (fun _ => True) v0_ [] ∧ Below w.heap.size w w' := by
  have hu28 := Try.underlying27
  have H1 := Aside0.mk (fun (W : World) (hW : Below w.heap.size w W) => impl_isImage.calls a0_0 a0_1 a0_2 A0_3 c0_3 l0_3 true W (Kd.C_below hr0_3 hW) hc0_3 (by rw [isImage_ok, hv]))
  have u1 : decide (a1 < 0) = false := decide_eq_false t1
  clear t1
  have u2 : decide (a0_0 ≤ a1) = false := decide_eq_false t2
  clear t2
  have u3 : decide (a2 < 0) = true := decide_eq_true t3
  clear t3
  have BM : Aside0 ((w.alloc (.cells #[.int .i64 a0_0, .int .i64 a0_1, .int .i64 a0_2, .slice A0_3 l0_3.length c0_3] 27)).heap[w.heap.size]? = some (.cells #[.int .i64 a0_0, .int .i64 a0_1, .int .i64 a0_2, .slice A0_3 l0_3.length c0_3] 27 (0, 0))) := ⟨(heap_alloc_new w (.cells #[.int .i64 a0_0, .int .i64 a0_1, .int .i64 a0_2, .slice A0_3 l0_3.length c0_3] 27))⟩
  have HB : Aside0 (Below w.heap.size w (w.alloc (.cells #[.int .i64 a0_0, .int .i64 a0_1, .int .i64 a0_2, .slice A0_3 l0_3.length c0_3] 27))) := ⟨(below_alloc (Below.refl _ _) _)⟩
  clear hv hr0_3 hc0_3
  go_enter Try.func24, Try.ntmps24
  go_wp2_with fail
  refine (H1.out _ HB.out).mono ?_
  rintro e w1 ⟨rfl, hb1⟩
  have n0_ := Aside0.mk (blk_below BM.out hb1)
  have nb_ := Aside0.mk (below_step HB.out hb1)
  clear BM HB hb1
  have BM := n0_
  have HB := nb_
  clear n0_ nb_
  have hcBM0 := B.bc BM 0
  have hcBM1 := B.bc BM 1
  have hcBM2 := B.bc BM 2
  have hcBM3 := B.bc BM 3
  go_wp2
  go_ret
  exact ⟨_, rfl, Kd.R_nil _ _ _ _ _, HB.out⟩
set_option maxHeartbeats 4000000 in
theorem pixel_y1 (a0_0 : Int) (a0_1 : Int) (a0_2 : Int) (A0_3 : Option Addr) (c0_3 : Nat) (l0_3 : List Int) (a1 : Int) (a2 : Int) (w : World) (hr0_3 : Kd.C (Kd.int .i64) w A0_3 l0_3.length l0_3) (hc0_3 : l0_3.length ≤ c0_3) (hv : B.okImg a0_0 a0_1 a0_2 l0_3 = true) (t1 : ¬ a1 < 0) (t2 : ¬ a0_0 ≤ a1) (t3 : ¬ a2 < 0) (t4 : a0_1 ≤ a2) :
    Calls Try.prog 24 #[.agg #[.int .i64 a0_0, .int .i64 a0_1, .int .i64 a0_2, .slice A0_3 l0_3.length c0_3], .int .i64 a1, .int .i64 a2] w fun e w' => ∃ v0_ : Value, e = .returned (v0_) ∧ Kd.R (Kd.int .i64) 3 w' w.heap.size (fun _ => True) v0_ [] ∧ Below w.heap.size w w' := by
  have hu28 := Try.underlying27
  have H1 := Aside0.mk (fun (W : World) (hW : Below w.heap.size w W) => impl_isImage.calls a0_0 a0_1 a0_2 A0_3 c0_3 l0_3 true W (Kd.C_below hr0_3 hW) hc0_3 (by rw [isImage_ok, hv]))
  have u1 : decide (a1 < 0) = false := decide_eq_false t1
  clear t1
  have u2 : decide (a0_0 ≤ a1) = false := decide_eq_false t2
  clear t2
  have u3 : decide (a2 < 0) = false := decide_eq_false t3
  clear t3
  have u4 : decide (a0_1 ≤ a2) = true := decide_eq_true t4
  clear t4
  have BM : Aside0 ((w.alloc (.cells #[.int .i64 a0_0, .int .i64 a0_1, .int .i64 a0_2, .slice A0_3 l0_3.length c0_3] 27)).heap[w.heap.size]? = some (.cells #[.int .i64 a0_0, .int .i64 a0_1, .int .i64 a0_2, .slice A0_3 l0_3.length c0_3] 27 (0, 0))) := ⟨(heap_alloc_new w (.cells #[.int .i64 a0_0, .int .i64 a0_1, .int .i64 a0_2, .slice A0_3 l0_3.length c0_3] 27))⟩
  have HB : Aside0 (Below w.heap.size w (w.alloc (.cells #[.int .i64 a0_0, .int .i64 a0_1, .int .i64 a0_2, .slice A0_3 l0_3.length c0_3] 27))) := ⟨(below_alloc (Below.refl _ _) _)⟩
  clear hv hr0_3 hc0_3
  go_enter Try.func24, Try.ntmps24
  go_wp2_with fail
  refine (H1.out _ HB.out).mono ?_
  rintro e w1 ⟨rfl, hb1⟩
  have n0_ := Aside0.mk (blk_below BM.out hb1)
  have nb_ := Aside0.mk (below_step HB.out hb1)
  clear BM HB hb1
  have BM := n0_
  have HB := nb_
  clear n0_ nb_
  have hcBM0 := B.bc BM 0
  have hcBM1 := B.bc BM 1
  have hcBM2 := B.bc BM 2
  have hcBM3 := B.bc BM 3
  go_wp2
  go_ret
  exact ⟨_, rfl, Kd.R_nil _ _ _ _ _, HB.out⟩
set_option maxHeartbeats 4000000 in
theorem pixel_yes (a0_0 : Int) (a0_1 : Int) (a0_2 : Int) (A0_3 : Option Addr) (c0_3 : Nat) (l0_3 : List Int) (a1 : Int) (a2 : Int) (w : World) (hr0_3 : Kd.C (Kd.int .i64) w A0_3 l0_3.length l0_3) (hc0_3 : l0_3.length ≤ c0_3) (hv : B.okImg a0_0 a0_1 a0_2 l0_3 = true) (t1 : ¬ a1 < 0) (t2 : ¬ a0_0 ≤ a1) (t3 : ¬ a2 < 0) (t4 : ¬ a0_1 ≤ a2) :
    Calls Try.prog 24 #[.agg #[.int .i64 a0_0, .int .i64 a0_1, .int .i64 a0_2, .slice A0_3 l0_3.length c0_3], .int .i64 a1, .int .i64 a2] w fun e w' => ∃ v0_ : Value, e = .returned (v0_) ∧ Kd.R (Kd.int .i64) 3 w' w.heap.size (fun _ => True) v0_ (B.pix l0_3 a0_0.toNat a0_2.toNat a1.toNat a2.toNat) ∧ Below w.heap.size w w' := by
  have hu28 := Try.underlying27
  have H1 := Aside0.mk (fun (W : World) (hW : Below w.heap.size w W) => impl_isImage.calls a0_0 a0_1 a0_2 A0_3 c0_3 l0_3 true W (Kd.C_below hr0_3 hW) hc0_3 (by rw [isImage_ok, hv]))
  have H2 := Aside0.mk (fun (W : World) (hW : Below w.heap.size w W) => at_calls a0_0 a0_1 a0_2 a1 a2 A0_3 c0_3 l0_3 W (B.okImg_img hv).1 ⟨by omega, by omega⟩ ⟨by omega, by omega⟩ (Kd.C_below hr0_3 hW) hc0_3)
  have hpl : (B.pix l0_3 a0_0.toNat a0_2.toNat a1.toNat a2.toNat).length ≤ 4 := by
    have := (B.okImg_img hv).1.2.2.2.2.2.1
    unfold B.pix B.chunk
    rw [List.length_take]
    omega
  generalize (B.pix l0_3 a0_0.toNat a0_2.toNat a1.toNat a2.toNat) = px at H2 hpl ⊢
  have HPL := Aside0.mk hpl
  clear hpl
  have u1 : decide (a1 < 0) = false := decide_eq_false t1
  clear t1
  have u2 : decide (a0_0 ≤ a1) = false := decide_eq_false t2
  clear t2
  have u3 : decide (a2 < 0) = false := decide_eq_false t3
  clear t3
  have u4 : decide (a0_1 ≤ a2) = false := decide_eq_false t4
  clear t4
  have BM : Aside0 ((w.alloc (.cells #[.int .i64 a0_0, .int .i64 a0_1, .int .i64 a0_2, .slice A0_3 l0_3.length c0_3] 27)).heap[w.heap.size]? = some (.cells #[.int .i64 a0_0, .int .i64 a0_1, .int .i64 a0_2, .slice A0_3 l0_3.length c0_3] 27 (0, 0))) := ⟨(heap_alloc_new w (.cells #[.int .i64 a0_0, .int .i64 a0_1, .int .i64 a0_2, .slice A0_3 l0_3.length c0_3] 27))⟩
  have HB : Aside0 (Below w.heap.size w (w.alloc (.cells #[.int .i64 a0_0, .int .i64 a0_1, .int .i64 a0_2, .slice A0_3 l0_3.length c0_3] 27))) := ⟨(below_alloc (Below.refl _ _) _)⟩
  clear hv hr0_3 hc0_3
  go_enter Try.func24, Try.ntmps24
  go_wp2_with fail
  refine (H1.out _ HB.out).mono ?_
  rintro e w1 ⟨rfl, hb1⟩
  have n0_ := Aside0.mk (blk_below BM.out hb1)
  have nb_ := Aside0.mk (below_step HB.out hb1)
  clear BM HB hb1
  have BM := n0_
  have HB := nb_
  clear n0_ nb_
  have hcBM0 := B.bc BM 0
  have hcBM1 := B.bc BM 1
  have hcBM2 := B.bc BM 2
  have hcBM3 := B.bc BM 3
  go_wp2_with (first | ((with_reducible refine gate_dst (N := 30) rfl ?_); refine Kd.R_lit (Kd.int .i64) _ 3 ?hg (N := 30) ?hd (xs := ([] : List Int)) (inner := []) (ok := fun _ => True) (okp := fun _ => True) ?hr ?hp (fun _ hk => hk) trivial (Below.refl _ _) (Nat.le_refl _) (by simp) ?_; (case hd => rfl); (case hg => rfl); (case hr => first | (go_simp; done) | (go_simp; rfl)); (case hp => exact (Reps.none _ _)); intro v2 w2 ho2 hb2 hg_ hnew_; clear hg_ hnew_; have n0_ := Aside0.mk (blk_below BM.out hb2); have n1_ := Aside0.mk (below_step HB.out hb2); have n2_ := Aside0.mk (Kd.R_lower ho2 HB.out.size); clear BM HB hb2 ho2; have BM := n0_; have HB := n1_; have HO := n2_; clear n0_ n1_ n2_; clear hcBM0 hcBM1 hcBM2 hcBM3; have hcBM0 : w2.cell? ⟨w.heap.size, 0, none⟩ = some (.int .i64 a0_0) := (blk_cell BM.out 0).trans rfl; have hcBM1 : w2.cell? ⟨w.heap.size, 1, none⟩ = some (.int .i64 a0_1) := (blk_cell BM.out 1).trans rfl; have hcBM2 : w2.cell? ⟨w.heap.size, 2, none⟩ = some (.int .i64 a0_2) := (blk_cell BM.out 2).trans rfl; have hcBM3 : w2.cell? ⟨w.heap.size, 3, none⟩ = some (.slice A0_3 l0_3.length c0_3) := (blk_cell BM.out 3).trans rfl))
  go_wp2_with fail
  refine (H2.out _ HB.out).mono ?_
  rintro e w3 ⟨A1, c1, rfl, hc1, hC, hb3⟩
  clear hcBM0 hcBM1 hcBM2 hcBM3
  have HO3 := Aside0.mk (Kd.R_below HO.out hb3)
  have HC := Aside0.mk hC
  have n1_ := Aside0.mk (below_step HB.out hb3)
  clear HB HO hC hc1 hb3 BM
  have HB := n1_
  clear n1_
  go_wp2_with (first | ((with_reducible refine gate_builtin (b := .append) (xs := #[.tmp 30, .tmp 34]) rfl ?_); at_builtin; refine Kd.R_append_rows (Kd.int .i64) (w0 := w) w.heap.size rfl (.tmp 30) (.tmp 34) 22 3 (.int .i64 0) 8 rfl Try.underlying22 info3 rfl (by decide) (by omega) v2 [] px _ _ _ (fun _ => True) (fun _ => False) rfl rfl ?aO ?aR (fun _ _ h => h) (fun _ h => h.elim) ?aF ?aB ?aS ?aL ?_; (case aR => exact HC.out); (case aB => exact HB.out); (case aF => exact (fun _ _ => trivial)); (case aO => exact HO3.out); (case aS => exact HB.out.size); (case aL => have := HPL.out; simp only [List.length_nil]; omega); intro v4 w4 ho4 hb4 hg4 hat4; rw [List.nil_append] at ho4; have n0_ := Aside0.mk hb4; have n1_ := Aside0.mk ho4; clear HB HO3 HC hb4 ho4 hg4 hat4; have HB := n0_; have HO := n1_; clear n0_ n1_))
  go_ret
  exact ⟨_, rfl, HO.out, HB.out⟩
theorem impl_PixelAt.calls (a0_0 : Int) (a0_1 : Int) (a0_2 : Int) (A0_3 : Option Addr) (c0_3 : Nat) (l0_3 : List Int) (a1 : Int) (a2 : Int) (r : List Int) (w : World) (hr0_3 : Kd.C (Kd.int .i64) w A0_3 l0_3.length l0_3) (hc0_3 : l0_3.length ≤ c0_3) (h : impl_PixelAt.f a0_0 a0_1 a0_2 l0_3 a1 a2 = some r) :
    Calls Try.prog 24 #[.agg #[.int .i64 a0_0, .int .i64 a0_1, .int .i64 a0_2, .slice A0_3 l0_3.length c0_3], .int .i64 a1, .int .i64 a2] w fun e w' => ∃ v0_ : Value, e = .returned (v0_) ∧ Kd.R (Kd.int .i64) 3 w' w.heap.size (fun _ => True) v0_ r ∧ Below w.heap.size w w' := by
  unfold impl_PixelAt.f at h
  by_cases hv : B.okImg a0_0 a0_1 a0_2 l0_3 = true
  case neg =>
    exact (by
    rw [if_neg (fun g => hv g.1)] at h
    obtain rfl := Option.some.inj h
    exact pixel_no a0_0 a0_1 a0_2 A0_3 c0_3 l0_3 a1 a2 w hr0_3 hc0_3 (Bool.eq_false_iff.2 hv))
  by_cases t1 : a1 < 0
  · exact (by
    rw [if_neg (fun g => by have := g.2; simp only [onImg, Bool.and_eq_true, decide_eq_true_eq] at this; omega)] at h
    obtain rfl := Option.some.inj h
    exact pixel_x0 a0_0 a0_1 a0_2 A0_3 c0_3 l0_3 a1 a2 w hr0_3 hc0_3 hv t1)
  by_cases t2 : a0_0 ≤ a1
  · exact (by
    rw [if_neg (fun g => by have := g.2; simp only [onImg, Bool.and_eq_true, decide_eq_true_eq] at this; omega)] at h
    obtain rfl := Option.some.inj h
    exact pixel_x1 a0_0 a0_1 a0_2 A0_3 c0_3 l0_3 a1 a2 w hr0_3 hc0_3 hv t1 t2)
  by_cases t3 : a2 < 0
  · exact (by
    rw [if_neg (fun g => by have := g.2; simp only [onImg, Bool.and_eq_true, decide_eq_true_eq] at this; omega)] at h
    obtain rfl := Option.some.inj h
    exact pixel_y0 a0_0 a0_1 a0_2 A0_3 c0_3 l0_3 a1 a2 w hr0_3 hc0_3 hv t1 t2 t3)
  by_cases t4 : a0_1 ≤ a2
  · exact (by
    rw [if_neg (fun g => by have := g.2; simp only [onImg, Bool.and_eq_true, decide_eq_true_eq] at this; omega)] at h
    obtain rfl := Option.some.inj h
    exact pixel_y1 a0_0 a0_1 a0_2 A0_3 c0_3 l0_3 a1 a2 w hr0_3 hc0_3 hv t1 t2 t3 t4)
  have hon : onImg a0_0 a0_1 a1 a2 = true := by
    simp only [onImg, Bool.and_eq_true, decide_eq_true_eq]
    omega
  rw [if_pos ⟨hv, hon⟩] at h
  obtain rfl := Option.some.inj h
  exact pixel_yes a0_0 a0_1 a0_2 A0_3 c0_3 l0_3 a1 a2 w hr0_3 hc0_3 hv t1 t2 t3 t4

end Go.Proofs.Ytegicfkcdmhjgaa.Q
