-- Written by a program of this session (the kit's printer, with hand-proved contracts for the functions that it does not take).
import Derived.Test.YtegicfkcdmhjgaaQ0
import Derived.Test.YtegicfkcdmhjgaaQ4
import Derived.Test.YtegicfkcdmhjgaaQ6
import Derived.Test.YtegicfkcdmhjgaaQ7
namespace Go.Proofs.Ytegicfkcdmhjgaa.Q
open Go.RowKit Go.Proofs.YtegicfkcdmhjgaaW.PrintWords Go.Proofs.YtegicfkcdmhjgaaW.PrintLast Go.Proofs.YtegicfkcdmhjgaaW.PrintMore
attribute [local go_sem] max2_int min2_int max_two min_two max_three min_three max_four min_four   -- for this text's walks alone
set_option linter.unusedVariables false
set_option linter.unusedSimpArgs false

/-! ### spec_DrawInvertImage: function 28 -/
def spec_DrawInvertImage.f (k : Nat) (l0 : List Int) : Option (Int × Int × Int × List Int) := (spec_newReader.f l0).bind fun bt435 => ((spec_anyImage.f k bt435.1 bt435.2).bind fun bt438 => (some (bt438.1, bt438.2.1, bt438.2.2.1, bt438.2.2.2.1)))
theorem spec_DrawInvertImage.mono : ∀ a0 k, LeO (spec_DrawInvertImage.f k a0) (spec_DrawInvertImage.f (k + 1) a0) := by
  intro a0 k
  unfold spec_DrawInvertImage.f
  repeat' first
      | (with_reducible exact spec_anyImage.mono _ _ _)
      | (with_reducible exact LeO.refl _)
      | (with_reducible exact LeO.none _)
      | (with_reducible refine LeO.ite ?_ ?_)
      | (with_reducible refine LeO.bind ?_ (fun _ => ?_))
      | exact spec_anyImage.mono _ _ _
      | exact LeO.none _
      | refine LeO.ite ?_ ?_
      | refine LeO.bind ?_ (fun _ => ?_)
set_option maxHeartbeats 8000000 in
set_option maxRecDepth 100000 in
theorem spec_DrawInvertImage.calls (k : Nat) (A0 : Option Addr) (c0 : Nat) (l0 : List Int) (r1 : Int) (r2 : Int) (r3 : Int) (r4 : List Int) (w : World) (hr0 : Kd.C (Kd.int .u8) w A0 l0.length l0) (hc0 : l0.length ≤ c0) (h : spec_DrawInvertImage.f k l0 = some (r1, r2, r3, r4)) :
    Calls Try.prog 28 #[.slice A0 l0.length c0] w fun e w' => ∃ v3_ : Value, e = .returned (.agg #[.int .i64 r1, .int .i64 r2, .int .i64 r3, v3_]) ∧ Kd.Q (Kd.int .i64) 3 w' w.heap.size (fun _ => True) v3_ r4 ∧ Below w.heap.size w w' := by
  have hu27 := Try.underlying27
  have HR0 := Aside0.mk hr0
  have HC0 := Aside0.mk hc0
  clear hr0 hc0
  have HB := Aside0.mk (Below.refl w.heap.size w)
  have H : ((spec_newReader.f l0).bind fun bt435 => ((spec_anyImage.f k bt435.1 bt435.2).bind fun bt438 => (some (bt438.1, bt438.2.1, bt438.2.2.1, bt438.2.2.2.1)))) = some (r1, r2, r3, r4) := h
  clear h
  replace H := Option.bind_eq_some_iff.mp H
  obtain ⟨⟨t435, t436⟩, A20, H⟩ := H
  replace H : ((spec_anyImage.f k t435 t436).bind fun bt438 => (some (bt438.1, bt438.2.1, bt438.2.2.1, bt438.2.2.2.1))) = some (r1, r2, r3, r4) := H
  have A2 := Aside0.mk A20
  clear A20
  replace H := Option.bind_eq_some_iff.mp H
  obtain ⟨⟨t438, t439, t440, t441, t444⟩, A30, H⟩ := H
  replace H : (some (t438, t439, t440, t441)) = some (r1, r2, r3, r4) := H
  have A3 := Aside0.mk A30
  clear A30
  simp only [Option.some.injEq, Prod.mk.injEq] at H
  obtain ⟨rfl, rfl, rfl, rfl⟩ := H
  go_enter Try.func28, Try.ntmps28
  go_wp2_with (first | ((with_reducible refine gate_dst (N := 2) rfl ?_); refine box_event ?hg (N := 2) ?hd (cs := #[.int .i64 0, .int .i64 0, .int .i64 0, .slice none 0 0]) (t := 27) ?hr ?_; (case hd => rfl); (case hg => rfl); (case hr => first | (go_simp; done) | (go_simp; rfl)); intro gb434 hg w4 hbox hb; have n0_ := Aside0.mk (below_step (B.bl HB) hb); have n1_ := Aside0.mk (hbox); have n2_ := Aside0.mk (B.nle hg (below_size (B.bl HB))); have n3_ := Aside0.mk (B.nle hg (below_size (B.bl HB))); clear HB; have HB := n0_; have BK434 := n1_; have GW434 := n2_; have GE434 := n3_; clear n0_ n1_ n2_ n3_; clear hb hbox hg) | ((with_reducible refine gate_callee (f := 46) rfl ?_); refine goesL_ (some 4) rfl rfl Try.func46 (by kernel_rfl) rfl #[.slice A0 l0.length c0] rfl B.am ?_; (with_reducible refine (spec_newReader.calls _ _ l0 t435 t436 w _ ?side1 ?side2 ?side3 A2.out).mono ?_); (case side1 => exact B.bl HB); (case side2 => exact HR0.out); (case side3 => exact HC0.out); rintro e w5 ⟨g437, rfl, hi, hb, hb2⟩; refine ⟨_, rfl, ?_⟩; have n0_ := Aside0.mk (blk_below (B.kb BK434) hb2); have n1_ := Aside0.mk (hb); have n2_ := Aside0.mk (hi); have n3_ := Aside0.mk (IsS67.ne_blk hi (blk_below (B.kb BK434) hb2) (by decide)); have n4_ := Aside0.mk (Ne.symm (IsS67.ne_blk hi (blk_below (B.kb BK434) hb2) (by decide))); clear BK434 HB; have BK434 := n0_; have HB := n1_; have HI437 := n2_; have NB437_434 := n3_; have NB434_437 := n4_; clear n0_ n1_ n2_ n3_ n4_; (try clear hb); (try clear hb2); (try clear hk); (try clear hi)) | ((with_reducible refine gate_callee (f := 47) rfl ?_); refine goesL_ (some 5) rfl rfl Try.func47 (by kernel_rfl) rfl #[.pointer (some ⟨g437, 0, none⟩)] rfl B.am ?_; (with_reducible refine (spec_anyImage.calls k g437 t435 t436 t438 t439 t440 t441 t444 w _ ?side1 ?side2 A3.out).mono ?_); (case side1 => exact B.st HI437); (case side2 => exact B.bs HB); rintro e w6 ⟨v442, rfl, ho0, hi, hb, hk⟩; refine ⟨_, rfl, ?_⟩; have n0_ := Aside0.mk (KeepBut.blk hk (g' := gb434) (o := .cells #[.int .i64 0, .int .i64 0, .int .i64 0, .slice none 0 0] 27 (0, 0)) (B.kb BK434) NB434_437.out (by simp)); have n1_ := Aside0.mk (Kd.Q_lower ho0 (below_size (B.bs HB))); have n2_ := Aside0.mk (hb); have n3_ := Aside0.mk (hi); clear BK434 HB HI437; have BK434 := n0_; have HO443 := n1_; have HB := n2_; have HI437 := n3_; clear n0_ n1_ n2_ n3_; (try clear hb); (try clear hb2); (try clear hk); (try clear hi); (try clear ho0); have hnb7 := NB434_437.out; have hnc7 := NB437_434.out; have hcz8_0 : w6.cell? ⟨gb434, 0, none⟩ = some (.int .i64 0) := B.bc BK434 0; have hcz8_1 : w6.cell? ⟨gb434, 1, none⟩ = some (.int .i64 0) := B.bc BK434 1; have hcz8_2 : w6.cell? ⟨gb434, 2, none⟩ = some (.int .i64 0) := B.bc BK434 2; have hcz8_3 : w6.cell? ⟨gb434, 3, none⟩ = some (.slice none 0 0) := B.bc BK434 3; have hfz8_0 := blk_frozen BK434.out 0; have hfz8_1 := blk_frozen BK434.out 1; have hfz8_2 := blk_frozen BK434.out 2; have hfz8_3 := blk_frozen BK434.out 3; obtain ⟨Ao9, co9, eo9, _⟩ := Kd.Q_slice HO443.out; subst eo9))
  refine bodyPost_ret (results_cell_row rfl _ _ gb434 27 #[.int .i64 t438, .int .i64 t439, .int .i64 t440, .slice Ao9 t441.length co9] (0, 0) _ rfl (B.kb0 (B.bp4 BK434)) Try.underlying27 rfl (by kernel_rfl)) rfl ?_
  exact ⟨_, by first | rfl | (simp [errW_none, errW_some] <;> rfl) | (simp [*, errW_none, errW_some] <;> rfl), by (with_reducible repeat (first | apply Kd.Q_alloc | apply Kd.Q_drewN | apply Kd.Q_drew)); exact Kd.Q_mono (Kd.Q_far (p := ⟨gb434, 3, none⟩) (Kd.Q_far (p := ⟨gb434, 2, none⟩) (Kd.Q_far (p := ⟨gb434, 1, none⟩) (Kd.Q_far (p := ⟨gb434, 0, none⟩) (Kd.Q_types HO443.out BK434.out (by decide)) (fun _ hk => hk.2) (.int .i64 t438)) (fun _ hk => hk.2) (.int .i64 t439)) (fun _ hk => hk.2) (.int .i64 t440)) (fun _ hk => hk.2) (.slice Ao9 t441.length co9)) (fun _ hk => trivial), B.bs HB⟩

/-! ### laws_equalImage: function 30 -/
def laws_equalImage.f (k : Nat) (a0_0 : Int) (a0_1 : Int) (a0_2 : Int) (l0_3 : List Int) (a1_0 : Int) (a1_1 : Int) (a1_2 : Int) (l1_3 : List Int) : Option (Bool) := if a0_0 = a1_0 then (if a0_1 = a1_1 then (if a0_2 = a1_2 then ((laws_equalInts.f k l0_3 l1_3).bind fun t455 => (some t455)) else (some false)) else (some false)) else (some false)
theorem laws_equalImage.mono : ∀ a0 a1 a2 a3 a4 a5 a6 a7 k, LeO (laws_equalImage.f k a0 a1 a2 a3 a4 a5 a6 a7) (laws_equalImage.f (k + 1) a0 a1 a2 a3 a4 a5 a6 a7) := by
  intro a0 a1 a2 a3 a4 a5 a6 a7 k
  unfold laws_equalImage.f
  repeat' first
      | (with_reducible exact laws_equalInts.mono _ _ _)
      | (with_reducible exact LeO.refl _)
      | (with_reducible exact LeO.none _)
      | (with_reducible refine LeO.ite ?_ ?_)
      | (with_reducible refine LeO.bind ?_ (fun _ => ?_))
      | exact laws_equalInts.mono _ _ _
      | exact LeO.none _
      | refine LeO.ite ?_ ?_
      | refine LeO.bind ?_ (fun _ => ?_)
set_option maxHeartbeats 8000000 in
set_option maxRecDepth 100000 in
theorem laws_equalImage.calls (k : Nat) (a0_0 : Int) (a0_1 : Int) (a0_2 : Int) (A0_3 : Option Addr) (c0_3 : Nat) (l0_3 : List Int) (a1_0 : Int) (a1_1 : Int) (a1_2 : Int) (A1_3 : Option Addr) (c1_3 : Nat) (l1_3 : List Int) (r : Bool) (w : World) (hr0_3 : Kd.C (Kd.int .i64) w A0_3 l0_3.length l0_3) (hc0_3 : l0_3.length ≤ c0_3) (hr1_3 : Kd.C (Kd.int .i64) w A1_3 l1_3.length l1_3) (hc1_3 : l1_3.length ≤ c1_3) (h : laws_equalImage.f k a0_0 a0_1 a0_2 l0_3 a1_0 a1_1 a1_2 l1_3 = some r) :
    Calls Try.prog 30 #[.agg #[.int .i64 a0_0, .int .i64 a0_1, .int .i64 a0_2, .slice A0_3 l0_3.length c0_3], .agg #[.int .i64 a1_0, .int .i64 a1_1, .int .i64 a1_2, .slice A1_3 l1_3.length c1_3]] w fun e w' => e = .returned (.bool r) ∧ Below w.heap.size w w' := by
  have hu27 := Try.underlying27
  have HR0_3 := Aside0.mk hr0_3
  have HC0_3 := Aside0.mk hc0_3
  clear hr0_3 hc0_3
  have HR1_3 := Aside0.mk hr1_3
  have HC1_3 := Aside0.mk hc1_3
  clear hr1_3 hc1_3
  have HB := Aside0.mk (Below.refl w.heap.size w)
  have H : (if a0_0 = a1_0 then (if a0_1 = a1_1 then (if a0_2 = a1_2 then ((laws_equalInts.f k l0_3 l1_3).bind fun t455 => (some t455)) else (some false)) else (some false)) else (some false)) = some r := h
  clear h
  by_cases c3 : a0_0 = a1_0
  · rw [if_pos c3] at H
    have c3b0 : (a0_0 == a1_0) = true := beq_iff_eq.mpr c3
    have c3b1 : (a0_0 != a1_0) = false := bne_eq_false_iff_eq.mpr c3
    clear c3
    by_cases c4 : a0_1 = a1_1
    · rw [if_pos c4] at H
      have c4b0 : (a0_1 == a1_1) = true := beq_iff_eq.mpr c4
      have c4b1 : (a0_1 != a1_1) = false := bne_eq_false_iff_eq.mpr c4
      clear c4
      by_cases c5 : a0_2 = a1_2
      · rw [if_pos c5] at H
        have c5b0 : (a0_2 == a1_2) = true := beq_iff_eq.mpr c5
        have c5b1 : (a0_2 != a1_2) = false := bne_eq_false_iff_eq.mpr c5
        clear c5
        replace H := Option.bind_eq_some_iff.mp H
        obtain ⟨t455, A60, H⟩ := H
        replace H : (some t455) = some r := H
        have A6 := Aside0.mk A60
        clear A60
        obtain rfl := Option.some.inj H
        simp only [Option.some.injEq, Prod.mk.injEq] at H
        obtain ⟨rfl⟩ := H
        go_enter Try.func30, Try.ntmps30
        go_wp2_with (first | ((with_reducible refine gate_dst (N := 2) rfl ?_); refine box_event ?hg (N := 2) ?hd (cs := #[.int .i64 a0_0, .int .i64 a0_1, .int .i64 a0_2, .slice A0_3 l0_3.length c0_3]) (t := 27) ?hr ?_; (case hd => rfl); (case hg => rfl); (case hr => first | (go_simp; done) | (go_simp; rfl)); intro gb453 hg w7 hbox hb; have n0_ := Aside0.mk (below_step (B.bl HB) hb); have n1_ := Aside0.mk (hbox); have n2_ := Aside0.mk (B.nle hg (below_size (B.bl HB))); have n3_ := Aside0.mk (B.nle hg (below_size (B.bl HB))); clear HB; have HB := n0_; have BK453 := n1_; have GW453 := n2_; have GE453 := n3_; clear n0_ n1_ n2_ n3_; clear hb hbox hg) | ((with_reducible refine gate_dst (N := 3) rfl ?_); refine box_event ?hg (N := 3) ?hd (cs := #[.int .i64 a1_0, .int .i64 a1_1, .int .i64 a1_2, .slice A1_3 l1_3.length c1_3]) (t := 27) ?hr ?_; (case hd => rfl); (case hg => rfl); (case hr => first | (go_simp; done) | (go_simp; rfl)); intro gb454 hg w8 hbox hb; have n0_ := Aside0.mk (blk_below (B.kb BK453) hb); have n1_ := Aside0.mk (below_step (B.bl HB) hb); have n2_ := Aside0.mk (hbox); have n3_ := Aside0.mk (B.nle hg (below_size (B.bl HB))); have n4_ := Aside0.mk (B.nle hg (below_size (B.bl HB))); have n5_ := Aside0.mk (B.nlt hg (blk_lt (B.kb BK453))); have n6_ := Aside0.mk (B.ngt hg (blk_lt (B.kb BK453))); clear BK453 HB; have BK453 := n0_; have HB := n1_; have BK454 := n2_; have GW454 := n3_; have GE454 := n4_; have NB453_454 := n5_; have NB454_453 := n6_; clear n0_ n1_ n2_ n3_ n4_ n5_ n6_; clear hb hbox hg; have hnb9 := NB453_454.out; have hnc9 := NB454_453.out; have hcz10_0 : w8.cell? ⟨gb453, 0, none⟩ = some (.int .i64 a0_0) := B.bc BK453 0; have hcz10_1 : w8.cell? ⟨gb453, 1, none⟩ = some (.int .i64 a0_1) := B.bc BK453 1; have hcz10_2 : w8.cell? ⟨gb453, 2, none⟩ = some (.int .i64 a0_2) := B.bc BK453 2; have hcz10_3 : w8.cell? ⟨gb453, 3, none⟩ = some (.slice A0_3 l0_3.length c0_3) := B.bc BK453 3; have hfz10_0 := blk_frozen BK453.out 0; have hfz10_1 := blk_frozen BK453.out 1; have hfz10_2 := blk_frozen BK453.out 2; have hfz10_3 := blk_frozen BK453.out 3; have hcz11_0 : w8.cell? ⟨gb454, 0, none⟩ = some (.int .i64 a1_0) := B.bc BK454 0; have hcz11_1 : w8.cell? ⟨gb454, 1, none⟩ = some (.int .i64 a1_1) := B.bc BK454 1; have hcz11_2 : w8.cell? ⟨gb454, 2, none⟩ = some (.int .i64 a1_2) := B.bc BK454 2; have hcz11_3 : w8.cell? ⟨gb454, 3, none⟩ = some (.slice A1_3 l1_3.length c1_3) := B.bc BK454 3; have hfz11_0 := blk_frozen BK454.out 0; have hfz11_1 := blk_frozen BK454.out 1; have hfz11_2 := blk_frozen BK454.out 2; have hfz11_3 := blk_frozen BK454.out 3) | (go_at_call 27; (with_reducible refine (laws_equalInts.calls k _ _ l0_3 _ _ l1_3 t455 _ ?side1 ?side2 ?side3 ?side4 A6.out).mono ?_); (case side1 => exact B.kc (Kd.C_below HR0_3.out HB.out)); (case side2 => exact HC0_3.out); (case side3 => exact B.kc (Kd.C_below HR1_3.out HB.out)); (case side4 => exact HC1_3.out); rintro e w' ⟨rfl, ⟨nd, rfl⟩⟩))
        go_ret
        exact ⟨by first | rfl | (simp [errW_none, errW_some] <;> rfl) | (simp [*, errW_none, errW_some] <;> rfl), B.bl HB⟩
      rw [if_neg c5] at H
      have c5b0 : (a0_2 == a1_2) = false := beq_eq_false_iff_ne.mpr c5
      have c5b1 : (a0_2 != a1_2) = true := bne_iff_ne.mpr c5
      obtain rfl := Option.some.inj H
      simp only [Option.some.injEq, Prod.mk.injEq] at H
      obtain ⟨rfl⟩ := H
      go_enter Try.func30, Try.ntmps30
      go_wp2_with (first | ((with_reducible refine gate_dst (N := 2) rfl ?_); refine box_event ?hg (N := 2) ?hd (cs := #[.int .i64 a0_0, .int .i64 a0_1, .int .i64 a0_2, .slice A0_3 l0_3.length c0_3]) (t := 27) ?hr ?_; (case hd => rfl); (case hg => rfl); (case hr => first | (go_simp; done) | (go_simp; rfl)); intro gb453 hg w12 hbox hb; have n0_ := Aside0.mk (below_step (B.bl HB) hb); have n1_ := Aside0.mk (hbox); have n2_ := Aside0.mk (B.nle hg (below_size (B.bl HB))); have n3_ := Aside0.mk (B.nle hg (below_size (B.bl HB))); clear HB; have HB := n0_; have BK453 := n1_; have GW453 := n2_; have GE453 := n3_; clear n0_ n1_ n2_ n3_; clear hb hbox hg) | ((with_reducible refine gate_dst (N := 3) rfl ?_); refine box_event ?hg (N := 3) ?hd (cs := #[.int .i64 a1_0, .int .i64 a1_1, .int .i64 a1_2, .slice A1_3 l1_3.length c1_3]) (t := 27) ?hr ?_; (case hd => rfl); (case hg => rfl); (case hr => first | (go_simp; done) | (go_simp; rfl)); intro gb454 hg w13 hbox hb; have n0_ := Aside0.mk (blk_below (B.kb BK453) hb); have n1_ := Aside0.mk (below_step (B.bl HB) hb); have n2_ := Aside0.mk (hbox); have n3_ := Aside0.mk (B.nle hg (below_size (B.bl HB))); have n4_ := Aside0.mk (B.nle hg (below_size (B.bl HB))); have n5_ := Aside0.mk (B.nlt hg (blk_lt (B.kb BK453))); have n6_ := Aside0.mk (B.ngt hg (blk_lt (B.kb BK453))); clear BK453 HB; have BK453 := n0_; have HB := n1_; have BK454 := n2_; have GW454 := n3_; have GE454 := n4_; have NB453_454 := n5_; have NB454_453 := n6_; clear n0_ n1_ n2_ n3_ n4_ n5_ n6_; clear hb hbox hg; have hnb14 := NB453_454.out; have hnc14 := NB454_453.out; have hcz15_0 : w13.cell? ⟨gb453, 0, none⟩ = some (.int .i64 a0_0) := B.bc BK453 0; have hcz15_1 : w13.cell? ⟨gb453, 1, none⟩ = some (.int .i64 a0_1) := B.bc BK453 1; have hcz15_2 : w13.cell? ⟨gb453, 2, none⟩ = some (.int .i64 a0_2) := B.bc BK453 2; have hcz15_3 : w13.cell? ⟨gb453, 3, none⟩ = some (.slice A0_3 l0_3.length c0_3) := B.bc BK453 3; have hfz15_0 := blk_frozen BK453.out 0; have hfz15_1 := blk_frozen BK453.out 1; have hfz15_2 := blk_frozen BK453.out 2; have hfz15_3 := blk_frozen BK453.out 3; have hcz16_0 : w13.cell? ⟨gb454, 0, none⟩ = some (.int .i64 a1_0) := B.bc BK454 0; have hcz16_1 : w13.cell? ⟨gb454, 1, none⟩ = some (.int .i64 a1_1) := B.bc BK454 1; have hcz16_2 : w13.cell? ⟨gb454, 2, none⟩ = some (.int .i64 a1_2) := B.bc BK454 2; have hcz16_3 : w13.cell? ⟨gb454, 3, none⟩ = some (.slice A1_3 l1_3.length c1_3) := B.bc BK454 3; have hfz16_0 := blk_frozen BK454.out 0; have hfz16_1 := blk_frozen BK454.out 1; have hfz16_2 := blk_frozen BK454.out 2; have hfz16_3 := blk_frozen BK454.out 3))
      go_ret
      exact ⟨by first | rfl | (simp [errW_none, errW_some] <;> rfl) | (simp [*, errW_none, errW_some] <;> rfl), B.bl HB⟩
    rw [if_neg c4] at H
    have c4b0 : (a0_1 == a1_1) = false := beq_eq_false_iff_ne.mpr c4
    have c4b1 : (a0_1 != a1_1) = true := bne_iff_ne.mpr c4
    obtain rfl := Option.some.inj H
    simp only [Option.some.injEq, Prod.mk.injEq] at H
    obtain ⟨rfl⟩ := H
    go_enter Try.func30, Try.ntmps30
    go_wp2_with (first | ((with_reducible refine gate_dst (N := 2) rfl ?_); refine box_event ?hg (N := 2) ?hd (cs := #[.int .i64 a0_0, .int .i64 a0_1, .int .i64 a0_2, .slice A0_3 l0_3.length c0_3]) (t := 27) ?hr ?_; (case hd => rfl); (case hg => rfl); (case hr => first | (go_simp; done) | (go_simp; rfl)); intro gb453 hg w17 hbox hb; have n0_ := Aside0.mk (below_step (B.bl HB) hb); have n1_ := Aside0.mk (hbox); have n2_ := Aside0.mk (B.nle hg (below_size (B.bl HB))); have n3_ := Aside0.mk (B.nle hg (below_size (B.bl HB))); clear HB; have HB := n0_; have BK453 := n1_; have GW453 := n2_; have GE453 := n3_; clear n0_ n1_ n2_ n3_; clear hb hbox hg) | ((with_reducible refine gate_dst (N := 3) rfl ?_); refine box_event ?hg (N := 3) ?hd (cs := #[.int .i64 a1_0, .int .i64 a1_1, .int .i64 a1_2, .slice A1_3 l1_3.length c1_3]) (t := 27) ?hr ?_; (case hd => rfl); (case hg => rfl); (case hr => first | (go_simp; done) | (go_simp; rfl)); intro gb454 hg w18 hbox hb; have n0_ := Aside0.mk (blk_below (B.kb BK453) hb); have n1_ := Aside0.mk (below_step (B.bl HB) hb); have n2_ := Aside0.mk (hbox); have n3_ := Aside0.mk (B.nle hg (below_size (B.bl HB))); have n4_ := Aside0.mk (B.nle hg (below_size (B.bl HB))); have n5_ := Aside0.mk (B.nlt hg (blk_lt (B.kb BK453))); have n6_ := Aside0.mk (B.ngt hg (blk_lt (B.kb BK453))); clear BK453 HB; have BK453 := n0_; have HB := n1_; have BK454 := n2_; have GW454 := n3_; have GE454 := n4_; have NB453_454 := n5_; have NB454_453 := n6_; clear n0_ n1_ n2_ n3_ n4_ n5_ n6_; clear hb hbox hg; have hnb19 := NB453_454.out; have hnc19 := NB454_453.out; have hcz20_0 : w18.cell? ⟨gb453, 0, none⟩ = some (.int .i64 a0_0) := B.bc BK453 0; have hcz20_1 : w18.cell? ⟨gb453, 1, none⟩ = some (.int .i64 a0_1) := B.bc BK453 1; have hcz20_2 : w18.cell? ⟨gb453, 2, none⟩ = some (.int .i64 a0_2) := B.bc BK453 2; have hcz20_3 : w18.cell? ⟨gb453, 3, none⟩ = some (.slice A0_3 l0_3.length c0_3) := B.bc BK453 3; have hfz20_0 := blk_frozen BK453.out 0; have hfz20_1 := blk_frozen BK453.out 1; have hfz20_2 := blk_frozen BK453.out 2; have hfz20_3 := blk_frozen BK453.out 3; have hcz21_0 : w18.cell? ⟨gb454, 0, none⟩ = some (.int .i64 a1_0) := B.bc BK454 0; have hcz21_1 : w18.cell? ⟨gb454, 1, none⟩ = some (.int .i64 a1_1) := B.bc BK454 1; have hcz21_2 : w18.cell? ⟨gb454, 2, none⟩ = some (.int .i64 a1_2) := B.bc BK454 2; have hcz21_3 : w18.cell? ⟨gb454, 3, none⟩ = some (.slice A1_3 l1_3.length c1_3) := B.bc BK454 3; have hfz21_0 := blk_frozen BK454.out 0; have hfz21_1 := blk_frozen BK454.out 1; have hfz21_2 := blk_frozen BK454.out 2; have hfz21_3 := blk_frozen BK454.out 3))
    go_ret
    exact ⟨by first | rfl | (simp [errW_none, errW_some] <;> rfl) | (simp [*, errW_none, errW_some] <;> rfl), B.bl HB⟩
  rw [if_neg c3] at H
  have c3b0 : (a0_0 == a1_0) = false := beq_eq_false_iff_ne.mpr c3
  have c3b1 : (a0_0 != a1_0) = true := bne_iff_ne.mpr c3
  obtain rfl := Option.some.inj H
  simp only [Option.some.injEq, Prod.mk.injEq] at H
  obtain ⟨rfl⟩ := H
  go_enter Try.func30, Try.ntmps30
  go_wp2_with (first | ((with_reducible refine gate_dst (N := 2) rfl ?_); refine box_event ?hg (N := 2) ?hd (cs := #[.int .i64 a0_0, .int .i64 a0_1, .int .i64 a0_2, .slice A0_3 l0_3.length c0_3]) (t := 27) ?hr ?_; (case hd => rfl); (case hg => rfl); (case hr => first | (go_simp; done) | (go_simp; rfl)); intro gb453 hg w22 hbox hb; have n0_ := Aside0.mk (below_step (B.bl HB) hb); have n1_ := Aside0.mk (hbox); have n2_ := Aside0.mk (B.nle hg (below_size (B.bl HB))); have n3_ := Aside0.mk (B.nle hg (below_size (B.bl HB))); clear HB; have HB := n0_; have BK453 := n1_; have GW453 := n2_; have GE453 := n3_; clear n0_ n1_ n2_ n3_; clear hb hbox hg) | ((with_reducible refine gate_dst (N := 3) rfl ?_); refine box_event ?hg (N := 3) ?hd (cs := #[.int .i64 a1_0, .int .i64 a1_1, .int .i64 a1_2, .slice A1_3 l1_3.length c1_3]) (t := 27) ?hr ?_; (case hd => rfl); (case hg => rfl); (case hr => first | (go_simp; done) | (go_simp; rfl)); intro gb454 hg w23 hbox hb; have n0_ := Aside0.mk (blk_below (B.kb BK453) hb); have n1_ := Aside0.mk (below_step (B.bl HB) hb); have n2_ := Aside0.mk (hbox); have n3_ := Aside0.mk (B.nle hg (below_size (B.bl HB))); have n4_ := Aside0.mk (B.nle hg (below_size (B.bl HB))); have n5_ := Aside0.mk (B.nlt hg (blk_lt (B.kb BK453))); have n6_ := Aside0.mk (B.ngt hg (blk_lt (B.kb BK453))); clear BK453 HB; have BK453 := n0_; have HB := n1_; have BK454 := n2_; have GW454 := n3_; have GE454 := n4_; have NB453_454 := n5_; have NB454_453 := n6_; clear n0_ n1_ n2_ n3_ n4_ n5_ n6_; clear hb hbox hg; have hnb24 := NB453_454.out; have hnc24 := NB454_453.out; have hcz25_0 : w23.cell? ⟨gb453, 0, none⟩ = some (.int .i64 a0_0) := B.bc BK453 0; have hcz25_1 : w23.cell? ⟨gb453, 1, none⟩ = some (.int .i64 a0_1) := B.bc BK453 1; have hcz25_2 : w23.cell? ⟨gb453, 2, none⟩ = some (.int .i64 a0_2) := B.bc BK453 2; have hcz25_3 : w23.cell? ⟨gb453, 3, none⟩ = some (.slice A0_3 l0_3.length c0_3) := B.bc BK453 3; have hfz25_0 := blk_frozen BK453.out 0; have hfz25_1 := blk_frozen BK453.out 1; have hfz25_2 := blk_frozen BK453.out 2; have hfz25_3 := blk_frozen BK453.out 3; have hcz26_0 : w23.cell? ⟨gb454, 0, none⟩ = some (.int .i64 a1_0) := B.bc BK454 0; have hcz26_1 : w23.cell? ⟨gb454, 1, none⟩ = some (.int .i64 a1_1) := B.bc BK454 1; have hcz26_2 : w23.cell? ⟨gb454, 2, none⟩ = some (.int .i64 a1_2) := B.bc BK454 2; have hcz26_3 : w23.cell? ⟨gb454, 3, none⟩ = some (.slice A1_3 l1_3.length c1_3) := B.bc BK454 3; have hfz26_0 := blk_frozen BK454.out 0; have hfz26_1 := blk_frozen BK454.out 1; have hfz26_2 := blk_frozen BK454.out 2; have hfz26_3 := blk_frozen BK454.out 3))
  go_ret
  exact ⟨by first | rfl | (simp [errW_none, errW_some] <;> rfl) | (simp [*, errW_none, errW_some] <;> rfl), B.bl HB⟩

/-! ### laws_FnInvertImage: function 7 -/
mutual
def laws_FnInvertImage.j0 : Nat → Bool → Int → Int → Int → List Int → Int → Int → Int → List Int → Option (Bool)
  | 0, _, _, _, _, _, _, _, _, _ => none
  | k + 1, x22, x480000, x480001, x480002, x480003, x487000, x487001, x487002, x487003 => if x22 = true then ((spec_InvertImage.f k x480000 x480001 x480002 x480003).bind fun bt494 => ((laws_equalImage.f k x487000 x487001 x487002 x487003 bt494.1 bt494.2.1 bt494.2.2.1 bt494.2.2.2).bind fun t500 => (some t500))) else (laws_FnInvertImage.l0 k 0 x480000 x480001 x480002 x480003 x487000 x487001 x487002 x487003)
def laws_FnInvertImage.l0 : Nat → Int → Int → Int → Int → List Int → Int → Int → Int → List Int → Option (Bool)
  | 0, _, _, _, _, _, _, _, _, _ => none
  | k + 1, x5, x480000, x480001, x480002, x480003, x487000, x487001, x487002, x487003 => if x5 < (x480003.length : Int) then (if 0 ≤ x5 then (if x5 < (x487003.length : Int) then (if (wrap64 ((rd x487003 x5) + (rd x480003 x5))) = 255 then (laws_FnInvertImage.l0 k (wrap64 (x5 + 1)) x480000 x480001 x480002 x480003 x487000 x487001 x487002 x487003) else (some false)) else (none)) else (none)) else ((impl_InvertImage.f x487000 x487001 x487002 x487003).bind fun bt503 => ((laws_equalImage.f k bt503.1 bt503.2.1 bt503.2.2.1 bt503.2.2.2 x480000 x480001 x480002 x480003).bind fun t509 => (some t509)))
end
def laws_FnInvertImage.f (k : Nat) (l0 : List Int) : Option (Bool) := if (l0.length : Int) > 1048576 then (some true) else ((spec_DrawInvertImage.f k l0).bind fun bt473 => ((impl_InvertImage.f bt473.1 bt473.2.1 bt473.2.2.1 bt473.2.2.2).bind fun bt480 => ((spec_InvertImage.f k bt473.1 bt473.2.1 bt473.2.2.1 bt473.2.2.2).bind fun bt487 => ((laws_equalImage.f k bt480.1 bt480.2.1 bt480.2.2.1 bt480.2.2.2 bt487.1 bt487.2.1 bt487.2.2.1 bt487.2.2.2).bind fun t493 => (if t493 = true then (laws_FnInvertImage.j0 k (bt480.1 == 0) bt473.1 bt473.2.1 bt473.2.2.1 bt473.2.2.2 bt480.1 bt480.2.1 bt480.2.2.1 bt480.2.2.2) else (laws_FnInvertImage.j0 k true bt473.1 bt473.2.1 bt473.2.2.1 bt473.2.2.2 bt480.1 bt480.2.1 bt480.2.2.1 bt480.2.2.2))))))
theorem laws_FnInvertImage.mono_l : ∀ k, (∀ y0 y1 y2 y3 y4 y5 y6 y7 y8, LeO (laws_FnInvertImage.j0 k y0 y1 y2 y3 y4 y5 y6 y7 y8) (laws_FnInvertImage.j0 (k + 1) y0 y1 y2 y3 y4 y5 y6 y7 y8)) ∧ (∀ y0 y1 y2 y3 y4 y5 y6 y7 y8, LeO (laws_FnInvertImage.l0 k y0 y1 y2 y3 y4 y5 y6 y7 y8) (laws_FnInvertImage.l0 (k + 1) y0 y1 y2 y3 y4 y5 y6 y7 y8))
  | 0 => ⟨fun _ _ _ _ _ _ _ _ _ r h => by simp [laws_FnInvertImage.j0] at h, fun _ _ _ _ _ _ _ _ _ r h => by simp [laws_FnInvertImage.l0] at h⟩
  | k + 1 => by
    obtain ⟨ih0, ih1⟩ := laws_FnInvertImage.mono_l k
    refine ⟨?_, ?_⟩
    · intro y0 y1 y2 y3 y4 y5 y6 y7 y8
      unfold laws_FnInvertImage.j0
      repeat' first
      | (with_reducible exact ih0 _ _ _ _ _ _ _ _ _)
      | (with_reducible exact ih1 _ _ _ _ _ _ _ _ _)
      | (with_reducible exact laws_equalImage.mono _ _ _ _ _ _ _ _ _)
      | (with_reducible exact spec_DrawInvertImage.mono _ _)
      | (with_reducible exact spec_InvertImage.mono _ _ _ _ _)
      | (with_reducible exact LeO.refl _)
      | (with_reducible exact LeO.none _)
      | (with_reducible refine LeO.ite ?_ ?_)
      | (with_reducible refine LeO.bind ?_ (fun _ => ?_))
      | exact ih0 _ _ _ _ _ _ _ _ _
      | exact ih1 _ _ _ _ _ _ _ _ _
      | exact laws_equalImage.mono _ _ _ _ _ _ _ _ _
      | exact spec_DrawInvertImage.mono _ _
      | exact spec_InvertImage.mono _ _ _ _ _
      | exact LeO.none _
      | refine LeO.ite ?_ ?_
      | refine LeO.bind ?_ (fun _ => ?_)
    intro y0 y1 y2 y3 y4 y5 y6 y7 y8
    unfold laws_FnInvertImage.l0
    repeat' first
    | (with_reducible exact ih0 _ _ _ _ _ _ _ _ _)
    | (with_reducible exact ih1 _ _ _ _ _ _ _ _ _)
    | (with_reducible exact laws_equalImage.mono _ _ _ _ _ _ _ _ _)
    | (with_reducible exact spec_DrawInvertImage.mono _ _)
    | (with_reducible exact spec_InvertImage.mono _ _ _ _ _)
    | (with_reducible exact LeO.refl _)
    | (with_reducible exact LeO.none _)
    | (with_reducible refine LeO.ite ?_ ?_)
    | (with_reducible refine LeO.bind ?_ (fun _ => ?_))
    | exact ih0 _ _ _ _ _ _ _ _ _
    | exact ih1 _ _ _ _ _ _ _ _ _
    | exact laws_equalImage.mono _ _ _ _ _ _ _ _ _
    | exact spec_DrawInvertImage.mono _ _
    | exact spec_InvertImage.mono _ _ _ _ _
    | exact LeO.none _
    | refine LeO.ite ?_ ?_
    | refine LeO.bind ?_ (fun _ => ?_)
theorem laws_FnInvertImage.mono : ∀ a0 k, LeO (laws_FnInvertImage.f k a0) (laws_FnInvertImage.f (k + 1) a0) := by
  intro a0 k
  obtain ⟨ih0, ih1⟩ := laws_FnInvertImage.mono_l k
  unfold laws_FnInvertImage.f
  repeat' first
      | (with_reducible exact ih0 _ _ _ _ _ _ _ _ _)
      | (with_reducible exact ih1 _ _ _ _ _ _ _ _ _)
      | (with_reducible exact laws_equalImage.mono _ _ _ _ _ _ _ _ _)
      | (with_reducible exact spec_DrawInvertImage.mono _ _)
      | (with_reducible exact spec_InvertImage.mono _ _ _ _ _)
      | (with_reducible exact LeO.refl _)
      | (with_reducible exact LeO.none _)
      | (with_reducible refine LeO.ite ?_ ?_)
      | (with_reducible refine LeO.bind ?_ (fun _ => ?_))
      | exact ih0 _ _ _ _ _ _ _ _ _
      | exact ih1 _ _ _ _ _ _ _ _ _
      | exact laws_equalImage.mono _ _ _ _ _ _ _ _ _
      | exact spec_DrawInvertImage.mono _ _
      | exact spec_InvertImage.mono _ _ _ _ _
      | exact LeO.none _
      | refine LeO.ite ?_ ?_
      | refine LeO.bind ?_ (fun _ => ?_)
def laws_FnInvertImage.T5 : Bool × List (List Nat × List Nat) := (true, [([], []), ([], []), ([1], [1]), ([0, 2, 2], [0, 2]), ([3], [3]), ([4, 3], [4]), ([5], [5]), ([6, 5], [5, 6]), ([7, 5], [5, 7]), ([5, 8], [5, 8])])
def laws_FnInvertImage.B5 : List Nat := [0, 0, 2, 7, 15, 31, 63, 127, 255, 511]
theorem laws_FnInvertImage.tab5 : rtab .any (opsOf Try.f7 5) = laws_FnInvertImage.T5 := by kernel_rfl
theorem laws_FnInvertImage.bits5 : waitsOk laws_FnInvertImage.T5.2 laws_FnInvertImage.B5 = true := by kernel_rfl
def laws_FnInvertImage.T10 : Bool × List (List Nat × List Nat) := (true, [([], []), ([0], [0]), ([], []), ([1, 2], [1, 2]), ([3], [3]), ([], []), ([5], [5]), ([], []), ([6, 7], [6, 7]), ([8], [8]), ([4, 9], [4, 9]), ([10], [10])])
def laws_FnInvertImage.B10 : List Nat := [0, 1, 0, 7, 15, 0, 32, 0, 224, 480, 1023, 2047]
theorem laws_FnInvertImage.tab10 : rtab .any (opsOf Try.f7 10) = laws_FnInvertImage.T10 := by kernel_rfl
theorem laws_FnInvertImage.bits10 : waitsOk laws_FnInvertImage.T10.2 laws_FnInvertImage.B10 = true := by kernel_rfl
set_option maxHeartbeats 8000000 in
set_option maxRecDepth 100000 in
theorem laws_FnInvertImage.calls (k : Nat) (A0 : Option Addr) (c0 : Nat) (l0 : List Int) (r : Bool) (w : World) (hr0 : Kd.C (Kd.int .u8) w A0 l0.length l0) (hc0 : l0.length ≤ c0) (h : laws_FnInvertImage.f k l0 = some r) (ht_ : Aside0 (r = true)) :
    Calls Try.prog 7 #[.slice A0 l0.length c0] w fun e w' => e = .returned (.bool r) ∧ Below w.heap.size w w' := by
  have hu27 := Try.underlying27
  have HR0 := Aside0.mk hr0
  have HC0 := Aside0.mk hc0
  clear hr0 hc0
  have HB := Aside0.mk (Below.refl w.heap.size w)
  have H : (if (l0.length : Int) > 1048576 then (some true) else ((spec_DrawInvertImage.f k l0).bind fun bt473 => ((impl_InvertImage.f bt473.1 bt473.2.1 bt473.2.2.1 bt473.2.2.2).bind fun bt480 => ((spec_InvertImage.f k bt473.1 bt473.2.1 bt473.2.2.1 bt473.2.2.2).bind fun bt487 => ((laws_equalImage.f k bt480.1 bt480.2.1 bt480.2.2.1 bt480.2.2.2 bt487.1 bt487.2.1 bt487.2.2.1 bt487.2.2.2).bind fun t493 => (if t493 = true then (laws_FnInvertImage.j0 k (bt480.1 == 0) bt473.1 bt473.2.1 bt473.2.2.1 bt473.2.2.2 bt480.1 bt480.2.1 bt480.2.2.1 bt480.2.2.2) else (laws_FnInvertImage.j0 k true bt473.1 bt473.2.1 bt473.2.2.1 bt473.2.2.2 bt480.1 bt480.2.1 bt480.2.2.1 bt480.2.2.2))))))) = some r := h
  clear h
  by_cases c2 : (l0.length : Int) > 1048576
  · rw [if_pos c2] at H
    have c2b0 : decide (1048576 < (l0.length : Int)) = true := decide_eq_true c2
    have c2b1 : decide (1048576 < l0.length) = true := decide_eq_true (by omega)
    clear c2
    obtain rfl := Option.some.inj H
    simp only [Option.some.injEq, Prod.mk.injEq] at H
    obtain ⟨rfl⟩ := H
    go_enter Try.func7, Try.ntmps7
    go_wp2
    go_ret
    exact ⟨by first | rfl | (simp [errW_none, errW_some] <;> rfl) | (simp [*, errW_none, errW_some] <;> rfl), B.bl HB⟩
  rw [if_neg c2] at H
  have c2b0 : decide (1048576 < (l0.length : Int)) = false := decide_eq_false c2
  have c2b1 : decide (1048576 < l0.length) = false := decide_eq_false (by omega)
  clear c2
  replace H := Option.bind_eq_some_iff.mp H
  obtain ⟨⟨t473, t474, t475, t476⟩, A30, H⟩ := H
  replace H : ((impl_InvertImage.f t473 t474 t475 t476).bind fun bt480 => ((spec_InvertImage.f k t473 t474 t475 t476).bind fun bt487 => ((laws_equalImage.f k bt480.1 bt480.2.1 bt480.2.2.1 bt480.2.2.2 bt487.1 bt487.2.1 bt487.2.2.1 bt487.2.2.2).bind fun t493 => (if t493 = true then (laws_FnInvertImage.j0 k (bt480.1 == 0) t473 t474 t475 t476 bt480.1 bt480.2.1 bt480.2.2.1 bt480.2.2.2) else (laws_FnInvertImage.j0 k true t473 t474 t475 t476 bt480.1 bt480.2.1 bt480.2.2.1 bt480.2.2.2))))) = some r := H
  have A3 := Aside0.mk A30
  clear A30
  replace H := Option.bind_eq_some_iff.mp H
  obtain ⟨⟨t480, t481, t482, t483⟩, A40, H⟩ := H
  replace H : ((spec_InvertImage.f k t473 t474 t475 t476).bind fun bt487 => ((laws_equalImage.f k t480 t481 t482 t483 bt487.1 bt487.2.1 bt487.2.2.1 bt487.2.2.2).bind fun t493 => (if t493 = true then (laws_FnInvertImage.j0 k (t480 == 0) t473 t474 t475 t476 t480 t481 t482 t483) else (laws_FnInvertImage.j0 k true t473 t474 t475 t476 t480 t481 t482 t483)))) = some r := H
  have A4 := Aside0.mk A40
  clear A40
  have HC5 := Aside0.mk H
  clear H
  go_enter Try.func7, Try.ntmps7
  go_upto_region 5 with (first | ((with_reducible refine gate_callee (f := 28) rfl ?_); refine goesL_ (some 10) rfl rfl Try.func28 (by kernel_rfl) rfl #[.slice A0 l0.length c0] rfl B.am ?_; (with_reducible refine (spec_DrawInvertImage.calls k _ _ l0 t473 t474 t475 t476 _ ?side1 ?side2 A3.out).mono ?_); (case side1 => exact B.kc (HR0.out)); (case side2 => exact HC0.out); rintro e w6 ⟨v477, rfl, ho0, hb⟩; refine ⟨_, rfl, ?_⟩; have n0_ := Aside0.mk (Kd.Q_lower ho0 (below_size (B.bl HB))); have n1_ := Aside0.mk (below_step (B.bl HB) hb); clear HB; have HO478 := n0_; have HB := n1_; clear n0_ n1_; (try clear hb); (try clear hb2); (try clear hk); (try clear hi); (try clear ho0)) | ((with_reducible refine gate_dst (N := 3) rfl ?_); refine box_event ?hg (N := 3) ?hd (cs := #[.int .i64 0, .int .i64 0, .int .i64 0, .slice none 0 0]) (t := 27) ?hr ?_; (case hd => rfl); (case hg => rfl); (case hr => first | (go_simp; done) | (go_simp; rfl)); intro gb479 hg w7 hbox hb; have n0_ := Aside0.mk (Kd.Q_below (B.kq HO478) hb); have n1_ := Aside0.mk (below_step (B.bl HB) hb); have n2_ := Aside0.mk (hbox); have n3_ := Aside0.mk (B.nle hg (below_size (B.bl HB))); have n4_ := Aside0.mk (B.nle hg (below_size (B.bl HB))); clear HO478 HB; have HO478 := n0_; have HB := n1_; have BK479 := n2_; have GW479 := n3_; have GE479 := n4_; clear n0_ n1_ n2_ n3_ n4_; clear hb hbox hg; have hcz8_0 : w7.cell? ⟨gb479, 0, none⟩ = some (.int .i64 0) := B.bc BK479 0; have hcz8_1 : w7.cell? ⟨gb479, 1, none⟩ = some (.int .i64 0) := B.bc BK479 1; have hcz8_2 : w7.cell? ⟨gb479, 2, none⟩ = some (.int .i64 0) := B.bc BK479 2; have hcz8_3 : w7.cell? ⟨gb479, 3, none⟩ = some (.slice none 0 0) := B.bc BK479 3; have hfz8_0 := blk_frozen BK479.out 0; have hfz8_1 := blk_frozen BK479.out 1; have hfz8_2 := blk_frozen BK479.out 2; have hfz8_3 := blk_frozen BK479.out 3; obtain ⟨Ao9, co9, eo9, _⟩ := Kd.Q_slice HO478.out; subst eo9) | ((with_reducible refine gate_callee (f := 29) rfl ?_); refine goesL_ (some 12) rfl rfl Try.func29 (by kernel_rfl) rfl #[.agg #[.int .i64 t473, .int .i64 t474, .int .i64 t475, .slice Ao9 t476.length co9]] rfl B.am ?_; (with_reducible refine (impl_InvertImage.calls t473 t474 t475 _ _ t476 t480 t481 t482 t483 _ ?side1 ?side2 A4.out).mono ?_); (case side1 => refine (Kd.Q_reads' (e := 3) (base := w.heap.size) (ok := fun k_ => True) (n := t476.length) (c := co9) ?_).2.2; exact (by (with_reducible repeat (first | apply Kd.Q_alloc | apply Kd.Q_drewN | apply Kd.Q_drew)); exact (Kd.Q_mono (Kd.Q_far (p := ⟨gb479, 3, none⟩) (Kd.Q_far (p := ⟨gb479, 2, none⟩) (Kd.Q_far (p := ⟨gb479, 1, none⟩) (Kd.Q_far (p := ⟨gb479, 0, none⟩) (Kd.Q_types HO478.out BK479.out (by decide)) (fun _ hk => hk.2) (.int .i64 t473)) (fun _ hk => hk.2) (.int .i64 t474)) (fun _ hk => hk.2) (.int .i64 t475)) (fun _ hk => hk.2) (.slice Ao9 t476.length co9)) (fun _ h_ => h_.1)))); (case side2 => exact (Kd.Q_reads' HO478.out).2.1); rintro e w10 ⟨v484, rfl, ho0, hb⟩; refine ⟨_, rfl, ?_⟩; have n0_ := Aside0.mk (Kd.Q_elder' (by (with_reducible repeat (first | apply Kd.Q_alloc | apply Kd.Q_drewN | apply Kd.Q_drew)); exact (Kd.Q_mono (Kd.Q_far (p := ⟨gb479, 3, none⟩) (Kd.Q_far (p := ⟨gb479, 2, none⟩) (Kd.Q_far (p := ⟨gb479, 1, none⟩) (Kd.Q_far (p := ⟨gb479, 0, none⟩) (Kd.Q_types HO478.out BK479.out (by decide)) (fun _ hk => hk.2) (.int .i64 t473)) (fun _ hk => hk.2) (.int .i64 t474)) (fun _ hk => hk.2) (.int .i64 t475)) (fun _ hk => hk.2) (.slice Ao9 t476.length co9)) (fun _ h_ => h_.1))) (Kd.R_base ho0) hb); have n1_ := Aside0.mk (Kd.R_lower (Kd.R_new' ho0 (Kd.Q_lt (by (with_reducible repeat (first | apply Kd.Q_alloc | apply Kd.Q_drewN | apply Kd.Q_drew)); exact (Kd.Q_mono (Kd.Q_far (p := ⟨gb479, 3, none⟩) (Kd.Q_far (p := ⟨gb479, 2, none⟩) (Kd.Q_far (p := ⟨gb479, 1, none⟩) (Kd.Q_far (p := ⟨gb479, 0, none⟩) (Kd.Q_types HO478.out BK479.out (by decide)) (fun _ hk => hk.2) (.int .i64 t473)) (fun _ hk => hk.2) (.int .i64 t474)) (fun _ hk => hk.2) (.int .i64 t475)) (fun _ hk => hk.2) (.slice Ao9 t476.length co9)) (fun _ h_ => h_.1))))) (below_size (B.bl HB))); have n2_ := Aside0.mk (blk_below (g := gb479) (o := .cells #[.int .i64 t473, .int .i64 t474, .int .i64 t475, .slice Ao9 t476.length co9] 27 (0, 0)) (B.kb0 (B.bp4 BK479)) hb); have n3_ := Aside0.mk (below_step (B.bl HB) hb); clear HO478 BK479 HB; have HO478 := n0_; have HO485 := n1_; have BK479 := n2_; have HB := n3_; clear n0_ n1_ n2_ n3_; (try clear hb); (try clear hb2); (try clear hk); (try clear hi); (try clear ho0)) | ((with_reducible refine gate_dst (N := 4) rfl ?_); refine box_event ?hg (N := 4) ?hd (cs := #[.int .i64 0, .int .i64 0, .int .i64 0, .slice none 0 0]) (t := 27) ?hr ?_; (case hd => rfl); (case hg => rfl); (case hr => first | (go_simp; done) | (go_simp; rfl)); intro gb486 hg w11 hbox hb; have n0_ := Aside0.mk (Kd.Q_below (B.kq HO478) hb); have n1_ := Aside0.mk (Kd.R_below (B.kr HO485) hb); have n2_ := Aside0.mk (blk_below (B.kb BK479) hb); have n3_ := Aside0.mk (below_step (B.bl HB) hb); have n4_ := Aside0.mk (hbox); have n5_ := Aside0.mk (B.nle hg (below_size (B.bl HB))); have n6_ := Aside0.mk (B.nle hg (below_size (B.bl HB))); have n7_ := Aside0.mk (B.nlt hg (blk_lt (B.kb BK479))); have n8_ := Aside0.mk (B.ngt hg (blk_lt (B.kb BK479))); clear HO478 HO485 BK479 HB; have HO478 := n0_; have HO485 := n1_; have BK479 := n2_; have HB := n3_; have BK486 := n4_; have GW486 := n5_; have GE486 := n6_; have NB479_486 := n7_; have NB486_479 := n8_; clear n0_ n1_ n2_ n3_ n4_ n5_ n6_ n7_ n8_; clear hb hbox hg; have hnb12 := NB486_479.out; have hnc12 := NB479_486.out; have hcz13_0 : w11.cell? ⟨gb486, 0, none⟩ = some (.int .i64 0) := B.bc BK486 0; have hcz13_1 : w11.cell? ⟨gb486, 1, none⟩ = some (.int .i64 0) := B.bc BK486 1; have hcz13_2 : w11.cell? ⟨gb486, 2, none⟩ = some (.int .i64 0) := B.bc BK486 2; have hcz13_3 : w11.cell? ⟨gb486, 3, none⟩ = some (.slice none 0 0) := B.bc BK486 3; have hfz13_0 := blk_frozen BK486.out 0; have hfz13_1 := blk_frozen BK486.out 1; have hfz13_2 := blk_frozen BK486.out 2; have hfz13_3 := blk_frozen BK486.out 3; obtain ⟨Ao14, co14, eo14⟩ := Kd.R_slice HO485.out; subst eo14))
  (try simp only [Act.put, List.setIfInBounds_toArray, List.set_cons_zero, List.set_cons_succ])
  go_cut [22] (fun v22 wc => ∃ (kq : Nat) (x22_4 : Bool), v22 = .bool x22_4 ∧ Aside0 (laws_FnInvertImage.j0 kq x22_4 t473 t474 t475 t476 t480 t481 t482 t483 = some r) ∧ Aside0 (kq ≤ k) ∧ Aside0 (Kd.Q (Kd.int .i64) 3 wc w.heap.size (fun k_ => some k_ ≠ ((.slice Ao14 t483.length co14) : Value).ownBlock) (.slice Ao9 t476.length co9) t476) ∧ Aside0 (Kd.Q (Kd.int .i64) 3 wc w.heap.size (fun k_ => some k_ ≠ ((.slice Ao9 t476.length co9) : Value).ownBlock) (.slice Ao14 t483.length co14) t483) ∧ Aside0 (wc.heap[gb479]? = some (.cells #[.int .i64 t473, .int .i64 t474, .int .i64 t475, (.slice Ao9 t476.length co9)] 27 (0, 0))) ∧ Aside0 (wc.heap[gb486]? = some (.cells #[.int .i64 t480, .int .i64 t481, .int .i64 t482, (.slice Ao14 t483.length co14)] 27 (0, 0))) ∧ Aside0 (Below w.heap.size w wc))
  case first =>
    have H := HC5.out
    clear HC5
    replace H := Option.bind_eq_some_iff.mp H
    obtain ⟨⟨t487, t488, t489, t490⟩, A150, H⟩ := H
    replace H : ((laws_equalImage.f k t480 t481 t482 t483 t487 t488 t489 t490).bind fun t493 => (if t493 = true then (laws_FnInvertImage.j0 k (t480 == 0) t473 t474 t475 t476 t480 t481 t482 t483) else (laws_FnInvertImage.j0 k true t473 t474 t475 t476 t480 t481 t482 t483))) = some r := H
    have A15 := Aside0.mk A150
    clear A150
    replace H := Option.bind_eq_some_iff.mp H
    obtain ⟨t493, A160, H⟩ := H
    replace H : (if t493 = true then (laws_FnInvertImage.j0 k (t480 == 0) t473 t474 t475 t476 t480 t481 t482 t483) else (laws_FnInvertImage.j0 k true t473 t474 t475 t476 t480 t481 t482 t483)) = some r := H
    have A16 := Aside0.mk A160
    clear A160
    by_cases c17 : t493 = true
    · subst c17
      have H1 : (laws_FnInvertImage.j0 k (t480 == 0) t473 t474 t475 t476 t480 t481 t482 t483) = some r := by rw [if_pos rfl] at H; exact H
      clear H
      have H := H1
      clear H1
      have H' := Aside0.mk H
      clear H
      try go_wp2
      have n0_ : Aside0 (Kd.Q (Kd.int .i64) 3 ((((w11.setCell ⟨gb486, 0, none⟩ (.int .i64 t480)).setCell ⟨gb486, 1, none⟩ (.int .i64 t481)).setCell ⟨gb486, 2, none⟩ (.int .i64 t482)).setCell ⟨gb486, 3, none⟩ (.slice Ao14 t483.length co14)) w.heap.size (fun k_ => some k_ ≠ (.slice Ao14 t483.length co14 : Value).ownBlock) (.slice Ao9 t476.length co9) t476) := ⟨by (with_reducible repeat (first | apply Kd.Q_alloc | apply Kd.Q_drewN | apply Kd.Q_drew)); exact Kd.Q_mono (Kd.Q_far (p := ⟨gb486, 3, none⟩) (Kd.Q_far (p := ⟨gb486, 2, none⟩) (Kd.Q_far (p := ⟨gb486, 1, none⟩) (Kd.Q_far (p := ⟨gb486, 0, none⟩) (Kd.Q_types HO478.out BK486.out (by decide)) (fun _ hk => hk.2) (.int .i64 t480)) (fun _ hk => hk.2) (.int .i64 t481)) (fun _ hk => hk.2) (.int .i64 t482)) (fun _ hk => hk.2) (.slice Ao14 t483.length co14)) (fun _ hk => hk.1.2)⟩
      have n1_ : Aside0 (Kd.R (Kd.int .i64) 3 ((((w11.setCell ⟨gb486, 0, none⟩ (.int .i64 t480)).setCell ⟨gb486, 1, none⟩ (.int .i64 t481)).setCell ⟨gb486, 2, none⟩ (.int .i64 t482)).setCell ⟨gb486, 3, none⟩ (.slice Ao14 t483.length co14)) w.heap.size (fun k_ => some k_ ≠ (.slice Ao9 t476.length co9 : Value).ownBlock) (.slice Ao14 t483.length co14) t483) := ⟨B.kr0 (Kd.R_mono (B.rf4 HO485 BK486) (fun _ hk => hk.1.2))⟩
      have n2_ : Aside0 (((((w11.setCell ⟨gb486, 0, none⟩ (.int .i64 t480)).setCell ⟨gb486, 1, none⟩ (.int .i64 t481)).setCell ⟨gb486, 2, none⟩ (.int .i64 t482)).setCell ⟨gb486, 3, none⟩ (.slice Ao14 t483.length co14)).heap[gb479]? = some (.cells #[.int .i64 t473, .int .i64 t474, .int .i64 t475, .slice Ao9 t476.length co9] 27 (0, 0))) := ⟨B.kb0 (B.bf4 BK479 NB479_486)⟩
      have n3_ : Aside0 (((((w11.setCell ⟨gb486, 0, none⟩ (.int .i64 t480)).setCell ⟨gb486, 1, none⟩ (.int .i64 t481)).setCell ⟨gb486, 2, none⟩ (.int .i64 t482)).setCell ⟨gb486, 3, none⟩ (.slice Ao14 t483.length co14)).heap[gb486]? = some (.cells #[.int .i64 t480, .int .i64 t481, .int .i64 t482, .slice Ao14 t483.length co14] 27 (0, 0))) := ⟨B.kb0 (B.bp4 BK486)⟩
      have n4_ : Aside0 (Below w.heap.size w ((((w11.setCell ⟨gb486, 0, none⟩ (.int .i64 t480)).setCell ⟨gb486, 1, none⟩ (.int .i64 t481)).setCell ⟨gb486, 2, none⟩ (.int .i64 t482)).setCell ⟨gb486, 3, none⟩ (.slice Ao14 t483.length co14))) := ⟨B.bl HB⟩
      (try clear HO478)
      (try clear HO485)
      (try clear BK479)
      (try clear BK486)
      (try clear HB)
      generalize ((((w11.setCell ⟨gb486, 0, none⟩ (.int .i64 t480)).setCell ⟨gb486, 1, none⟩ (.int .i64 t481)).setCell ⟨gb486, 2, none⟩ (.int .i64 t482)).setCell ⟨gb486, 3, none⟩ (.slice Ao14 t483.length co14)) = w18 at n0_ n1_ n2_ n3_ n4_ ⊢
      have HO478 := n0_
      have HO485 := n1_
      have BK479 := n2_
      have BK486 := n3_
      have HB := n4_
      clear n0_ n1_ n2_ n3_ n4_
      have n0_ := Aside0.mk (Kd.Q_drew HO478.out)
      have n1_ := Aside0.mk (Kd.R_drew HO485.out)
      have n2_ := Aside0.mk (blk_drew BK479.out)
      have n3_ := Aside0.mk (blk_drew BK486.out)
      have n4_ := Aside0.mk (below_drew1 HB.out)
      clear HO478 HO485 BK479 BK486 HB
      have HO478 := n0_
      have HO485 := n1_
      have BK479 := n2_
      have BK486 := n3_
      have HB := n4_
      clear n0_ n1_ n2_ n3_ n4_
      refine start_ (n := 10) (S := fun w' => w'.cell? ⟨gb486, 0, none⟩ = some (.int .i64 t480) ∧ w'.cell? ⟨gb486, 1, none⟩ = some (.int .i64 t481) ∧ w'.cell? ⟨gb486, 2, none⟩ = some (.int .i64 t482) ∧ w'.cell? ⟨gb486, 3, none⟩ = some (.slice Ao14 t483.length co14) ∧ w'.cell? ⟨gb479, 0, none⟩ = some (.int .i64 t473) ∧ w'.cell? ⟨gb479, 1, none⟩ = some (.int .i64 t474) ∧ w'.cell? ⟨gb479, 2, none⟩ = some (.int .i64 t475) ∧ w'.cell? ⟨gb479, 3, none⟩ = some (.slice Ao9 t476.length co9)) (ds := []) #[false, false, false, false, false, false, false, false, false, false] (by kernel_rfl) rfl rfl ⟨B.bc BK486 0, B.bc BK486 1, B.bc BK486 2, B.bc BK486 3, B.bc BK479 0, B.bc BK479 1, B.bc BK479 2, B.bc BK479 3⟩ (fun hHeld => ?_); refine with_tabW laws_FnInvertImage.tab5 laws_FnInvertImage.bits5 (fun HT_ HW_ => ?_)
      generalize w18.drew = w19 at HO478 HO485 BK479 BK486 HB hHeld ⊢
      refine take_ (i := 0) (N := some 13) (v := ?_) (a' := ?_) #[true, false, false, false, false, false, false, false, false, false] rfl rfl (take_ofW HT_.out HW_.out (by kernel_rfl)) (fun _ _ _ h => h) (Or.inl ⟨by rfl, ?_⟩) hHeld ?_ ?_
      rotate_left
      · rintro w' ⟨s0, s1, s2, s3, s4, s5, s6, s7⟩
        go_simp
        with_reducible rfl
      rotate_left
      · simp only [Act.put, List.setIfInBounds_toArray, List.set_cons_zero, List.set_cons_succ, i64_w, i32_w]
        rfl
      refine take_ (i := 1) (N := some 14) (v := ?_) (a' := ?_) #[true, true, false, false, false, false, false, false, false, false] rfl rfl (take_ofW HT_.out HW_.out (by kernel_rfl)) (fun _ _ _ h => h) (Or.inl ⟨by rfl, ?_⟩) hHeld ?_ ?_
      rotate_left
      · rintro w' ⟨s0, s1, s2, s3, s4, s5, s6, s7⟩
        go_simp
        with_reducible rfl
      rotate_left
      · simp only [Act.put, List.setIfInBounds_toArray, List.set_cons_zero, List.set_cons_succ, i64_w, i32_w]
        rfl
      refine one_ (i := 2) (N := some 15) #[true, true, true, false, false, false, false, false, false, false] rfl rfl (one_of HT_.out (by kernel_rfl)) (by decide) (fun K hK => ?_)
      refine goes_ Try.func31 (by kernel_rfl) rfl #[.agg #[.int .i64 t473, .int .i64 t474, .int .i64 t475, .slice Ao9 t476.length co9]] (by rfl) rfl rfl B.am ?_
      with_reducible refine (spec_InvertImage.calls k t473 t474 t475 _ _ t476 t487 t488 t489 t490 _ ?side1 ?side2 A15.out).mono ?_
      (case side1 => exact B.kc ((Kd.Q_reads' HO478.out).2.2))
      (case side2 => exact (Kd.Q_reads' HO478.out).2.1)
      rintro e w20 ⟨v491, rfl, ho0, hb⟩
      refine ⟨_, rfl, ?_⟩
      have n0_ := Aside0.mk (Kd.Q_elder' (B.kq HO478) (Kd.R_base ho0) hb)
      have n1_ := Aside0.mk (Kd.R_elder' (B.kr HO485) (Kd.R_base ho0) hb)
      have n2_ := Aside0.mk (Kd.R_lower (Kd.R_new' (Kd.R_new' ho0 (Kd.Q_lt (B.kq HO478))) (Kd.R_lt (B.kr HO485))) (below_size (B.bl HB)))
      have n3_ := Aside0.mk (blk_below (B.kb BK479) hb)
      have n4_ := Aside0.mk (blk_below (B.kb BK486) hb)
      have n5_ := Aside0.mk (below_step (B.bl HB) hb)
      clear HO478 HO485 BK479 BK486 HB
      have HO478 := n0_
      have HO485 := n1_
      have HO492 := n2_
      have BK479 := n3_
      have BK486 := n4_
      have HB := n5_
      clear n0_ n1_ n2_ n3_ n4_ n5_
      (try clear hb)
      (try clear hb2)
      (try clear hk)
      (try clear hi)
      (try clear ho0)
      obtain ⟨Ao21, co21, eo21⟩ := Kd.R_slice HO492.out
      (first | subst eo21 | (injection eo21 with f1_ f2_ f3_; have f4_ := f1_.symm; have f5_ := f3_.symm; clear f1_ f2_ f3_; subst f4_; subst f5_))
      refine hK.out _ _ ⟨B.bc BK486 0, B.bc BK486 1, B.bc BK486 2, B.bc BK486 3, B.bc BK479 0, B.bc BK479 1, B.bc BK479 2, B.bc BK479 3⟩ (fun hHeld => ?_)
      clear hK K
      refine norm_ (a' := ?_) ?_ ?_
      rotate_left
      · show Act.put _ (some 15) _ = _
        simp only [Act.put, List.setIfInBounds_toArray, List.set_cons_zero, List.set_cons_succ, i64_w, i32_w]
        rfl
      refine one_ (i := 3) (N := some 16) #[true, true, true, true, false, false, false, false, false, false] rfl rfl (one_of HT_.out (by kernel_rfl)) (by decide) (fun K hK => ?_)
      refine goes_ Try.func30 (by kernel_rfl) rfl #[.agg #[.int .i64 t480, .int .i64 t481, .int .i64 t482, .slice Ao14 t483.length co14], .agg #[.int .i64 t487, .int .i64 t488, .int .i64 t489, .slice Ao21 t490.length co21]] (by rfl) rfl rfl B.am ?_
      with_reducible refine (laws_equalImage.calls k t480 t481 t482 _ _ t483 t487 t488 t489 _ _ t490 true _ ?side1 ?side2 ?side3 ?side4 A16.out).mono ?_
      (case side1 => exact B.kc ((Kd.R_reads' HO485.out).2.2))
      (case side2 => exact (Kd.R_reads' HO485.out).2.1)
      (case side3 => exact B.kc ((Kd.R_reads' HO492.out).2.2))
      (case side4 => exact (Kd.R_reads' HO492.out).2.1)
      rintro e w22 ⟨rfl, hb⟩
      refine ⟨_, rfl, ?_⟩
      have n0_ := Aside0.mk (Kd.Q_below (B.kq HO478) hb)
      have n1_ := Aside0.mk (Kd.R_below (B.kr HO485) hb)
      have n2_ := Aside0.mk (Kd.R_below (B.kr HO492) hb)
      have n3_ := Aside0.mk (blk_below (B.kb BK479) hb)
      have n4_ := Aside0.mk (blk_below (B.kb BK486) hb)
      have n5_ := Aside0.mk (below_step (B.bl HB) hb)
      clear HO478 HO485 HO492 BK479 BK486 HB
      have HO478 := n0_
      have HO485 := n1_
      have HO492 := n2_
      have BK479 := n3_
      have BK486 := n4_
      have HB := n5_
      clear n0_ n1_ n2_ n3_ n4_ n5_
      (try clear hb)
      (try clear hb2)
      (try clear hk)
      (try clear hi)
      refine hK.out _ _ ⟨B.bc BK486 0, B.bc BK486 1, B.bc BK486 2, B.bc BK486 3, B.bc BK479 0, B.bc BK479 1, B.bc BK479 2, B.bc BK479 3⟩ (fun hHeld => ?_)
      clear hK K
      refine norm_ (a' := ?_) ?_ ?_
      rotate_left
      · show Act.put _ (some 16) _ = _
        simp only [Act.put, List.setIfInBounds_toArray, List.set_cons_zero, List.set_cons_succ, i64_w, i32_w]
        rfl
      refine pure_ (i := 4) (N := some 17) (v := ?_) (a' := ?_) #[true, true, true, true, true, false, false, false, false, false] rfl rfl (any_of HT_.out (by kernel_rfl)) (fun _ _ _ h => h) (Or.inl ⟨by rfl, ?_⟩) ?_ ?_
      rotate_left
      · intro w'
        go_simp
        with_reducible rfl
      rotate_left
      · simp only [Act.put, List.setIfInBounds_toArray, List.set_cons_zero, List.set_cons_succ, i64_w, i32_w]
        rfl
      refine pure_ (i := 5) (N := some 18) (v := ?_) (a' := ?_) #[true, true, true, true, true, true, false, false, false, false] rfl rfl (any_of HT_.out (by kernel_rfl)) (fun _ _ _ h => h) (Or.inl ⟨by rfl, ?_⟩) ?_ ?_
      rotate_left
      · intro w'
        go_simp
        with_reducible rfl
      rotate_left
      · simp only [Act.put, List.setIfInBounds_toArray, List.set_cons_zero, List.set_cons_succ, i64_w, i32_w]
        rfl
      refine pure_ (i := 6) (N := some 19) (v := ?_) (a' := ?_) #[true, true, true, true, true, true, true, false, false, false] rfl rfl (any_of HT_.out (by kernel_rfl)) (fun _ _ _ h => h) (Or.inl ⟨by rfl, ?_⟩) ?_ ?_
      rotate_left
      · intro w'
        go_simp
        with_reducible rfl
      rotate_left
      · simp only [Act.put, List.setIfInBounds_toArray, List.set_cons_zero, List.set_cons_succ, i64_w, i32_w]
        rfl
      refine take_ (i := 7) (N := some 20) (v := ?_) (a' := ?_) #[true, true, true, true, true, true, true, true, false, false] rfl rfl (take_ofW HT_.out HW_.out (by kernel_rfl)) (fun _ _ _ h => h) (Or.inl ⟨by rfl, ?_⟩) hHeld ?_ ?_
      rotate_left
      · rintro w' ⟨s0, s1, s2, s3, s4, s5, s6, s7⟩
        go_simp
        with_reducible rfl
      rotate_left
      · simp only [Act.put, List.setIfInBounds_toArray, List.set_cons_zero, List.set_cons_succ, i64_w, i32_w]
        rfl
      refine pure_ (i := 8) (N := some 21) (v := ?_) (a' := ?_) #[true, true, true, true, true, true, true, true, true, false] rfl rfl (any_of HT_.out (by kernel_rfl)) (fun _ _ _ h => h) (Or.inl ⟨by rfl, ?_⟩) ?_ ?_
      rotate_left
      · intro w'
        go_simp
        with_reducible rfl
      rotate_left
      · simp only [Act.put, List.setIfInBounds_toArray, List.set_cons_zero, List.set_cons_succ, i64_w, i32_w]
        rfl
      refine pure_ (i := 9) (N := some 22) (v := ?_) (a' := ?_) #[true, true, true, true, true, true, true, true, true, true] rfl rfl (any_of HT_.out (by kernel_rfl)) (fun _ _ _ h => h) (Or.inl ⟨by rfl, ?_⟩) ?_ ?_
      rotate_left
      · intro w'
        go_simp
        with_reducible rfl
      rotate_left
      · simp only [Act.put, List.setIfInBounds_toArray, List.set_cons_zero, List.set_cons_succ, i64_w, i32_w]
        rfl
      refine done_ (done_of HT_.out (by kernel_rfl)) ?_
      try go_wp2
      go_meet
      case rel => exact ⟨_, ((t480 == 0)), (by first | rfl | (simp; done) | (simp [*]; done)), H', ⟨by first | omega | exact Nat.le_refl _⟩, ⟨by (with_reducible repeat (first | apply Kd.Q_alloc | apply Kd.Q_drewN | apply Kd.Q_drew)); exact Kd.Q_mono HO478.out (fun _ hk => hk.1)⟩, ⟨Kd.Q_of_R (B.kr0 (Kd.R_mono HO485.out (fun _ hk => hk.1)))⟩, ⟨B.kb BK479⟩, ⟨B.kb BK486⟩, ⟨B.bl HB⟩⟩
    replace c17 := Bool.eq_false_iff.mpr c17
    subst c17
    have H1 : (laws_FnInvertImage.j0 k true t473 t474 t475 t476 t480 t481 t482 t483) = some r := by rw [if_neg (show ¬ (false = true) by decide)] at H; exact H
    clear H
    have H := H1
    clear H1
    have H' := Aside0.mk H
    clear H
    try go_wp2
    have n0_ : Aside0 (Kd.Q (Kd.int .i64) 3 ((((w11.setCell ⟨gb486, 0, none⟩ (.int .i64 t480)).setCell ⟨gb486, 1, none⟩ (.int .i64 t481)).setCell ⟨gb486, 2, none⟩ (.int .i64 t482)).setCell ⟨gb486, 3, none⟩ (.slice Ao14 t483.length co14)) w.heap.size (fun k_ => some k_ ≠ (.slice Ao14 t483.length co14 : Value).ownBlock) (.slice Ao9 t476.length co9) t476) := ⟨by (with_reducible repeat (first | apply Kd.Q_alloc | apply Kd.Q_drewN | apply Kd.Q_drew)); exact Kd.Q_mono (Kd.Q_far (p := ⟨gb486, 3, none⟩) (Kd.Q_far (p := ⟨gb486, 2, none⟩) (Kd.Q_far (p := ⟨gb486, 1, none⟩) (Kd.Q_far (p := ⟨gb486, 0, none⟩) (Kd.Q_types HO478.out BK486.out (by decide)) (fun _ hk => hk.2) (.int .i64 t480)) (fun _ hk => hk.2) (.int .i64 t481)) (fun _ hk => hk.2) (.int .i64 t482)) (fun _ hk => hk.2) (.slice Ao14 t483.length co14)) (fun _ hk => hk.1.2)⟩
    have n1_ : Aside0 (Kd.R (Kd.int .i64) 3 ((((w11.setCell ⟨gb486, 0, none⟩ (.int .i64 t480)).setCell ⟨gb486, 1, none⟩ (.int .i64 t481)).setCell ⟨gb486, 2, none⟩ (.int .i64 t482)).setCell ⟨gb486, 3, none⟩ (.slice Ao14 t483.length co14)) w.heap.size (fun k_ => some k_ ≠ (.slice Ao9 t476.length co9 : Value).ownBlock) (.slice Ao14 t483.length co14) t483) := ⟨B.kr0 (Kd.R_mono (B.rf4 HO485 BK486) (fun _ hk => hk.1.2))⟩
    have n2_ : Aside0 (((((w11.setCell ⟨gb486, 0, none⟩ (.int .i64 t480)).setCell ⟨gb486, 1, none⟩ (.int .i64 t481)).setCell ⟨gb486, 2, none⟩ (.int .i64 t482)).setCell ⟨gb486, 3, none⟩ (.slice Ao14 t483.length co14)).heap[gb479]? = some (.cells #[.int .i64 t473, .int .i64 t474, .int .i64 t475, .slice Ao9 t476.length co9] 27 (0, 0))) := ⟨B.kb0 (B.bf4 BK479 NB479_486)⟩
    have n3_ : Aside0 (((((w11.setCell ⟨gb486, 0, none⟩ (.int .i64 t480)).setCell ⟨gb486, 1, none⟩ (.int .i64 t481)).setCell ⟨gb486, 2, none⟩ (.int .i64 t482)).setCell ⟨gb486, 3, none⟩ (.slice Ao14 t483.length co14)).heap[gb486]? = some (.cells #[.int .i64 t480, .int .i64 t481, .int .i64 t482, .slice Ao14 t483.length co14] 27 (0, 0))) := ⟨B.kb0 (B.bp4 BK486)⟩
    have n4_ : Aside0 (Below w.heap.size w ((((w11.setCell ⟨gb486, 0, none⟩ (.int .i64 t480)).setCell ⟨gb486, 1, none⟩ (.int .i64 t481)).setCell ⟨gb486, 2, none⟩ (.int .i64 t482)).setCell ⟨gb486, 3, none⟩ (.slice Ao14 t483.length co14))) := ⟨B.bl HB⟩
    (try clear HO478)
    (try clear HO485)
    (try clear BK479)
    (try clear BK486)
    (try clear HB)
    generalize ((((w11.setCell ⟨gb486, 0, none⟩ (.int .i64 t480)).setCell ⟨gb486, 1, none⟩ (.int .i64 t481)).setCell ⟨gb486, 2, none⟩ (.int .i64 t482)).setCell ⟨gb486, 3, none⟩ (.slice Ao14 t483.length co14)) = w23 at n0_ n1_ n2_ n3_ n4_ ⊢
    have HO478 := n0_
    have HO485 := n1_
    have BK479 := n2_
    have BK486 := n3_
    have HB := n4_
    clear n0_ n1_ n2_ n3_ n4_
    have n0_ := Aside0.mk (Kd.Q_drew HO478.out)
    have n1_ := Aside0.mk (Kd.R_drew HO485.out)
    have n2_ := Aside0.mk (blk_drew BK479.out)
    have n3_ := Aside0.mk (blk_drew BK486.out)
    have n4_ := Aside0.mk (below_drew1 HB.out)
    clear HO478 HO485 BK479 BK486 HB
    have HO478 := n0_
    have HO485 := n1_
    have BK479 := n2_
    have BK486 := n3_
    have HB := n4_
    clear n0_ n1_ n2_ n3_ n4_
    refine start_ (n := 10) (S := fun w' => w'.cell? ⟨gb486, 0, none⟩ = some (.int .i64 t480) ∧ w'.cell? ⟨gb486, 1, none⟩ = some (.int .i64 t481) ∧ w'.cell? ⟨gb486, 2, none⟩ = some (.int .i64 t482) ∧ w'.cell? ⟨gb486, 3, none⟩ = some (.slice Ao14 t483.length co14) ∧ w'.cell? ⟨gb479, 0, none⟩ = some (.int .i64 t473) ∧ w'.cell? ⟨gb479, 1, none⟩ = some (.int .i64 t474) ∧ w'.cell? ⟨gb479, 2, none⟩ = some (.int .i64 t475) ∧ w'.cell? ⟨gb479, 3, none⟩ = some (.slice Ao9 t476.length co9)) (ds := []) #[false, false, false, false, false, false, false, false, false, false] (by kernel_rfl) rfl rfl ⟨B.bc BK486 0, B.bc BK486 1, B.bc BK486 2, B.bc BK486 3, B.bc BK479 0, B.bc BK479 1, B.bc BK479 2, B.bc BK479 3⟩ (fun hHeld => ?_); refine with_tabW laws_FnInvertImage.tab5 laws_FnInvertImage.bits5 (fun HT_ HW_ => ?_)
    generalize w23.drew = w24 at HO478 HO485 BK479 BK486 HB hHeld ⊢
    refine take_ (i := 0) (N := some 13) (v := ?_) (a' := ?_) #[true, false, false, false, false, false, false, false, false, false] rfl rfl (take_ofW HT_.out HW_.out (by kernel_rfl)) (fun _ _ _ h => h) (Or.inl ⟨by rfl, ?_⟩) hHeld ?_ ?_
    rotate_left
    · rintro w' ⟨s0, s1, s2, s3, s4, s5, s6, s7⟩
      go_simp
      with_reducible rfl
    rotate_left
    · simp only [Act.put, List.setIfInBounds_toArray, List.set_cons_zero, List.set_cons_succ, i64_w, i32_w]
      rfl
    refine take_ (i := 1) (N := some 14) (v := ?_) (a' := ?_) #[true, true, false, false, false, false, false, false, false, false] rfl rfl (take_ofW HT_.out HW_.out (by kernel_rfl)) (fun _ _ _ h => h) (Or.inl ⟨by rfl, ?_⟩) hHeld ?_ ?_
    rotate_left
    · rintro w' ⟨s0, s1, s2, s3, s4, s5, s6, s7⟩
      go_simp
      with_reducible rfl
    rotate_left
    · simp only [Act.put, List.setIfInBounds_toArray, List.set_cons_zero, List.set_cons_succ, i64_w, i32_w]
      rfl
    refine one_ (i := 2) (N := some 15) #[true, true, true, false, false, false, false, false, false, false] rfl rfl (one_of HT_.out (by kernel_rfl)) (by decide) (fun K hK => ?_)
    refine goes_ Try.func31 (by kernel_rfl) rfl #[.agg #[.int .i64 t473, .int .i64 t474, .int .i64 t475, .slice Ao9 t476.length co9]] (by rfl) rfl rfl B.am ?_
    with_reducible refine (spec_InvertImage.calls k t473 t474 t475 _ _ t476 t487 t488 t489 t490 _ ?side1 ?side2 A15.out).mono ?_
    (case side1 => exact B.kc ((Kd.Q_reads' HO478.out).2.2))
    (case side2 => exact (Kd.Q_reads' HO478.out).2.1)
    rintro e w25 ⟨v491, rfl, ho0, hb⟩
    refine ⟨_, rfl, ?_⟩
    have n0_ := Aside0.mk (Kd.Q_elder' (B.kq HO478) (Kd.R_base ho0) hb)
    have n1_ := Aside0.mk (Kd.R_elder' (B.kr HO485) (Kd.R_base ho0) hb)
    have n2_ := Aside0.mk (Kd.R_lower (Kd.R_new' (Kd.R_new' ho0 (Kd.Q_lt (B.kq HO478))) (Kd.R_lt (B.kr HO485))) (below_size (B.bl HB)))
    have n3_ := Aside0.mk (blk_below (B.kb BK479) hb)
    have n4_ := Aside0.mk (blk_below (B.kb BK486) hb)
    have n5_ := Aside0.mk (below_step (B.bl HB) hb)
    clear HO478 HO485 BK479 BK486 HB
    have HO478 := n0_
    have HO485 := n1_
    have HO492 := n2_
    have BK479 := n3_
    have BK486 := n4_
    have HB := n5_
    clear n0_ n1_ n2_ n3_ n4_ n5_
    (try clear hb)
    (try clear hb2)
    (try clear hk)
    (try clear hi)
    (try clear ho0)
    obtain ⟨Ao26, co26, eo26⟩ := Kd.R_slice HO492.out
    (first | subst eo26 | (injection eo26 with f1_ f2_ f3_; have f4_ := f1_.symm; have f5_ := f3_.symm; clear f1_ f2_ f3_; subst f4_; subst f5_))
    refine hK.out _ _ ⟨B.bc BK486 0, B.bc BK486 1, B.bc BK486 2, B.bc BK486 3, B.bc BK479 0, B.bc BK479 1, B.bc BK479 2, B.bc BK479 3⟩ (fun hHeld => ?_)
    clear hK K
    refine norm_ (a' := ?_) ?_ ?_
    rotate_left
    · show Act.put _ (some 15) _ = _
      simp only [Act.put, List.setIfInBounds_toArray, List.set_cons_zero, List.set_cons_succ, i64_w, i32_w]
      rfl
    refine one_ (i := 3) (N := some 16) #[true, true, true, true, false, false, false, false, false, false] rfl rfl (one_of HT_.out (by kernel_rfl)) (by decide) (fun K hK => ?_)
    refine goes_ Try.func30 (by kernel_rfl) rfl #[.agg #[.int .i64 t480, .int .i64 t481, .int .i64 t482, .slice Ao14 t483.length co14], .agg #[.int .i64 t487, .int .i64 t488, .int .i64 t489, .slice Ao26 t490.length co26]] (by rfl) rfl rfl B.am ?_
    with_reducible refine (laws_equalImage.calls k t480 t481 t482 _ _ t483 t487 t488 t489 _ _ t490 false _ ?side1 ?side2 ?side3 ?side4 A16.out).mono ?_
    (case side1 => exact B.kc ((Kd.R_reads' HO485.out).2.2))
    (case side2 => exact (Kd.R_reads' HO485.out).2.1)
    (case side3 => exact B.kc ((Kd.R_reads' HO492.out).2.2))
    (case side4 => exact (Kd.R_reads' HO492.out).2.1)
    rintro e w27 ⟨rfl, hb⟩
    refine ⟨_, rfl, ?_⟩
    have n0_ := Aside0.mk (Kd.Q_below (B.kq HO478) hb)
    have n1_ := Aside0.mk (Kd.R_below (B.kr HO485) hb)
    have n2_ := Aside0.mk (Kd.R_below (B.kr HO492) hb)
    have n3_ := Aside0.mk (blk_below (B.kb BK479) hb)
    have n4_ := Aside0.mk (blk_below (B.kb BK486) hb)
    have n5_ := Aside0.mk (below_step (B.bl HB) hb)
    clear HO478 HO485 HO492 BK479 BK486 HB
    have HO478 := n0_
    have HO485 := n1_
    have HO492 := n2_
    have BK479 := n3_
    have BK486 := n4_
    have HB := n5_
    clear n0_ n1_ n2_ n3_ n4_ n5_
    (try clear hb)
    (try clear hb2)
    (try clear hk)
    (try clear hi)
    refine hK.out _ _ ⟨B.bc BK486 0, B.bc BK486 1, B.bc BK486 2, B.bc BK486 3, B.bc BK479 0, B.bc BK479 1, B.bc BK479 2, B.bc BK479 3⟩ (fun hHeld => ?_)
    clear hK K
    refine norm_ (a' := ?_) ?_ ?_
    rotate_left
    · show Act.put _ (some 16) _ = _
      simp only [Act.put, List.setIfInBounds_toArray, List.set_cons_zero, List.set_cons_succ, i64_w, i32_w]
      rfl
    refine pure_ (i := 4) (N := some 17) (v := ?_) (a' := ?_) #[true, true, true, true, true, false, false, false, false, false] rfl rfl (any_of HT_.out (by kernel_rfl)) (fun _ _ _ h => h) (Or.inl ⟨by rfl, ?_⟩) ?_ ?_
    rotate_left
    · intro w'
      go_simp
      with_reducible rfl
    rotate_left
    · simp only [Act.put, List.setIfInBounds_toArray, List.set_cons_zero, List.set_cons_succ, i64_w, i32_w]
      rfl
    refine pure_ (i := 5) (N := some 18) (v := ?_) (a' := ?_) #[true, true, true, true, true, true, false, false, false, false] rfl rfl (any_of HT_.out (by kernel_rfl)) (fun _ _ _ h => h) (Or.inl ⟨by rfl, ?_⟩) ?_ ?_
    rotate_left
    · intro w'
      go_simp
      with_reducible rfl
    rotate_left
    · simp only [Act.put, List.setIfInBounds_toArray, List.set_cons_zero, List.set_cons_succ, i64_w, i32_w]
      rfl
    refine pure_ (i := 6) (N := some 19) (v := undef) (a' := ?_) #[true, true, true, true, true, true, true, false, false, false] rfl rfl (any_of HT_.out (by kernel_rfl)) (fun _ _ _ h => h) (Or.inr ⟨by rfl, rfl⟩) ?_ ?_
    rotate_left
    · simp only [Act.put, List.setIfInBounds_toArray, List.set_cons_zero, List.set_cons_succ, i64_w, i32_w]
      rfl
    refine pure_ (i := 7) (N := some 20) (v := undef) (a' := ?_) #[true, true, true, true, true, true, true, true, false, false] rfl rfl (any_of HT_.out (by kernel_rfl)) (fun _ _ _ h => h) (Or.inr ⟨by rfl, rfl⟩) ?_ ?_
    rotate_left
    · simp only [Act.put, List.setIfInBounds_toArray, List.set_cons_zero, List.set_cons_succ, i64_w, i32_w]
      rfl
    refine pure_ (i := 8) (N := some 21) (v := undef) (a' := ?_) #[true, true, true, true, true, true, true, true, true, false] rfl rfl (any_of HT_.out (by kernel_rfl)) (fun _ _ _ h => h) (Or.inr ⟨by rfl, rfl⟩) ?_ ?_
    rotate_left
    · simp only [Act.put, List.setIfInBounds_toArray, List.set_cons_zero, List.set_cons_succ, i64_w, i32_w]
      rfl
    refine pure_ (i := 9) (N := some 22) (v := ?_) (a' := ?_) #[true, true, true, true, true, true, true, true, true, true] rfl rfl (any_of HT_.out (by kernel_rfl)) (fun _ _ _ h => h) (Or.inl ⟨by rfl, ?_⟩) ?_ ?_
    rotate_left
    · intro w'
      go_simp
      with_reducible rfl
    rotate_left
    · simp only [Act.put, List.setIfInBounds_toArray, List.set_cons_zero, List.set_cons_succ, i64_w, i32_w]
      rfl
    refine done_ (done_of HT_.out (by kernel_rfl)) ?_
    try go_wp2
    go_meet
    case rel => exact ⟨_, (true), (by first | rfl | (simp; done) | (simp [*]; done)), H', ⟨by first | omega | exact Nat.le_refl _⟩, ⟨by (with_reducible repeat (first | apply Kd.Q_alloc | apply Kd.Q_drewN | apply Kd.Q_drew)); exact Kd.Q_mono HO478.out (fun _ hk => hk.1)⟩, ⟨Kd.Q_of_R (B.kr0 (Kd.R_mono HO485.out (fun _ hk => hk.1)))⟩, ⟨B.kb BK479⟩, ⟨B.kb BK486⟩, ⟨B.bl HB⟩⟩
  case rest =>
    clear HC5
    try clear c1
    try clear c2
    try clear c2b0
    try clear c2b1
    try clear p2
    try clear c3
    try clear c7
    try clear c12
    try clear c17
    try clear hcz13_0
    try clear hcz13_1
    try clear hcz13_2
    try clear hcz13_3
    try clear hcz8_0
    try clear hcz8_1
    try clear hcz8_2
    try clear hcz8_3
    try clear hfz13_0
    try clear hfz13_1
    try clear hfz13_2
    try clear hfz13_3
    try clear hfz8_0
    try clear hfz8_1
    try clear hfz8_2
    try clear hfz8_3
    obtain ⟨kq, x22_4, rfl, HA, HJ4, HO_480003, HO_487003, BK479, BK486, HB⟩ := hcut
    cases kq with
    | zero => exact absurd HA.out (by simp [laws_FnInvertImage.j0])
    | succ kj4 =>
      have H := HA.out
      clear HA
      simp only [laws_FnInvertImage.j0] at H
      by_cases c28 : x22_4 = true
      · subst c28
        have H1 : ((spec_InvertImage.f kj4 t473 t474 t475 t476).bind fun bt494 => ((laws_equalImage.f kj4 t480 t481 t482 t483 bt494.1 bt494.2.1 bt494.2.2.1 bt494.2.2.2).bind fun t500 => (some t500))) = some r := by rw [if_pos rfl] at H; exact H
        clear H
        have H := H1
        clear H1
        replace H := Option.bind_eq_some_iff.mp H
        obtain ⟨⟨t494, t495, t496, t497⟩, A290, H⟩ := H
        replace H : ((laws_equalImage.f kj4 t480 t481 t482 t483 t494 t495 t496 t497).bind fun t500 => (some t500)) = some r := H
        have A29 := Aside0.mk A290
        clear A290
        replace H := Option.bind_eq_some_iff.mp H
        obtain ⟨t500, A300, H⟩ := H
        replace H : (some t500) = some r := H
        have A30 := Aside0.mk A300
        clear A300
        obtain rfl := Option.some.inj H
        simp only [Option.some.injEq, Prod.mk.injEq] at H
        obtain ⟨rfl⟩ := H
        try go_wp2
        have n0_ := Aside0.mk (Kd.Q_drew HO_480003.out)
        have n1_ := Aside0.mk (Kd.Q_drew HO_487003.out)
        have n2_ := Aside0.mk (blk_drew BK479.out)
        have n3_ := Aside0.mk (blk_drew BK486.out)
        have n4_ := Aside0.mk (below_drew1 HB.out)
        clear HO_480003 HO_487003 BK479 BK486 HB
        have HO_480003 := n0_
        have HO_487003 := n1_
        have BK479 := n2_
        have BK486 := n3_
        have HB := n4_
        clear n0_ n1_ n2_ n3_ n4_
        refine start_ (n := 5) (S := fun w' => w'.cell? ⟨gb486, 0, none⟩ = some (.int .i64 t480) ∧ w'.cell? ⟨gb486, 1, none⟩ = some (.int .i64 t481) ∧ w'.cell? ⟨gb486, 2, none⟩ = some (.int .i64 t482) ∧ w'.cell? ⟨gb486, 3, none⟩ = some (.slice Ao14 t483.length co14) ∧ w'.cell? ⟨gb479, 0, none⟩ = some (.int .i64 t473) ∧ w'.cell? ⟨gb479, 1, none⟩ = some (.int .i64 t474) ∧ w'.cell? ⟨gb479, 2, none⟩ = some (.int .i64 t475) ∧ w'.cell? ⟨gb479, 3, none⟩ = some (.slice Ao9 t476.length co9)) (ds := []) #[false, false, false, false, false] (by kernel_rfl) rfl rfl ⟨B.bc BK486 0, B.bc BK486 1, B.bc BK486 2, B.bc BK486 3, B.bc BK479 0, B.bc BK479 1, B.bc BK479 2, B.bc BK479 3⟩ (fun hHeld => ?_)
        generalize wc.drew = w31 at HO_480003 HO_487003 BK479 BK486 HB hHeld ⊢
        refine take_ (i := 0) (N := some 23) (v := ?_) (a' := ?_) #[true, false, false, false, false] rfl rfl (by kernel_rfl) (fun _ _ _ h => h) (Or.inl ⟨by rfl, ?_⟩) hHeld ?_ ?_
        rotate_left
        · rintro w' ⟨s0, s1, s2, s3, s4, s5, s6, s7⟩
          go_simp
          with_reducible rfl
        rotate_left
        · simp only [Act.put, List.setIfInBounds_toArray, List.set_cons_zero, List.set_cons_succ, i64_w, i32_w]
          rfl
        refine take_ (i := 1) (N := some 24) (v := ?_) (a' := ?_) #[true, true, false, false, false] rfl rfl (by kernel_rfl) (fun _ _ _ h => h) (Or.inl ⟨by rfl, ?_⟩) hHeld ?_ ?_
        rotate_left
        · rintro w' ⟨s0, s1, s2, s3, s4, s5, s6, s7⟩
          go_simp
          with_reducible rfl
        rotate_left
        · simp only [Act.put, List.setIfInBounds_toArray, List.set_cons_zero, List.set_cons_succ, i64_w, i32_w]
          rfl
        refine one_ (i := 2) (N := some 25) #[true, true, true, false, false] rfl rfl (by kernel_rfl) (by decide) (fun K hK => ?_)
        refine goes_ Try.func31 (by kernel_rfl) rfl #[.agg #[.int .i64 t473, .int .i64 t474, .int .i64 t475, .slice Ao9 t476.length co9]] (by rfl) rfl rfl B.am ?_
        with_reducible refine (spec_InvertImage.calls kj4 t473 t474 t475 _ _ t476 t494 t495 t496 t497 _ ?side1 ?side2 A29.out).mono ?_
        (case side1 => exact B.kc ((Kd.Q_reads' HO_480003.out).2.2))
        (case side2 => exact (Kd.Q_reads' HO_480003.out).2.1)
        rintro e w32 ⟨v498, rfl, ho0, hb⟩
        refine ⟨_, rfl, ?_⟩
        have n0_ := Aside0.mk (Kd.Q_elder' (B.kq HO_480003) (Kd.R_base ho0) hb)
        have n1_ := Aside0.mk (Kd.Q_elder' (B.kq HO_487003) (Kd.R_base ho0) hb)
        have n2_ := Aside0.mk (Kd.R_lower (Kd.R_new' (Kd.R_new' ho0 (Kd.Q_lt (B.kq HO_480003))) (Kd.Q_lt (B.kq HO_487003))) (below_size (B.bl HB)))
        have n3_ := Aside0.mk (blk_below (B.kb BK479) hb)
        have n4_ := Aside0.mk (blk_below (B.kb BK486) hb)
        have n5_ := Aside0.mk (below_step (B.bl HB) hb)
        clear HO_480003 HO_487003 BK479 BK486 HB
        have HO_480003 := n0_
        have HO_487003 := n1_
        have HO499 := n2_
        have BK479 := n3_
        have BK486 := n4_
        have HB := n5_
        clear n0_ n1_ n2_ n3_ n4_ n5_
        (try clear hb)
        (try clear hb2)
        (try clear hk)
        (try clear hi)
        (try clear ho0)
        obtain ⟨Ao33, co33, eo33⟩ := Kd.R_slice HO499.out
        (first | subst eo33 | (injection eo33 with f1_ f2_ f3_; have f4_ := f1_.symm; have f5_ := f3_.symm; clear f1_ f2_ f3_; subst f4_; subst f5_))
        refine hK.out _ _ ⟨B.bc BK486 0, B.bc BK486 1, B.bc BK486 2, B.bc BK486 3, B.bc BK479 0, B.bc BK479 1, B.bc BK479 2, B.bc BK479 3⟩ (fun hHeld => ?_)
        clear hK K
        refine norm_ (a' := ?_) ?_ ?_
        rotate_left
        · show Act.put _ (some 25) _ = _
          simp only [Act.put, List.setIfInBounds_toArray, List.set_cons_zero, List.set_cons_succ, i64_w, i32_w]
          rfl
        refine one_ (i := 3) (N := some 26) #[true, true, true, true, false] rfl rfl (by kernel_rfl) (by decide) (fun K hK => ?_)
        refine goes_ Try.func30 (by kernel_rfl) rfl #[.agg #[.int .i64 t480, .int .i64 t481, .int .i64 t482, .slice Ao14 t483.length co14], .agg #[.int .i64 t494, .int .i64 t495, .int .i64 t496, .slice Ao33 t497.length co33]] (by rfl) rfl rfl B.am ?_
        with_reducible refine (laws_equalImage.calls kj4 t480 t481 t482 _ _ t483 t494 t495 t496 _ _ t497 t500 _ ?side1 ?side2 ?side3 ?side4 A30.out).mono ?_
        (case side1 => exact B.kc ((Kd.Q_reads' HO_487003.out).2.2))
        (case side2 => exact (Kd.Q_reads' HO_487003.out).2.1)
        (case side3 => exact B.kc ((Kd.R_reads' HO499.out).2.2))
        (case side4 => exact (Kd.R_reads' HO499.out).2.1)
        rintro e w34 ⟨rfl, hb⟩
        refine ⟨_, rfl, ?_⟩
        have n0_ := Aside0.mk (Kd.Q_below (B.kq HO_480003) hb)
        have n1_ := Aside0.mk (Kd.Q_below (B.kq HO_487003) hb)
        have n2_ := Aside0.mk (Kd.R_below (B.kr HO499) hb)
        have n3_ := Aside0.mk (blk_below (B.kb BK479) hb)
        have n4_ := Aside0.mk (blk_below (B.kb BK486) hb)
        have n5_ := Aside0.mk (below_step (B.bl HB) hb)
        clear HO_480003 HO_487003 HO499 BK479 BK486 HB
        have HO_480003 := n0_
        have HO_487003 := n1_
        have HO499 := n2_
        have BK479 := n3_
        have BK486 := n4_
        have HB := n5_
        clear n0_ n1_ n2_ n3_ n4_ n5_
        (try clear hb)
        (try clear hb2)
        (try clear hk)
        (try clear hi)
        refine hK.out _ _ ⟨B.bc BK486 0, B.bc BK486 1, B.bc BK486 2, B.bc BK486 3, B.bc BK479 0, B.bc BK479 1, B.bc BK479 2, B.bc BK479 3⟩ (fun hHeld => ?_)
        clear hK K
        refine norm_ (a' := ?_) ?_ ?_
        rotate_left
        · show Act.put _ (some 26) _ = _
          simp only [Act.put, List.setIfInBounds_toArray, List.set_cons_zero, List.set_cons_succ, i64_w, i32_w]
          rfl
        refine pure_ (i := 4) (N := some 2) (v := ?_) (a' := ?_) #[true, true, true, true, true] rfl rfl (by kernel_rfl) (fun _ _ _ h => h) (Or.inl ⟨by rfl, ?_⟩) ?_ ?_
        rotate_left
        · intro w'
          go_simp
          with_reducible rfl
        rotate_left
        · simp only [Act.put, List.setIfInBounds_toArray, List.set_cons_zero, List.set_cons_succ, i64_w, i32_w]
          rfl
        refine done_ (by kernel_rfl) ?_
        try go_wp2
        go_ret
        exact ⟨by first | rfl | (simp [errW_none, errW_some] <;> rfl) | (simp [*, errW_none, errW_some] <;> rfl), B.bl HB⟩
      replace c28 := Bool.eq_false_iff.mpr c28
      subst c28
      have H1 : (laws_FnInvertImage.l0 kj4 0 t473 t474 t475 t476 t480 t481 t482 t483) = some r := by rw [if_neg (show ¬ (false = true) by decide)] at H; exact H
      clear H
      have H := H1
      clear H1
      have H' := Aside0.mk H
      clear H
      go_wp2
      go_loopg [5] kj4 (fun kq v5 w' => ∃ (x5_2 : Int), v5 = .int .i64 x5_2 ∧ Aside0 (laws_FnInvertImage.l0 kq x5_2 t473 t474 t475 t476 t480 t481 t482 t483 = some r) ∧ Aside0 (kq ≤ kj4) ∧ Aside0 (Kd.Q (Kd.int .i64) 3 w' w.heap.size (fun k_ => some k_ ≠ ((.slice Ao14 t483.length co14) : Value).ownBlock) (.slice Ao9 t476.length co9) t476) ∧ Aside0 (Kd.Q (Kd.int .i64) 3 w' w.heap.size (fun k_ => some k_ ≠ ((.slice Ao9 t476.length co9) : Value).ownBlock) (.slice Ao14 t483.length co14) t483) ∧ Aside0 (w'.heap[gb479]? = some (.cells #[.int .i64 t473, .int .i64 t474, .int .i64 t475, (.slice Ao9 t476.length co9)] 27 (0, 0))) ∧ Aside0 (w'.heap[gb486]? = some (.cells #[.int .i64 t480, .int .i64 t481, .int .i64 t482, (.slice Ao14 t483.length co14)] 27 (0, 0))) ∧ Aside0 (Below w.heap.size w w'))
      case atStart => exact ⟨(0), (by first | rfl | (simp; done) | (simp [*]; done)), H', ⟨Nat.le_refl _⟩, ⟨by (with_reducible repeat (first | apply Kd.Q_alloc | apply Kd.Q_drewN | apply Kd.Q_drew)); exact HO_480003.out⟩, ⟨by (with_reducible repeat (first | apply Kd.Q_alloc | apply Kd.Q_drewN | apply Kd.Q_drew)); exact HO_487003.out⟩, ⟨B.kb BK479⟩, ⟨B.kb BK486⟩, ⟨B.bl HB⟩⟩
      case round =>
        clear H'
        try clear c1
        try clear c2
        try clear c2b0
        try clear c2b1
        try clear p2
        try clear c3
        try clear c7
        try clear c12
        try clear c17
        try clear c28
        try clear c29
        try clear c30
        try clear c31
        try clear hcz13_0
        try clear hcz13_1
        try clear hcz13_2
        try clear hcz13_3
        try clear hcz8_0
        try clear hcz8_1
        try clear hcz8_2
        try clear hcz8_3
        try clear hfz13_0
        try clear hfz13_1
        try clear hfz13_2
        try clear hfz13_3
        try clear hfz8_0
        try clear hfz8_1
        try clear hfz8_2
        try clear hfz8_3
        try clear p2
        obtain ⟨x5_2, rfl, HA, HK2, HO_480003, HO_487003, BK479, BK486, HB⟩ := hrel
        cases gk with
        | zero => exact absurd HA.out (by simp [laws_FnInvertImage.l0])
        | succ k2 =>
          have H := HA.out
          clear HA
          simp only [laws_FnInvertImage.l0] at H
          by_cases c35 : x5_2 < (t476.length : Int)
          · rw [if_pos c35] at H
            have c35b0 : decide (x5_2 < (t476.length : Int)) = true := decide_eq_true c35
            clear c35
            by_cases c36 : 0 ≤ x5_2
            · rw [if_pos c36] at H
              have c36b0 : decide (0 ≤ x5_2) = true := decide_eq_true c36
              clear c36
              by_cases c37 : x5_2 < (t483.length : Int)
              · rw [if_pos c37] at H
                have c37b0 : decide (x5_2 < (t483.length : Int)) = true := decide_eq_true c37
                clear c37
                by_cases c38 : (wrap64 ((rd t483 x5_2) + (rd t476 x5_2))) = 255
                · rw [if_pos c38] at H
                  have c38b0 : ((wrap64 ((rd t483 x5_2) + (rd t476 x5_2))) == 255) = true := beq_iff_eq.mpr c38
                  have c38b1 : ((wrap64 ((rd t483 x5_2) + (rd t476 x5_2))) != 255) = false := bne_eq_false_iff_eq.mpr c38
                  clear c38
                  have H' := Aside0.mk H
                  clear H
                  have hnb39 := NB479_486.out
                  have hnc39 := NB486_479.out
                  have hcz40_0 : wr.cell? ⟨gb479, 0, none⟩ = some (.int .i64 t473) := B.bc BK479 0
                  have hcz40_1 : wr.cell? ⟨gb479, 1, none⟩ = some (.int .i64 t474) := B.bc BK479 1
                  have hcz40_2 : wr.cell? ⟨gb479, 2, none⟩ = some (.int .i64 t475) := B.bc BK479 2
                  have hcz40_3 : wr.cell? ⟨gb479, 3, none⟩ = some (.slice Ao9 t476.length co9) := B.bc BK479 3
                  have hfz40_0 := blk_frozen BK479.out 0
                  have hfz40_1 := blk_frozen BK479.out 1
                  have hfz40_2 := blk_frozen BK479.out 2
                  have hfz40_3 := blk_frozen BK479.out 3
                  try go_wp2
                  have n0_ := Aside0.mk (Kd.Q_drew HO_480003.out)
                  have n1_ := Aside0.mk (Kd.Q_drew HO_487003.out)
                  have n2_ := Aside0.mk (blk_drew BK479.out)
                  have n3_ := Aside0.mk (blk_drew BK486.out)
                  have n4_ := Aside0.mk (below_drew1 HB.out)
                  clear HO_480003 HO_487003 BK479 BK486 HB
                  have HO_480003 := n0_
                  have HO_487003 := n1_
                  have BK479 := n2_
                  have BK486 := n3_
                  have HB := n4_
                  clear n0_ n1_ n2_ n3_ n4_
                  have p501 : 0 ≤ (x5_2 : Int) := of_decide_eq_true (by first | (with_reducible assumption) | assumption)
                  have q501 : x5_2 < (t483.length : Int) := of_decide_eq_true (by first | (with_reducible assumption) | assumption)
                  obtain ⟨ad501, e501, hx501_0⟩ := Kd.at_int (Kd.Q_reads' HO_487003.out).2.2 x5_2 p501 q501
                  cases e501
                  replace p501 := eq_true p501
                  replace q501 := eq_true q501
                  have p502 : 0 ≤ (x5_2 : Int) := of_decide_eq_true (by first | (with_reducible assumption) | assumption)
                  have q502 : x5_2 < (t476.length : Int) := of_decide_eq_true (by first | (with_reducible assumption) | assumption)
                  obtain ⟨ad502, e502, hx502_0⟩ := Kd.at_int (Kd.Q_reads' HO_480003.out).2.2 x5_2 p502 q502
                  cases e502
                  replace p502 := eq_true p502
                  replace q502 := eq_true q502
                  refine start_ (n := 12) (S := fun w' => w'.cell? ⟨gb486, 0, none⟩ = some (.int .i64 t480) ∧ w'.cell? ⟨gb486, 1, none⟩ = some (.int .i64 t481) ∧ w'.cell? ⟨gb486, 2, none⟩ = some (.int .i64 t482) ∧ w'.cell? ⟨gb486, 3, none⟩ = some (.slice (some ad501) t483.length co14) ∧ w'.cell? ⟨gb479, 0, none⟩ = some (.int .i64 t473) ∧ w'.cell? ⟨gb479, 1, none⟩ = some (.int .i64 t474) ∧ w'.cell? ⟨gb479, 2, none⟩ = some (.int .i64 t475) ∧ w'.cell? ⟨gb479, 3, none⟩ = some (.slice (some ad502) t476.length co9) ∧ w'.cell? (ad501.add (x5_2).toNat) = some (.int .i64 (rd t483 x5_2)) ∧ w'.cell? (ad502.add (x5_2).toNat) = some (.int .i64 (rd t476 x5_2))) (ds := []) #[false, false, false, false, false, false, false, false, false, false, false, false] (by kernel_rfl) rfl rfl ⟨B.bc BK486 0, B.bc BK486 1, B.bc BK486 2, B.bc BK486 3, B.bc BK479 0, B.bc BK479 1, B.bc BK479 2, B.bc BK479 3, hx501_0, hx502_0⟩ (fun hHeld => ?_); refine with_tabW laws_FnInvertImage.tab10 laws_FnInvertImage.bits10 (fun HT_ HW_ => ?_)
                  generalize wr.drew = w41 at HO_480003 HO_487003 BK479 BK486 HB hx501_0 hx502_0 hHeld ⊢
                  refine pure_ (i := 0) (N := some 34) (v := ?_) (a' := ?_) #[true, false, false, false, false, false, false, false, false, false, false, false] rfl rfl (any_of HT_.out (by kernel_rfl)) (fun _ _ _ h => h) (Or.inl ⟨by rfl, ?_⟩) ?_ ?_
                  rotate_left
                  · intro w'
                    go_simp
                    with_reducible rfl
                  rotate_left
                  · simp only [Act.put, List.setIfInBounds_toArray, List.set_cons_zero, List.set_cons_succ, i64_w, i32_w]
                    rfl
                  refine pure_ (i := 2) (N := some 36) (v := ?_) (a' := ?_) #[true, false, true, false, false, false, false, false, false, false, false, false] rfl rfl (any_of HT_.out (by kernel_rfl)) (fun _ _ _ h => h) (Or.inl ⟨by rfl, ?_⟩) ?_ ?_
                  rotate_left
                  · intro w'
                    go_simp
                    with_reducible rfl
                  rotate_left
                  · simp only [Act.put, List.setIfInBounds_toArray, List.set_cons_zero, List.set_cons_succ, i64_w, i32_w]
                    rfl
                  refine pure_ (i := 5) (N := some 39) (v := ?_) (a' := ?_) #[true, false, true, false, false, true, false, false, false, false, false, false] rfl rfl (any_of HT_.out (by kernel_rfl)) (fun _ _ _ h => h) (Or.inl ⟨by rfl, ?_⟩) ?_ ?_
                  rotate_left
                  · intro w'
                    go_simp
                    with_reducible rfl
                  rotate_left
                  · simp only [Act.put, List.setIfInBounds_toArray, List.set_cons_zero, List.set_cons_succ, i64_w, i32_w]
                    rfl
                  refine pure_ (i := 7) (N := some 41) (v := ?_) (a' := ?_) #[true, false, true, false, false, true, false, true, false, false, false, false] rfl rfl (any_of HT_.out (by kernel_rfl)) (fun _ _ _ h => h) (Or.inl ⟨by rfl, ?_⟩) ?_ ?_
                  rotate_left
                  · intro w'
                    go_simp
                    with_reducible rfl
                  rotate_left
                  · simp only [Act.put, List.setIfInBounds_toArray, List.set_cons_zero, List.set_cons_succ, i64_w, i32_w]
                    rfl
                  refine take_ (i := 1) (N := some 35) (v := ?_) (a' := ?_) #[true, true, true, false, false, true, false, true, false, false, false, false] rfl rfl (take_ofW HT_.out HW_.out (by kernel_rfl)) (fun _ _ _ h => h) (Or.inl ⟨by rfl, ?_⟩) hHeld ?_ ?_
                  rotate_left
                  · rintro w' ⟨s0, s1, s2, s3, s4, s5, s6, s7, s8, s9⟩
                    go_simp
                    with_reducible rfl
                  rotate_left
                  · simp only [Act.put, List.setIfInBounds_toArray, List.set_cons_zero, List.set_cons_succ, i64_w, i32_w]
                    rfl
                  refine pure_ (i := 3) (N := some 37) (v := ?_) (a' := ?_) #[true, true, true, true, false, true, false, true, false, false, false, false] rfl rfl (any_of HT_.out (by kernel_rfl)) (fun _ _ _ h => h) (Or.inl ⟨by rfl, ?_⟩) ?_ ?_
                  rotate_left
                  · intro w'
                    go_simp
                    with_reducible rfl
                  rotate_left
                  · simp only [Act.put, List.setIfInBounds_toArray, List.set_cons_zero, List.set_cons_succ, i64_w, i32_w]
                    rfl
                  refine take_ (i := 4) (N := some 38) (v := ?_) (a' := ?_) #[true, true, true, true, true, true, false, true, false, false, false, false] rfl rfl (take_ofW HT_.out HW_.out (by kernel_rfl)) (fun _ _ _ h => h) (Or.inl ⟨by rfl, ?_⟩) hHeld ?_ ?_
                  rotate_left
                  · rintro w' ⟨s0, s1, s2, s3, s4, s5, s6, s7, s8, s9⟩
                    go_simp
                    with_reducible rfl
                  rotate_left
                  · simp only [Act.put, List.setIfInBounds_toArray, List.set_cons_zero, List.set_cons_succ, i64_w, i32_w]
                    rfl
                  refine take_ (i := 6) (N := some 40) (v := ?_) (a' := ?_) #[true, true, true, true, true, true, true, true, false, false, false, false] rfl rfl (take_ofW HT_.out HW_.out (by kernel_rfl)) (fun _ _ _ h => h) (Or.inl ⟨by rfl, ?_⟩) hHeld ?_ ?_
                  rotate_left
                  · rintro w' ⟨s0, s1, s2, s3, s4, s5, s6, s7, s8, s9⟩
                    go_simp
                    with_reducible rfl
                  rotate_left
                  · simp only [Act.put, List.setIfInBounds_toArray, List.set_cons_zero, List.set_cons_succ, i64_w, i32_w]
                    rfl
                  refine pure_ (i := 8) (N := some 42) (v := ?_) (a' := ?_) #[true, true, true, true, true, true, true, true, true, false, false, false] rfl rfl (any_of HT_.out (by kernel_rfl)) (fun _ _ _ h => h) (Or.inl ⟨by rfl, ?_⟩) ?_ ?_
                  rotate_left
                  · intro w'
                    go_simp
                    with_reducible rfl
                  rotate_left
                  · simp only [Act.put, List.setIfInBounds_toArray, List.set_cons_zero, List.set_cons_succ, i64_w, i32_w]
                    rfl
                  refine take_ (i := 9) (N := some 43) (v := ?_) (a' := ?_) #[true, true, true, true, true, true, true, true, true, true, false, false] rfl rfl (take_ofW HT_.out HW_.out (by kernel_rfl)) (fun _ _ _ h => h) (Or.inl ⟨by rfl, ?_⟩) hHeld ?_ ?_
                  rotate_left
                  · rintro w' ⟨s0, s1, s2, s3, s4, s5, s6, s7, s8, s9⟩
                    go_simp
                    with_reducible rfl
                  rotate_left
                  · simp only [Act.put, List.setIfInBounds_toArray, List.set_cons_zero, List.set_cons_succ, i64_w, i32_w]
                    rfl
                  refine pure_ (i := 10) (N := some 44) (v := ?_) (a' := ?_) #[true, true, true, true, true, true, true, true, true, true, true, false] rfl rfl (any_of HT_.out (by kernel_rfl)) (fun _ _ _ h => h) (Or.inl ⟨by rfl, ?_⟩) ?_ ?_
                  rotate_left
                  · intro w'
                    go_simp
                    with_reducible rfl
                  rotate_left
                  · simp only [Act.put, List.setIfInBounds_toArray, List.set_cons_zero, List.set_cons_succ, i64_w, i32_w]
                    rfl
                  refine pure_ (i := 11) (N := some 45) (v := ?_) (a' := ?_) #[true, true, true, true, true, true, true, true, true, true, true, true] rfl rfl (any_of HT_.out (by kernel_rfl)) (fun _ _ _ h => h) (Or.inl ⟨by rfl, ?_⟩) ?_ ?_
                  rotate_left
                  · intro w'
                    go_simp
                    with_reducible rfl
                  rotate_left
                  · simp only [Act.put, List.setIfInBounds_toArray, List.set_cons_zero, List.set_cons_succ, i64_w, i32_w]
                    rfl
                  refine done_ (done_of HT_.out (by kernel_rfl)) ?_
                  try go_wp2
                  go_roundg k2
                  case measure => have := HJ4.out; have := HK2.out; omega
                  case rel => exact ⟨(wrap64 (x5_2 + 1)), (by first | rfl | (simp; done) | (simp [*]; done)), H', ⟨by have := HJ4.out; have := HK2.out; omega⟩, ⟨by (with_reducible repeat (first | apply Kd.Q_alloc | apply Kd.Q_drewN | apply Kd.Q_drew)); exact HO_480003.out⟩, ⟨by (with_reducible repeat (first | apply Kd.Q_alloc | apply Kd.Q_drewN | apply Kd.Q_drew)); exact HO_487003.out⟩, ⟨B.kb BK479⟩, ⟨B.kb BK486⟩, ⟨B.bl HB⟩⟩
                rw [if_neg c38] at H
                have c38b0 : ((wrap64 ((rd t483 x5_2) + (rd t476 x5_2))) == 255) = false := beq_eq_false_iff_ne.mpr c38
                have c38b1 : ((wrap64 ((rd t483 x5_2) + (rd t476 x5_2))) != 255) = true := bne_iff_ne.mpr c38
                obtain rfl := Option.some.inj H
                exact absurd ht_.out (by decide)
              rw [if_neg c37] at H
              exact absurd H (by simp)
            rw [if_neg c36] at H
            exact absurd H (by simp)
          rw [if_neg c35] at H
          have c35b0 : decide (x5_2 < (t476.length : Int)) = false := decide_eq_false c35
          clear c35
          replace H := Option.bind_eq_some_iff.mp H
          obtain ⟨⟨t503, t504, t505, t506⟩, A420, H⟩ := H
          replace H : ((laws_equalImage.f k2 t503 t504 t505 t506 t473 t474 t475 t476).bind fun t509 => (some t509)) = some r := H
          have A42 := Aside0.mk A420
          clear A420
          replace H := Option.bind_eq_some_iff.mp H
          obtain ⟨t509, A430, H⟩ := H
          replace H : (some t509) = some r := H
          have A43 := Aside0.mk A430
          clear A430
          obtain rfl := Option.some.inj H
          simp only [Option.some.injEq, Prod.mk.injEq] at H
          obtain ⟨rfl⟩ := H
          have hnb44 := NB479_486.out
          have hnc44 := NB486_479.out
          have hcz45_0 : wr.cell? ⟨gb479, 0, none⟩ = some (.int .i64 t473) := B.bc BK479 0
          have hcz45_1 : wr.cell? ⟨gb479, 1, none⟩ = some (.int .i64 t474) := B.bc BK479 1
          have hcz45_2 : wr.cell? ⟨gb479, 2, none⟩ = some (.int .i64 t475) := B.bc BK479 2
          have hcz45_3 : wr.cell? ⟨gb479, 3, none⟩ = some (.slice Ao9 t476.length co9) := B.bc BK479 3
          have hfz45_0 := blk_frozen BK479.out 0
          have hfz45_1 := blk_frozen BK479.out 1
          have hfz45_2 := blk_frozen BK479.out 2
          have hfz45_3 := blk_frozen BK479.out 3
          try go_wp2
          have n0_ := Aside0.mk (Kd.Q_drew HO_480003.out)
          have n1_ := Aside0.mk (Kd.Q_drew HO_487003.out)
          have n2_ := Aside0.mk (blk_drew BK479.out)
          have n3_ := Aside0.mk (blk_drew BK486.out)
          have n4_ := Aside0.mk (below_drew1 HB.out)
          clear HO_480003 HO_487003 BK479 BK486 HB
          have HO_480003 := n0_
          have HO_487003 := n1_
          have BK479 := n2_
          have BK486 := n3_
          have HB := n4_
          clear n0_ n1_ n2_ n3_ n4_
          refine start_ (n := 5) (S := fun w' => w'.cell? ⟨gb486, 0, none⟩ = some (.int .i64 t480) ∧ w'.cell? ⟨gb486, 1, none⟩ = some (.int .i64 t481) ∧ w'.cell? ⟨gb486, 2, none⟩ = some (.int .i64 t482) ∧ w'.cell? ⟨gb486, 3, none⟩ = some (.slice Ao14 t483.length co14) ∧ w'.cell? ⟨gb479, 0, none⟩ = some (.int .i64 t473) ∧ w'.cell? ⟨gb479, 1, none⟩ = some (.int .i64 t474) ∧ w'.cell? ⟨gb479, 2, none⟩ = some (.int .i64 t475) ∧ w'.cell? ⟨gb479, 3, none⟩ = some (.slice Ao9 t476.length co9)) (ds := []) #[false, false, false, false, false] (by kernel_rfl) rfl rfl ⟨B.bc BK486 0, B.bc BK486 1, B.bc BK486 2, B.bc BK486 3, B.bc BK479 0, B.bc BK479 1, B.bc BK479 2, B.bc BK479 3⟩ (fun hHeld => ?_)
          generalize wr.drew = w46 at HO_480003 HO_487003 BK479 BK486 HB hHeld ⊢
          refine take_ (i := 0) (N := some 46) (v := ?_) (a' := ?_) #[true, false, false, false, false] rfl rfl (by kernel_rfl) (fun _ _ _ h => h) (Or.inl ⟨by rfl, ?_⟩) hHeld ?_ ?_
          rotate_left
          · rintro w' ⟨s0, s1, s2, s3, s4, s5, s6, s7⟩
            go_simp
            with_reducible rfl
          rotate_left
          · simp only [Act.put, List.setIfInBounds_toArray, List.set_cons_zero, List.set_cons_succ, i64_w, i32_w]
            rfl
          refine take_ (i := 2) (N := some 48) (v := ?_) (a' := ?_) #[true, false, true, false, false] rfl rfl (by kernel_rfl) (fun _ _ _ h => h) (Or.inl ⟨by rfl, ?_⟩) hHeld ?_ ?_
          rotate_left
          · rintro w' ⟨s0, s1, s2, s3, s4, s5, s6, s7⟩
            go_simp
            with_reducible rfl
          rotate_left
          · simp only [Act.put, List.setIfInBounds_toArray, List.set_cons_zero, List.set_cons_succ, i64_w, i32_w]
            rfl
          refine one_ (i := 1) (N := some 47) #[true, true, true, false, false] rfl rfl (by kernel_rfl) (by decide) (fun K hK => ?_)
          refine goes_ Try.func29 (by kernel_rfl) rfl #[.agg #[.int .i64 t480, .int .i64 t481, .int .i64 t482, .slice Ao14 t483.length co14]] (by rfl) rfl rfl B.am ?_
          with_reducible refine (impl_InvertImage.calls t480 t481 t482 _ _ t483 t503 t504 t505 t506 _ ?side1 ?side2 A42.out).mono ?_
          (case side1 => exact B.kc ((Kd.Q_reads' HO_487003.out).2.2))
          (case side2 => exact (Kd.Q_reads' HO_487003.out).2.1)
          rintro e w47 ⟨v507, rfl, ho0, hb⟩
          refine ⟨_, rfl, ?_⟩
          have n0_ := Aside0.mk (Kd.Q_elder' (B.kq HO_480003) (Kd.R_base ho0) hb)
          have n1_ := Aside0.mk (Kd.Q_elder' (B.kq HO_487003) (Kd.R_base ho0) hb)
          have n2_ := Aside0.mk (Kd.R_lower (Kd.R_new' (Kd.R_new' ho0 (Kd.Q_lt (B.kq HO_480003))) (Kd.Q_lt (B.kq HO_487003))) (below_size (B.bl HB)))
          have n3_ := Aside0.mk (blk_below (B.kb BK479) hb)
          have n4_ := Aside0.mk (blk_below (B.kb BK486) hb)
          have n5_ := Aside0.mk (below_step (B.bl HB) hb)
          clear HO_480003 HO_487003 BK479 BK486 HB
          have HO_480003 := n0_
          have HO_487003 := n1_
          have HO508 := n2_
          have BK479 := n3_
          have BK486 := n4_
          have HB := n5_
          clear n0_ n1_ n2_ n3_ n4_ n5_
          (try clear hb)
          (try clear hb2)
          (try clear hk)
          (try clear hi)
          (try clear ho0)
          obtain ⟨Ao48, co48, eo48⟩ := Kd.R_slice HO508.out
          (first | subst eo48 | (injection eo48 with f1_ f2_ f3_; have f4_ := f1_.symm; have f5_ := f3_.symm; clear f1_ f2_ f3_; subst f4_; subst f5_))
          refine hK.out _ _ ⟨B.bc BK486 0, B.bc BK486 1, B.bc BK486 2, B.bc BK486 3, B.bc BK479 0, B.bc BK479 1, B.bc BK479 2, B.bc BK479 3⟩ (fun hHeld => ?_)
          clear hK K
          refine norm_ (a' := ?_) ?_ ?_
          rotate_left
          · show Act.put _ (some 47) _ = _
            simp only [Act.put, List.setIfInBounds_toArray, List.set_cons_zero, List.set_cons_succ, i64_w, i32_w]
            rfl
          refine one_ (i := 3) (N := some 49) #[true, true, true, true, false] rfl rfl (by kernel_rfl) (by decide) (fun K hK => ?_)
          refine goes_ Try.func30 (by kernel_rfl) rfl #[.agg #[.int .i64 t503, .int .i64 t504, .int .i64 t505, .slice Ao48 t506.length co48], .agg #[.int .i64 t473, .int .i64 t474, .int .i64 t475, .slice Ao9 t476.length co9]] (by rfl) rfl rfl B.am ?_
          with_reducible refine (laws_equalImage.calls k2 t503 t504 t505 _ _ t506 t473 t474 t475 _ _ t476 t509 _ ?side1 ?side2 ?side3 ?side4 A43.out).mono ?_
          (case side1 => exact B.kc ((Kd.R_reads' HO508.out).2.2))
          (case side2 => exact (Kd.R_reads' HO508.out).2.1)
          (case side3 => exact B.kc ((Kd.Q_reads' HO_480003.out).2.2))
          (case side4 => exact (Kd.Q_reads' HO_480003.out).2.1)
          rintro e w49 ⟨rfl, hb⟩
          refine ⟨_, rfl, ?_⟩
          have n0_ := Aside0.mk (Kd.Q_below (B.kq HO_480003) hb)
          have n1_ := Aside0.mk (Kd.Q_below (B.kq HO_487003) hb)
          have n2_ := Aside0.mk (Kd.R_below (B.kr HO508) hb)
          have n3_ := Aside0.mk (blk_below (B.kb BK479) hb)
          have n4_ := Aside0.mk (blk_below (B.kb BK486) hb)
          have n5_ := Aside0.mk (below_step (B.bl HB) hb)
          clear HO_480003 HO_487003 HO508 BK479 BK486 HB
          have HO_480003 := n0_
          have HO_487003 := n1_
          have HO508 := n2_
          have BK479 := n3_
          have BK486 := n4_
          have HB := n5_
          clear n0_ n1_ n2_ n3_ n4_ n5_
          (try clear hb)
          (try clear hb2)
          (try clear hk)
          (try clear hi)
          refine hK.out _ _ ⟨B.bc BK486 0, B.bc BK486 1, B.bc BK486 2, B.bc BK486 3, B.bc BK479 0, B.bc BK479 1, B.bc BK479 2, B.bc BK479 3⟩ (fun hHeld => ?_)
          clear hK K
          refine norm_ (a' := ?_) ?_ ?_
          rotate_left
          · show Act.put _ (some 49) _ = _
            simp only [Act.put, List.setIfInBounds_toArray, List.set_cons_zero, List.set_cons_succ, i64_w, i32_w]
            rfl
          refine pure_ (i := 4) (N := some 2) (v := ?_) (a' := ?_) #[true, true, true, true, true] rfl rfl (by kernel_rfl) (fun _ _ _ h => h) (Or.inl ⟨by rfl, ?_⟩) ?_ ?_
          rotate_left
          · intro w'
            go_simp
            with_reducible rfl
          rotate_left
          · simp only [Act.put, List.setIfInBounds_toArray, List.set_cons_zero, List.set_cons_succ, i64_w, i32_w]
            rfl
          refine done_ (by kernel_rfl) ?_
          try go_wp2
          go_ret
          exact ⟨by first | rfl | (simp [errW_none, errW_some] <;> rfl) | (simp [*, errW_none, errW_some] <;> rfl), B.bl HB⟩

/-- THE ONE PURE STATEMENT of laws_FnInvertImage: yours. -/
def laws_FnInvertImage.Pure : Prop := ∀ (l0 : List Int), l0.length ≤ maxLen → l0.length * 1 ≤ 140737488351232 → (∀ x ∈ l0, (Lit.int .u8 x).wf = true) → ∃ k, laws_FnInvertImage.f k l0 = some true
theorem laws_FnInvertImage.walk (P : laws_FnInvertImage.Pure) (a0 : Option Addr) (len0 cap0 : Nat) (z0 : List Int) (w : World) (w0 : (a0 = none ∧ len0 = 0 ∧ cap0 = 0 ∧ z0 = []) ∨ ∃ x, a0 = some x ∧ len0 ≤ cap0 ∧ cap0 ≤ maxLen ∧ z0.length = cap0 ∧ (∀ i, i < z0.length → w.cell? (x.add i) = some (.int .u8 (z0.getD i 0))) ∧ ∀ n ∈ z0, (Lit.int .u8 n).wf = true) (y0 : len0 * 1 ≤ 140737488351232) :
    Calls Try.prog 7 #[.slice a0 len0 cap0] w fun e w' => e = .returned (.bool true) ∧ Below w.heap.size w w' := by
  obtain ⟨l0, rfl, hr0, hm0, hw0, hc0⟩ := ReadsInt.ofRowC w0
  obtain ⟨k, h⟩ := P l0 hm0 y0 hw0
  refine (laws_FnInvertImage.calls k _ _ l0 true w (Kd.C_of_reads (d := (0 : Int)) (h1 := fun _ => rfl) hr0) hc0 h ⟨rfl⟩).mono ?_
  rintro e w' ⟨rfl, hd⟩
  exact ⟨rfl, hd⟩

end Go.Proofs.Ytegicfkcdmhjgaa.Q
