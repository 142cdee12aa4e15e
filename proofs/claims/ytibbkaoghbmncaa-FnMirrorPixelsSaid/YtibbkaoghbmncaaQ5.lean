-- Written by a program of this session (the kit's printer, with hand-proved contracts for the functions that it does not take).
import Derived.Test.YtibbkaoghbmncaaQ0
import Derived.Test.YtibbkaoghbmncaaQ3
namespace Go.Proofs.Ytibbkaoghbmncaa.Q
open Go.RowKit Go.Proofs.YtibbkaoghbmncaaW.PrintWords Go.Proofs.YtibbkaoghbmncaaW.PrintLast Go.Proofs.YtibbkaoghbmncaaW.PrintMore
attribute [local go_sem] max2_int min2_int max_two min_two max_three min_three max_four min_four   -- for this text's walks alone
set_option linter.unusedVariables false
set_option linter.unusedSimpArgs false

/-! ### laws_equalImage: function 20 -/
def laws_equalImage.f (k : Nat) (a0_0 : Int) (a0_1 : Int) (a0_2 : Int) (l0_3 : List Int) (a1_0 : Int) (a1_1 : Int) (a1_2 : Int) (l1_3 : List Int) : Option (Bool) := if a0_0 = a1_0 then (if a0_1 = a1_1 then (if a0_2 = a1_2 then ((laws_equalInts.f k l0_3 l1_3).bind fun t330 => (some t330)) else (some false)) else (some false)) else (some false)
theorem laws_equalImage.mono : ∀ a0 a1 a2 a3 a4 a5 a6 a7 k, LeO (laws_equalImage.f k a0 a1 a2 a3 a4 a5 a6 a7) (laws_equalImage.f (k + 1) a0 a1 a2 a3 a4 a5 a6 a7) := by
  intro a0 a1 a2 a3 a4 a5 a6 a7 k
  unfold laws_equalImage.f
  repeat' first
      | (with_reducible exact laws_equalInts.mono _ _ _)
      | (with_reducible exact LeO.refl _)
      | (with_reducible exact LeO.none _)
      | (with_reducible refine LeO.ite ?_ ?_)
      | (with_reducible refine LeO.bind ?_ (fun _ => ?_))
      | exact laws_equalInts.mono _ _ _
      | exact LeO.none _
      | refine LeO.ite ?_ ?_
      | refine LeO.bind ?_ (fun _ => ?_)
set_option maxHeartbeats 8000000 in
set_option maxRecDepth 100000 in
theorem laws_equalImage.calls (k : Nat) (a0_0 : Int) (a0_1 : Int) (a0_2 : Int) (A0_3 : Option Addr) (c0_3 : Nat) (l0_3 : List Int) (a1_0 : Int) (a1_1 : Int) (a1_2 : Int) (A1_3 : Option Addr) (c1_3 : Nat) (l1_3 : List Int) (r : Bool) (w : World) (hr0_3 : Kd.C (Kd.int .i64) w A0_3 l0_3.length l0_3) (hc0_3 : l0_3.length ≤ c0_3) (hr1_3 : Kd.C (Kd.int .i64) w A1_3 l1_3.length l1_3) (hc1_3 : l1_3.length ≤ c1_3) (h : laws_equalImage.f k a0_0 a0_1 a0_2 l0_3 a1_0 a1_1 a1_2 l1_3 = some r) :
    Calls Try.prog 20 #[.agg #[.int .i64 a0_0, .int .i64 a0_1, .int .i64 a0_2, .slice A0_3 l0_3.length c0_3], .agg #[.int .i64 a1_0, .int .i64 a1_1, .int .i64 a1_2, .slice A1_3 l1_3.length c1_3]] w fun e w' => e = .returned (.bool r) ∧ Below w.heap.size w w' := by
  have hu26 := Try.underlying26
  have HR0_3 := Aside0.mk hr0_3
  have HC0_3 := Aside0.mk hc0_3
  clear hr0_3 hc0_3
  have HR1_3 := Aside0.mk hr1_3
  have HC1_3 := Aside0.mk hc1_3
  clear hr1_3 hc1_3
  have HB := Aside0.mk (Below.refl w.heap.size w)
  have H : (if a0_0 = a1_0 then (if a0_1 = a1_1 then (if a0_2 = a1_2 then ((laws_equalInts.f k l0_3 l1_3).bind fun t330 => (some t330)) else (some false)) else (some false)) else (some false)) = some r := h
  clear h
  by_cases c3 : a0_0 = a1_0
  · rw [if_pos c3] at H
    have c3b0 : (a0_0 == a1_0) = true := beq_iff_eq.mpr c3
    have c3b1 : (a0_0 != a1_0) = false := bne_eq_false_iff_eq.mpr c3
    clear c3
    by_cases c4 : a0_1 = a1_1
    · rw [if_pos c4] at H
      have c4b0 : (a0_1 == a1_1) = true := beq_iff_eq.mpr c4
      have c4b1 : (a0_1 != a1_1) = false := bne_eq_false_iff_eq.mpr c4
      clear c4
      by_cases c5 : a0_2 = a1_2
      · rw [if_pos c5] at H
        have c5b0 : (a0_2 == a1_2) = true := beq_iff_eq.mpr c5
        have c5b1 : (a0_2 != a1_2) = false := bne_eq_false_iff_eq.mpr c5
        clear c5
        replace H := Option.bind_eq_some_iff.mp H
        obtain ⟨t330, A60, H⟩ := H
        replace H : (some t330) = some r := H
        have A6 := Aside0.mk A60
        clear A60
        obtain rfl := Option.some.inj H
        simp only [Option.some.injEq, Prod.mk.injEq] at H
        obtain ⟨rfl⟩ := H
        go_enter Try.func20, Try.ntmps20
        go_wp2_with (first | ((with_reducible refine gate_dst (N := 2) rfl ?_); refine box_event ?hg (N := 2) ?hd (cs := #[.int .i64 a0_0, .int .i64 a0_1, .int .i64 a0_2, .slice A0_3 l0_3.length c0_3]) (t := 26) ?hr ?_; (case hd => rfl); (case hg => rfl); (case hr => first | (go_simp; done) | (go_simp; rfl)); intro gb328 hg w7 hbox hb; have n0_ := Aside0.mk (below_step (B.bl HB) hb); have n1_ := Aside0.mk (hbox); have n2_ := Aside0.mk (B.nle hg (below_size (B.bl HB))); have n3_ := Aside0.mk (B.nle hg (below_size (B.bl HB))); clear HB; have HB := n0_; have BK328 := n1_; have GW328 := n2_; have GE328 := n3_; clear n0_ n1_ n2_ n3_; clear hb hbox hg) | ((with_reducible refine gate_dst (N := 3) rfl ?_); refine box_event ?hg (N := 3) ?hd (cs := #[.int .i64 a1_0, .int .i64 a1_1, .int .i64 a1_2, .slice A1_3 l1_3.length c1_3]) (t := 26) ?hr ?_; (case hd => rfl); (case hg => rfl); (case hr => first | (go_simp; done) | (go_simp; rfl)); intro gb329 hg w8 hbox hb; have n0_ := Aside0.mk (blk_below (B.kb BK328) hb); have n1_ := Aside0.mk (below_step (B.bl HB) hb); have n2_ := Aside0.mk (hbox); have n3_ := Aside0.mk (B.nle hg (below_size (B.bl HB))); have n4_ := Aside0.mk (B.nle hg (below_size (B.bl HB))); have n5_ := Aside0.mk (B.nlt hg (blk_lt (B.kb BK328))); have n6_ := Aside0.mk (B.ngt hg (blk_lt (B.kb BK328))); clear BK328 HB; have BK328 := n0_; have HB := n1_; have BK329 := n2_; have GW329 := n3_; have GE329 := n4_; have NB328_329 := n5_; have NB329_328 := n6_; clear n0_ n1_ n2_ n3_ n4_ n5_ n6_; clear hb hbox hg; have hnb9 := NB328_329.out; have hnc9 := NB329_328.out; have hcz10_0 : w8.cell? ⟨gb328, 0, none⟩ = some (.int .i64 a0_0) := B.bc BK328 0; have hcz10_1 : w8.cell? ⟨gb328, 1, none⟩ = some (.int .i64 a0_1) := B.bc BK328 1; have hcz10_2 : w8.cell? ⟨gb328, 2, none⟩ = some (.int .i64 a0_2) := B.bc BK328 2; have hcz10_3 : w8.cell? ⟨gb328, 3, none⟩ = some (.slice A0_3 l0_3.length c0_3) := B.bc BK328 3; have hfz10_0 := blk_frozen BK328.out 0; have hfz10_1 := blk_frozen BK328.out 1; have hfz10_2 := blk_frozen BK328.out 2; have hfz10_3 := blk_frozen BK328.out 3; have hcz11_0 : w8.cell? ⟨gb329, 0, none⟩ = some (.int .i64 a1_0) := B.bc BK329 0; have hcz11_1 : w8.cell? ⟨gb329, 1, none⟩ = some (.int .i64 a1_1) := B.bc BK329 1; have hcz11_2 : w8.cell? ⟨gb329, 2, none⟩ = some (.int .i64 a1_2) := B.bc BK329 2; have hcz11_3 : w8.cell? ⟨gb329, 3, none⟩ = some (.slice A1_3 l1_3.length c1_3) := B.bc BK329 3; have hfz11_0 := blk_frozen BK329.out 0; have hfz11_1 := blk_frozen BK329.out 1; have hfz11_2 := blk_frozen BK329.out 2; have hfz11_3 := blk_frozen BK329.out 3) | (go_at_call 30; (with_reducible refine (laws_equalInts.calls k _ _ l0_3 _ _ l1_3 t330 _ ?side1 ?side2 ?side3 ?side4 A6.out).mono ?_); (case side1 => exact B.kc (Kd.C_below HR0_3.out HB.out)); (case side2 => exact HC0_3.out); (case side3 => exact B.kc (Kd.C_below HR1_3.out HB.out)); (case side4 => exact HC1_3.out); rintro e w' ⟨rfl, ⟨nd, rfl⟩⟩))
        go_ret
        exact ⟨by first | rfl | (simp [errW_none, errW_some] <;> rfl) | (simp [*, errW_none, errW_some] <;> rfl), B.bl HB⟩
      rw [if_neg c5] at H
      have c5b0 : (a0_2 == a1_2) = false := beq_eq_false_iff_ne.mpr c5
      have c5b1 : (a0_2 != a1_2) = true := bne_iff_ne.mpr c5
      obtain rfl := Option.some.inj H
      simp only [Option.some.injEq, Prod.mk.injEq] at H
      obtain ⟨rfl⟩ := H
      go_enter Try.func20, Try.ntmps20
      go_wp2_with (first | ((with_reducible refine gate_dst (N := 2) rfl ?_); refine box_event ?hg (N := 2) ?hd (cs := #[.int .i64 a0_0, .int .i64 a0_1, .int .i64 a0_2, .slice A0_3 l0_3.length c0_3]) (t := 26) ?hr ?_; (case hd => rfl); (case hg => rfl); (case hr => first | (go_simp; done) | (go_simp; rfl)); intro gb328 hg w12 hbox hb; have n0_ := Aside0.mk (below_step (B.bl HB) hb); have n1_ := Aside0.mk (hbox); have n2_ := Aside0.mk (B.nle hg (below_size (B.bl HB))); have n3_ := Aside0.mk (B.nle hg (below_size (B.bl HB))); clear HB; have HB := n0_; have BK328 := n1_; have GW328 := n2_; have GE328 := n3_; clear n0_ n1_ n2_ n3_; clear hb hbox hg) | ((with_reducible refine gate_dst (N := 3) rfl ?_); refine box_event ?hg (N := 3) ?hd (cs := #[.int .i64 a1_0, .int .i64 a1_1, .int .i64 a1_2, .slice A1_3 l1_3.length c1_3]) (t := 26) ?hr ?_; (case hd => rfl); (case hg => rfl); (case hr => first | (go_simp; done) | (go_simp; rfl)); intro gb329 hg w13 hbox hb; have n0_ := Aside0.mk (blk_below (B.kb BK328) hb); have n1_ := Aside0.mk (below_step (B.bl HB) hb); have n2_ := Aside0.mk (hbox); have n3_ := Aside0.mk (B.nle hg (below_size (B.bl HB))); have n4_ := Aside0.mk (B.nle hg (below_size (B.bl HB))); have n5_ := Aside0.mk (B.nlt hg (blk_lt (B.kb BK328))); have n6_ := Aside0.mk (B.ngt hg (blk_lt (B.kb BK328))); clear BK328 HB; have BK328 := n0_; have HB := n1_; have BK329 := n2_; have GW329 := n3_; have GE329 := n4_; have NB328_329 := n5_; have NB329_328 := n6_; clear n0_ n1_ n2_ n3_ n4_ n5_ n6_; clear hb hbox hg; have hnb14 := NB328_329.out; have hnc14 := NB329_328.out; have hcz15_0 : w13.cell? ⟨gb328, 0, none⟩ = some (.int .i64 a0_0) := B.bc BK328 0; have hcz15_1 : w13.cell? ⟨gb328, 1, none⟩ = some (.int .i64 a0_1) := B.bc BK328 1; have hcz15_2 : w13.cell? ⟨gb328, 2, none⟩ = some (.int .i64 a0_2) := B.bc BK328 2; have hcz15_3 : w13.cell? ⟨gb328, 3, none⟩ = some (.slice A0_3 l0_3.length c0_3) := B.bc BK328 3; have hfz15_0 := blk_frozen BK328.out 0; have hfz15_1 := blk_frozen BK328.out 1; have hfz15_2 := blk_frozen BK328.out 2; have hfz15_3 := blk_frozen BK328.out 3; have hcz16_0 : w13.cell? ⟨gb329, 0, none⟩ = some (.int .i64 a1_0) := B.bc BK329 0; have hcz16_1 : w13.cell? ⟨gb329, 1, none⟩ = some (.int .i64 a1_1) := B.bc BK329 1; have hcz16_2 : w13.cell? ⟨gb329, 2, none⟩ = some (.int .i64 a1_2) := B.bc BK329 2; have hcz16_3 : w13.cell? ⟨gb329, 3, none⟩ = some (.slice A1_3 l1_3.length c1_3) := B.bc BK329 3; have hfz16_0 := blk_frozen BK329.out 0; have hfz16_1 := blk_frozen BK329.out 1; have hfz16_2 := blk_frozen BK329.out 2; have hfz16_3 := blk_frozen BK329.out 3))
      go_ret
      exact ⟨by first | rfl | (simp [errW_none, errW_some] <;> rfl) | (simp [*, errW_none, errW_some] <;> rfl), B.bl HB⟩
    rw [if_neg c4] at H
    have c4b0 : (a0_1 == a1_1) = false := beq_eq_false_iff_ne.mpr c4
    have c4b1 : (a0_1 != a1_1) = true := bne_iff_ne.mpr c4
    obtain rfl := Option.some.inj H
    simp only [Option.some.injEq, Prod.mk.injEq] at H
    obtain ⟨rfl⟩ := H
    go_enter Try.func20, Try.ntmps20
    go_wp2_with (first | ((with_reducible refine gate_dst (N := 2) rfl ?_); refine box_event ?hg (N := 2) ?hd (cs := #[.int .i64 a0_0, .int .i64 a0_1, .int .i64 a0_2, .slice A0_3 l0_3.length c0_3]) (t := 26) ?hr ?_; (case hd => rfl); (case hg => rfl); (case hr => first | (go_simp; done) | (go_simp; rfl)); intro gb328 hg w17 hbox hb; have n0_ := Aside0.mk (below_step (B.bl HB) hb); have n1_ := Aside0.mk (hbox); have n2_ := Aside0.mk (B.nle hg (below_size (B.bl HB))); have n3_ := Aside0.mk (B.nle hg (below_size (B.bl HB))); clear HB; have HB := n0_; have BK328 := n1_; have GW328 := n2_; have GE328 := n3_; clear n0_ n1_ n2_ n3_; clear hb hbox hg) | ((with_reducible refine gate_dst (N := 3) rfl ?_); refine box_event ?hg (N := 3) ?hd (cs := #[.int .i64 a1_0, .int .i64 a1_1, .int .i64 a1_2, .slice A1_3 l1_3.length c1_3]) (t := 26) ?hr ?_; (case hd => rfl); (case hg => rfl); (case hr => first | (go_simp; done) | (go_simp; rfl)); intro gb329 hg w18 hbox hb; have n0_ := Aside0.mk (blk_below (B.kb BK328) hb); have n1_ := Aside0.mk (below_step (B.bl HB) hb); have n2_ := Aside0.mk (hbox); have n3_ := Aside0.mk (B.nle hg (below_size (B.bl HB))); have n4_ := Aside0.mk (B.nle hg (below_size (B.bl HB))); have n5_ := Aside0.mk (B.nlt hg (blk_lt (B.kb BK328))); have n6_ := Aside0.mk (B.ngt hg (blk_lt (B.kb BK328))); clear BK328 HB; have BK328 := n0_; have HB := n1_; have BK329 := n2_; have GW329 := n3_; have GE329 := n4_; have NB328_329 := n5_; have NB329_328 := n6_; clear n0_ n1_ n2_ n3_ n4_ n5_ n6_; clear hb hbox hg; have hnb19 := NB328_329.out; have hnc19 := NB329_328.out; have hcz20_0 : w18.cell? ⟨gb328, 0, none⟩ = some (.int .i64 a0_0) := B.bc BK328 0; have hcz20_1 : w18.cell? ⟨gb328, 1, none⟩ = some (.int .i64 a0_1) := B.bc BK328 1; have hcz20_2 : w18.cell? ⟨gb328, 2, none⟩ = some (.int .i64 a0_2) := B.bc BK328 2; have hcz20_3 : w18.cell? ⟨gb328, 3, none⟩ = some (.slice A0_3 l0_3.length c0_3) := B.bc BK328 3; have hfz20_0 := blk_frozen BK328.out 0; have hfz20_1 := blk_frozen BK328.out 1; have hfz20_2 := blk_frozen BK328.out 2; have hfz20_3 := blk_frozen BK328.out 3; have hcz21_0 : w18.cell? ⟨gb329, 0, none⟩ = some (.int .i64 a1_0) := B.bc BK329 0; have hcz21_1 : w18.cell? ⟨gb329, 1, none⟩ = some (.int .i64 a1_1) := B.bc BK329 1; have hcz21_2 : w18.cell? ⟨gb329, 2, none⟩ = some (.int .i64 a1_2) := B.bc BK329 2; have hcz21_3 : w18.cell? ⟨gb329, 3, none⟩ = some (.slice A1_3 l1_3.length c1_3) := B.bc BK329 3; have hfz21_0 := blk_frozen BK329.out 0; have hfz21_1 := blk_frozen BK329.out 1; have hfz21_2 := blk_frozen BK329.out 2; have hfz21_3 := blk_frozen BK329.out 3))
    go_ret
    exact ⟨by first | rfl | (simp [errW_none, errW_some] <;> rfl) | (simp [*, errW_none, errW_some] <;> rfl), B.bl HB⟩
  rw [if_neg c3] at H
  have c3b0 : (a0_0 == a1_0) = false := beq_eq_false_iff_ne.mpr c3
  have c3b1 : (a0_0 != a1_0) = true := bne_iff_ne.mpr c3
  obtain rfl := Option.some.inj H
  simp only [Option.some.injEq, Prod.mk.injEq] at H
  obtain ⟨rfl⟩ := H
  go_enter Try.func20, Try.ntmps20
  go_wp2_with (first | ((with_reducible refine gate_dst (N := 2) rfl ?_); refine box_event ?hg (N := 2) ?hd (cs := #[.int .i64 a0_0, .int .i64 a0_1, .int .i64 a0_2, .slice A0_3 l0_3.length c0_3]) (t := 26) ?hr ?_; (case hd => rfl); (case hg => rfl); (case hr => first | (go_simp; done) | (go_simp; rfl)); intro gb328 hg w22 hbox hb; have n0_ := Aside0.mk (below_step (B.bl HB) hb); have n1_ := Aside0.mk (hbox); have n2_ := Aside0.mk (B.nle hg (below_size (B.bl HB))); have n3_ := Aside0.mk (B.nle hg (below_size (B.bl HB))); clear HB; have HB := n0_; have BK328 := n1_; have GW328 := n2_; have GE328 := n3_; clear n0_ n1_ n2_ n3_; clear hb hbox hg) | ((with_reducible refine gate_dst (N := 3) rfl ?_); refine box_event ?hg (N := 3) ?hd (cs := #[.int .i64 a1_0, .int .i64 a1_1, .int .i64 a1_2, .slice A1_3 l1_3.length c1_3]) (t := 26) ?hr ?_; (case hd => rfl); (case hg => rfl); (case hr => first | (go_simp; done) | (go_simp; rfl)); intro gb329 hg w23 hbox hb; have n0_ := Aside0.mk (blk_below (B.kb BK328) hb); have n1_ := Aside0.mk (below_step (B.bl HB) hb); have n2_ := Aside0.mk (hbox); have n3_ := Aside0.mk (B.nle hg (below_size (B.bl HB))); have n4_ := Aside0.mk (B.nle hg (below_size (B.bl HB))); have n5_ := Aside0.mk (B.nlt hg (blk_lt (B.kb BK328))); have n6_ := Aside0.mk (B.ngt hg (blk_lt (B.kb BK328))); clear BK328 HB; have BK328 := n0_; have HB := n1_; have BK329 := n2_; have GW329 := n3_; have GE329 := n4_; have NB328_329 := n5_; have NB329_328 := n6_; clear n0_ n1_ n2_ n3_ n4_ n5_ n6_; clear hb hbox hg; have hnb24 := NB328_329.out; have hnc24 := NB329_328.out; have hcz25_0 : w23.cell? ⟨gb328, 0, none⟩ = some (.int .i64 a0_0) := B.bc BK328 0; have hcz25_1 : w23.cell? ⟨gb328, 1, none⟩ = some (.int .i64 a0_1) := B.bc BK328 1; have hcz25_2 : w23.cell? ⟨gb328, 2, none⟩ = some (.int .i64 a0_2) := B.bc BK328 2; have hcz25_3 : w23.cell? ⟨gb328, 3, none⟩ = some (.slice A0_3 l0_3.length c0_3) := B.bc BK328 3; have hfz25_0 := blk_frozen BK328.out 0; have hfz25_1 := blk_frozen BK328.out 1; have hfz25_2 := blk_frozen BK328.out 2; have hfz25_3 := blk_frozen BK328.out 3; have hcz26_0 : w23.cell? ⟨gb329, 0, none⟩ = some (.int .i64 a1_0) := B.bc BK329 0; have hcz26_1 : w23.cell? ⟨gb329, 1, none⟩ = some (.int .i64 a1_1) := B.bc BK329 1; have hcz26_2 : w23.cell? ⟨gb329, 2, none⟩ = some (.int .i64 a1_2) := B.bc BK329 2; have hcz26_3 : w23.cell? ⟨gb329, 3, none⟩ = some (.slice A1_3 l1_3.length c1_3) := B.bc BK329 3; have hfz26_0 := blk_frozen BK329.out 0; have hfz26_1 := blk_frozen BK329.out 1; have hfz26_2 := blk_frozen BK329.out 2; have hfz26_3 := blk_frozen BK329.out 3))
  go_ret
  exact ⟨by first | rfl | (simp [errW_none, errW_some] <;> rfl) | (simp [*, errW_none, errW_some] <;> rfl), B.bl HB⟩

end Go.Proofs.Ytibbkaoghbmncaa.Q
