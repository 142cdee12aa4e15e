-- Written by a program of this session (the kit's printer, with hand-proved contracts for the functions that it does not take).
import Derived.Test.YtpadegboplcapaaQ0
import Derived.Test.YtpadegboplcapaaQ1
import Derived.Test.YtpadegboplcapaaQ2
import Derived.Test.YtpadegboplcapaaQ4
import Derived.Test.YtpadegboplcapaaQ6
namespace Go.Proofs.Ytpadegboplcapaa.Q
open Go.RowKit Go.Proofs.YtpadegboplcapaaW.PrintWords Go.Proofs.YtpadegboplcapaaW.PrintLast Go.Proofs.YtpadegboplcapaaW.PrintMore
attribute [local go_sem] max2_int min2_int max_two min_two max_three min_three max_four min_four   -- for this text's walks alone
set_option linter.unusedVariables false
set_option linter.unusedSimpArgs false

/-! ### spec_PassSize: function 10 -/
def spec_PassSize.f (a0 : Int) (a1 : Int) (a2 : Int) : Option (Int × Int) := (spec_validShape.f a0 a1 1).bind fun t137 => (if t137 = true then ((spec_inRange.f a2 0 6).bind fun t138 => (if t138 = true then ((spec_passSize.f a0 a1 a2).bind fun bt139 => (some (bt139.1, bt139.2))) else (some ((-1), (-1))))) else (some ((-1), (-1))))
set_option maxHeartbeats 8000000 in
set_option maxRecDepth 100000 in
theorem spec_PassSize.calls (a0 : Int) (a1 : Int) (a2 : Int) (r1 : Int) (r2 : Int) (w : World) (h : spec_PassSize.f a0 a1 a2 = some (r1, r2)) :
    Calls Try.prog 10 #[.int .i64 a0, .int .i64 a1, .int .i64 a2] w fun e w' => e = .returned (.tuple #[.int .i64 r1, .int .i64 r2]) ∧ Below w.heap.size w w' := by
  have HB := Aside0.mk (Below.refl w.heap.size w)
  have H : ((spec_validShape.f a0 a1 1).bind fun t137 => (if t137 = true then ((spec_inRange.f a2 0 6).bind fun t138 => (if t138 = true then ((spec_passSize.f a0 a1 a2).bind fun bt139 => (some (bt139.1, bt139.2))) else (some ((-1), (-1))))) else (some ((-1), (-1))))) = some (r1, r2) := h
  clear h
  replace H := Option.bind_eq_some_iff.mp H
  obtain ⟨t137, A40, H⟩ := H
  replace H : (if t137 = true then ((spec_inRange.f a2 0 6).bind fun t138 => (if t138 = true then ((spec_passSize.f a0 a1 a2).bind fun bt139 => (some (bt139.1, bt139.2))) else (some ((-1), (-1))))) else (some ((-1), (-1)))) = some (r1, r2) := H
  have A4 := Aside0.mk A40
  clear A40
  by_cases c5 : t137 = true
  · subst c5
    have H1 : ((spec_inRange.f a2 0 6).bind fun t138 => (if t138 = true then ((spec_passSize.f a0 a1 a2).bind fun bt139 => (some (bt139.1, bt139.2))) else (some ((-1), (-1))))) = some (r1, r2) := by rw [if_pos rfl] at H; exact H
    clear H
    have H := H1
    clear H1
    replace H := Option.bind_eq_some_iff.mp H
    obtain ⟨t138, A60, H⟩ := H
    replace H : (if t138 = true then ((spec_passSize.f a0 a1 a2).bind fun bt139 => (some (bt139.1, bt139.2))) else (some ((-1), (-1)))) = some (r1, r2) := H
    have A6 := Aside0.mk A60
    clear A60
    by_cases c7 : t138 = true
    · subst c7
      have H1 : ((spec_passSize.f a0 a1 a2).bind fun bt139 => (some (bt139.1, bt139.2))) = some (r1, r2) := by rw [if_pos rfl] at H; exact H
      clear H
      have H := H1
      clear H1
      replace H := Option.bind_eq_some_iff.mp H
      obtain ⟨⟨t139, t140⟩, A80, H⟩ := H
      replace H : (some (t139, t140)) = some (r1, r2) := H
      have A8 := Aside0.mk A80
      clear A80
      simp only [Option.some.injEq, Prod.mk.injEq] at H
      obtain ⟨rfl, rfl⟩ := H
      go_enter Try.func10, Try.ntmps10
      go_wp2_with (first | ((with_reducible refine gate_callee (f := 35) rfl ?_); refine goesL_ (some 10) rfl rfl Try.func35 (by kernel_rfl) rfl #[.int .i64 a0, .int .i64 a1, .int .i64 1] rfl B.am ?_; (with_reducible refine (spec_validShape.calls a0 a1 1 true _ A4.out).mono ?_); rintro e w' ⟨rfl, ⟨nd, rfl⟩⟩; refine ⟨_, rfl, ?_⟩) | (go_at_call 36; (with_reducible refine (spec_inRange.calls a2 0 6 true _ A6.out).mono ?_); rintro e w' ⟨rfl, ⟨nd, rfl⟩⟩) | ((with_reducible refine gate_callee (f := 37) rfl ?_); refine goesL_ (some 20) rfl rfl Try.func37 (by kernel_rfl) rfl #[.int .i64 a0, .int .i64 a1, .int .i64 a2] rfl B.am ?_; (with_reducible refine (spec_passSize.calls a0 a1 a2 t139 t140 _ A8.out).mono ?_); rintro e w9 ⟨rfl, hb⟩; refine ⟨_, rfl, ?_⟩; have n0_ := Aside0.mk (below_step (B.bl HB) hb); clear HB; have HB := n0_; clear n0_; (try clear hb); (try clear hb2); (try clear hk); (try clear hi)))
      go_ret2
      exact ⟨by first | rfl | (simp [errW_none, errW_some] <;> rfl) | (simp [*, errW_none, errW_some] <;> rfl), B.bl HB⟩
    replace c7 := Bool.eq_false_iff.mpr c7
    subst c7
    have H1 : (some ((-1), (-1))) = some (r1, r2) := by rw [if_neg (show ¬ (false = true) by decide)] at H; exact H
    clear H
    have H := H1
    clear H1
    simp only [Option.some.injEq, Prod.mk.injEq] at H
    obtain ⟨rfl, rfl⟩ := H
    go_enter Try.func10, Try.ntmps10
    go_wp2_with (first | ((with_reducible refine gate_callee (f := 35) rfl ?_); refine goesL_ (some 10) rfl rfl Try.func35 (by kernel_rfl) rfl #[.int .i64 a0, .int .i64 a1, .int .i64 1] rfl B.am ?_; (with_reducible refine (spec_validShape.calls a0 a1 1 true _ A4.out).mono ?_); rintro e w' ⟨rfl, ⟨nd, rfl⟩⟩; refine ⟨_, rfl, ?_⟩) | (go_at_call 36; (with_reducible refine (spec_inRange.calls a2 0 6 false _ A6.out).mono ?_); rintro e w' ⟨rfl, ⟨nd, rfl⟩⟩))
    go_ret2
    exact ⟨by first | rfl | (simp [errW_none, errW_some] <;> rfl) | (simp [*, errW_none, errW_some] <;> rfl), B.bl HB⟩
  replace c5 := Bool.eq_false_iff.mpr c5
  subst c5
  have H1 : (some ((-1), (-1))) = some (r1, r2) := by rw [if_neg (show ¬ (false = true) by decide)] at H; exact H
  clear H
  have H := H1
  clear H1
  simp only [Option.some.injEq, Prod.mk.injEq] at H
  obtain ⟨rfl, rfl⟩ := H
  go_enter Try.func10, Try.ntmps10
  go_wp2_with (first | ((with_reducible refine gate_callee (f := 35) rfl ?_); refine goesL_ (some 10) rfl rfl Try.func35 (by kernel_rfl) rfl #[.int .i64 a0, .int .i64 a1, .int .i64 1] rfl B.am ?_; (with_reducible refine (spec_validShape.calls a0 a1 1 false _ A4.out).mono ?_); rintro e w' ⟨rfl, ⟨nd, rfl⟩⟩; refine ⟨_, rfl, ?_⟩))
  go_ret2
  exact ⟨by first | rfl | (simp [errW_none, errW_some] <;> rfl) | (simp [*, errW_none, errW_some] <;> rfl), B.bl HB⟩

/-! ### laws_equalImage: function 16 -/
def laws_equalImage.f (k : Nat) (a0_0 : Int) (a0_1 : Int) (a0_2 : Int) (l0_3 : List Int) (a1_0 : Int) (a1_1 : Int) (a1_2 : Int) (l1_3 : List Int) : Option (Bool) := if a0_0 = a1_0 then (if a0_1 = a1_1 then (if a0_2 = a1_2 then ((laws_equalInts.f k l0_3 l1_3).bind fun t433 => (some t433)) else (some false)) else (some false)) else (some false)
theorem laws_equalImage.mono : ∀ a0 a1 a2 a3 a4 a5 a6 a7 k, LeO (laws_equalImage.f k a0 a1 a2 a3 a4 a5 a6 a7) (laws_equalImage.f (k + 1) a0 a1 a2 a3 a4 a5 a6 a7) := by
  intro a0 a1 a2 a3 a4 a5 a6 a7 k
  unfold laws_equalImage.f
  repeat' first
      | (with_reducible exact laws_equalInts.mono _ _ _)
      | (with_reducible exact LeO.refl _)
      | (with_reducible exact LeO.none _)
      | (with_reducible refine LeO.ite ?_ ?_)
      | (with_reducible refine LeO.bind ?_ (fun _ => ?_))
      | exact laws_equalInts.mono _ _ _
      | exact LeO.none _
      | refine LeO.ite ?_ ?_
      | refine LeO.bind ?_ (fun _ => ?_)
set_option maxHeartbeats 8000000 in
set_option maxRecDepth 100000 in
theorem laws_equalImage.calls (k : Nat) (a0_0 : Int) (a0_1 : Int) (a0_2 : Int) (A0_3 : Option Addr) (c0_3 : Nat) (l0_3 : List Int) (a1_0 : Int) (a1_1 : Int) (a1_2 : Int) (A1_3 : Option Addr) (c1_3 : Nat) (l1_3 : List Int) (r : Bool) (w : World) (hr0_3 : Kd.C (Kd.int .i64) w A0_3 l0_3.length l0_3) (hc0_3 : l0_3.length ≤ c0_3) (hr1_3 : Kd.C (Kd.int .i64) w A1_3 l1_3.length l1_3) (hc1_3 : l1_3.length ≤ c1_3) (h : laws_equalImage.f k a0_0 a0_1 a0_2 l0_3 a1_0 a1_1 a1_2 l1_3 = some r) :
    Calls Try.prog 16 #[.agg #[.int .i64 a0_0, .int .i64 a0_1, .int .i64 a0_2, .slice A0_3 l0_3.length c0_3], .agg #[.int .i64 a1_0, .int .i64 a1_1, .int .i64 a1_2, .slice A1_3 l1_3.length c1_3]] w fun e w' => e = .returned (.bool r) ∧ Below w.heap.size w w' := by
  have hu34 := Try.underlying34
  have HR0_3 := Aside0.mk hr0_3
  have HC0_3 := Aside0.mk hc0_3
  clear hr0_3 hc0_3
  have HR1_3 := Aside0.mk hr1_3
  have HC1_3 := Aside0.mk hc1_3
  clear hr1_3 hc1_3
  have HB := Aside0.mk (Below.refl w.heap.size w)
  have H : (if a0_0 = a1_0 then (if a0_1 = a1_1 then (if a0_2 = a1_2 then ((laws_equalInts.f k l0_3 l1_3).bind fun t433 => (some t433)) else (some false)) else (some false)) else (some false)) = some r := h
  clear h
  by_cases c3 : a0_0 = a1_0
  · rw [if_pos c3] at H
    have c3b0 : (a0_0 == a1_0) = true := beq_iff_eq.mpr c3
    have c3b1 : (a0_0 != a1_0) = false := bne_eq_false_iff_eq.mpr c3
    clear c3
    by_cases c4 : a0_1 = a1_1
    · rw [if_pos c4] at H
      have c4b0 : (a0_1 == a1_1) = true := beq_iff_eq.mpr c4
      have c4b1 : (a0_1 != a1_1) = false := bne_eq_false_iff_eq.mpr c4
      clear c4
      by_cases c5 : a0_2 = a1_2
      · rw [if_pos c5] at H
        have c5b0 : (a0_2 == a1_2) = true := beq_iff_eq.mpr c5
        have c5b1 : (a0_2 != a1_2) = false := bne_eq_false_iff_eq.mpr c5
        clear c5
        replace H := Option.bind_eq_some_iff.mp H
        obtain ⟨t433, A60, H⟩ := H
        replace H : (some t433) = some r := H
        have A6 := Aside0.mk A60
        clear A60
        obtain rfl := Option.some.inj H
        simp only [Option.some.injEq, Prod.mk.injEq] at H
        obtain ⟨rfl⟩ := H
        go_enter Try.func16, Try.ntmps16
        go_wp2_with (first | ((with_reducible refine gate_dst (N := 2) rfl ?_); refine box_event ?hg (N := 2) ?hd (cs := #[.int .i64 a0_0, .int .i64 a0_1, .int .i64 a0_2, .slice A0_3 l0_3.length c0_3]) (t := 34) ?hr ?_; (case hd => rfl); (case hg => rfl); (case hr => first | (go_simp; done) | (go_simp; rfl)); intro gb431 hg w7 hbox hb; have n0_ := Aside0.mk (below_step (B.bl HB) hb); have n1_ := Aside0.mk (hbox); have n2_ := Aside0.mk (B.nle hg (below_size (B.bl HB))); have n3_ := Aside0.mk (B.nle hg (below_size (B.bl HB))); clear HB; have HB := n0_; have BK431 := n1_; have GW431 := n2_; have GE431 := n3_; clear n0_ n1_ n2_ n3_; clear hb hbox hg) | ((with_reducible refine gate_dst (N := 3) rfl ?_); refine box_event ?hg (N := 3) ?hd (cs := #[.int .i64 a1_0, .int .i64 a1_1, .int .i64 a1_2, .slice A1_3 l1_3.length c1_3]) (t := 34) ?hr ?_; (case hd => rfl); (case hg => rfl); (case hr => first | (go_simp; done) | (go_simp; rfl)); intro gb432 hg w8 hbox hb; have n0_ := Aside0.mk (blk_below (B.kb BK431) hb); have n1_ := Aside0.mk (below_step (B.bl HB) hb); have n2_ := Aside0.mk (hbox); have n3_ := Aside0.mk (B.nle hg (below_size (B.bl HB))); have n4_ := Aside0.mk (B.nle hg (below_size (B.bl HB))); have n5_ := Aside0.mk (B.nlt hg (blk_lt (B.kb BK431))); have n6_ := Aside0.mk (B.ngt hg (blk_lt (B.kb BK431))); clear BK431 HB; have BK431 := n0_; have HB := n1_; have BK432 := n2_; have GW432 := n3_; have GE432 := n4_; have NB431_432 := n5_; have NB432_431 := n6_; clear n0_ n1_ n2_ n3_ n4_ n5_ n6_; clear hb hbox hg; have hnb9 := NB431_432.out; have hnc9 := NB432_431.out; have hcz10_0 : w8.cell? ⟨gb431, 0, none⟩ = some (.int .i64 a0_0) := B.bc BK431 0; have hcz10_1 : w8.cell? ⟨gb431, 1, none⟩ = some (.int .i64 a0_1) := B.bc BK431 1; have hcz10_2 : w8.cell? ⟨gb431, 2, none⟩ = some (.int .i64 a0_2) := B.bc BK431 2; have hcz10_3 : w8.cell? ⟨gb431, 3, none⟩ = some (.slice A0_3 l0_3.length c0_3) := B.bc BK431 3; have hfz10_0 := blk_frozen BK431.out 0; have hfz10_1 := blk_frozen BK431.out 1; have hfz10_2 := blk_frozen BK431.out 2; have hfz10_3 := blk_frozen BK431.out 3; have hcz11_0 : w8.cell? ⟨gb432, 0, none⟩ = some (.int .i64 a1_0) := B.bc BK432 0; have hcz11_1 : w8.cell? ⟨gb432, 1, none⟩ = some (.int .i64 a1_1) := B.bc BK432 1; have hcz11_2 : w8.cell? ⟨gb432, 2, none⟩ = some (.int .i64 a1_2) := B.bc BK432 2; have hcz11_3 : w8.cell? ⟨gb432, 3, none⟩ = some (.slice A1_3 l1_3.length c1_3) := B.bc BK432 3; have hfz11_0 := blk_frozen BK432.out 0; have hfz11_1 := blk_frozen BK432.out 1; have hfz11_2 := blk_frozen BK432.out 2; have hfz11_3 := blk_frozen BK432.out 3) | (go_at_call 17; (with_reducible refine (laws_equalInts.calls k _ _ l0_3 _ _ l1_3 t433 _ ?side1 ?side2 ?side3 ?side4 A6.out).mono ?_); (case side1 => exact B.kc (Kd.C_below HR0_3.out HB.out)); (case side2 => exact HC0_3.out); (case side3 => exact B.kc (Kd.C_below HR1_3.out HB.out)); (case side4 => exact HC1_3.out); rintro e w' ⟨rfl, ⟨nd, rfl⟩⟩))
        go_ret
        exact ⟨by first | rfl | (simp [errW_none, errW_some] <;> rfl) | (simp [*, errW_none, errW_some] <;> rfl), B.bl HB⟩
      rw [if_neg c5] at H
      have c5b0 : (a0_2 == a1_2) = false := beq_eq_false_iff_ne.mpr c5
      have c5b1 : (a0_2 != a1_2) = true := bne_iff_ne.mpr c5
      obtain rfl := Option.some.inj H
      simp only [Option.some.injEq, Prod.mk.injEq] at H
      obtain ⟨rfl⟩ := H
      go_enter Try.func16, Try.ntmps16
      go_wp2_with (first | ((with_reducible refine gate_dst (N := 2) rfl ?_); refine box_event ?hg (N := 2) ?hd (cs := #[.int .i64 a0_0, .int .i64 a0_1, .int .i64 a0_2, .slice A0_3 l0_3.length c0_3]) (t := 34) ?hr ?_; (case hd => rfl); (case hg => rfl); (case hr => first | (go_simp; done) | (go_simp; rfl)); intro gb431 hg w12 hbox hb; have n0_ := Aside0.mk (below_step (B.bl HB) hb); have n1_ := Aside0.mk (hbox); have n2_ := Aside0.mk (B.nle hg (below_size (B.bl HB))); have n3_ := Aside0.mk (B.nle hg (below_size (B.bl HB))); clear HB; have HB := n0_; have BK431 := n1_; have GW431 := n2_; have GE431 := n3_; clear n0_ n1_ n2_ n3_; clear hb hbox hg) | ((with_reducible refine gate_dst (N := 3) rfl ?_); refine box_event ?hg (N := 3) ?hd (cs := #[.int .i64 a1_0, .int .i64 a1_1, .int .i64 a1_2, .slice A1_3 l1_3.length c1_3]) (t := 34) ?hr ?_; (case hd => rfl); (case hg => rfl); (case hr => first | (go_simp; done) | (go_simp; rfl)); intro gb432 hg w13 hbox hb; have n0_ := Aside0.mk (blk_below (B.kb BK431) hb); have n1_ := Aside0.mk (below_step (B.bl HB) hb); have n2_ := Aside0.mk (hbox); have n3_ := Aside0.mk (B.nle hg (below_size (B.bl HB))); have n4_ := Aside0.mk (B.nle hg (below_size (B.bl HB))); have n5_ := Aside0.mk (B.nlt hg (blk_lt (B.kb BK431))); have n6_ := Aside0.mk (B.ngt hg (blk_lt (B.kb BK431))); clear BK431 HB; have BK431 := n0_; have HB := n1_; have BK432 := n2_; have GW432 := n3_; have GE432 := n4_; have NB431_432 := n5_; have NB432_431 := n6_; clear n0_ n1_ n2_ n3_ n4_ n5_ n6_; clear hb hbox hg; have hnb14 := NB431_432.out; have hnc14 := NB432_431.out; have hcz15_0 : w13.cell? ⟨gb431, 0, none⟩ = some (.int .i64 a0_0) := B.bc BK431 0; have hcz15_1 : w13.cell? ⟨gb431, 1, none⟩ = some (.int .i64 a0_1) := B.bc BK431 1; have hcz15_2 : w13.cell? ⟨gb431, 2, none⟩ = some (.int .i64 a0_2) := B.bc BK431 2; have hcz15_3 : w13.cell? ⟨gb431, 3, none⟩ = some (.slice A0_3 l0_3.length c0_3) := B.bc BK431 3; have hfz15_0 := blk_frozen BK431.out 0; have hfz15_1 := blk_frozen BK431.out 1; have hfz15_2 := blk_frozen BK431.out 2; have hfz15_3 := blk_frozen BK431.out 3; have hcz16_0 : w13.cell? ⟨gb432, 0, none⟩ = some (.int .i64 a1_0) := B.bc BK432 0; have hcz16_1 : w13.cell? ⟨gb432, 1, none⟩ = some (.int .i64 a1_1) := B.bc BK432 1; have hcz16_2 : w13.cell? ⟨gb432, 2, none⟩ = some (.int .i64 a1_2) := B.bc BK432 2; have hcz16_3 : w13.cell? ⟨gb432, 3, none⟩ = some (.slice A1_3 l1_3.length c1_3) := B.bc BK432 3; have hfz16_0 := blk_frozen BK432.out 0; have hfz16_1 := blk_frozen BK432.out 1; have hfz16_2 := blk_frozen BK432.out 2; have hfz16_3 := blk_frozen BK432.out 3))
      go_ret
      exact ⟨by first | rfl | (simp [errW_none, errW_some] <;> rfl) | (simp [*, errW_none, errW_some] <;> rfl), B.bl HB⟩
    rw [if_neg c4] at H
    have c4b0 : (a0_1 == a1_1) = false := beq_eq_false_iff_ne.mpr c4
    have c4b1 : (a0_1 != a1_1) = true := bne_iff_ne.mpr c4
    obtain rfl := Option.some.inj H
    simp only [Option.some.injEq, Prod.mk.injEq] at H
    obtain ⟨rfl⟩ := H
    go_enter Try.func16, Try.ntmps16
    go_wp2_with (first | ((with_reducible refine gate_dst (N := 2) rfl ?_); refine box_event ?hg (N := 2) ?hd (cs := #[.int .i64 a0_0, .int .i64 a0_1, .int .i64 a0_2, .slice A0_3 l0_3.length c0_3]) (t := 34) ?hr ?_; (case hd => rfl); (case hg => rfl); (case hr => first | (go_simp; done) | (go_simp; rfl)); intro gb431 hg w17 hbox hb; have n0_ := Aside0.mk (below_step (B.bl HB) hb); have n1_ := Aside0.mk (hbox); have n2_ := Aside0.mk (B.nle hg (below_size (B.bl HB))); have n3_ := Aside0.mk (B.nle hg (below_size (B.bl HB))); clear HB; have HB := n0_; have BK431 := n1_; have GW431 := n2_; have GE431 := n3_; clear n0_ n1_ n2_ n3_; clear hb hbox hg) | ((with_reducible refine gate_dst (N := 3) rfl ?_); refine box_event ?hg (N := 3) ?hd (cs := #[.int .i64 a1_0, .int .i64 a1_1, .int .i64 a1_2, .slice A1_3 l1_3.length c1_3]) (t := 34) ?hr ?_; (case hd => rfl); (case hg => rfl); (case hr => first | (go_simp; done) | (go_simp; rfl)); intro gb432 hg w18 hbox hb; have n0_ := Aside0.mk (blk_below (B.kb BK431) hb); have n1_ := Aside0.mk (below_step (B.bl HB) hb); have n2_ := Aside0.mk (hbox); have n3_ := Aside0.mk (B.nle hg (below_size (B.bl HB))); have n4_ := Aside0.mk (B.nle hg (below_size (B.bl HB))); have n5_ := Aside0.mk (B.nlt hg (blk_lt (B.kb BK431))); have n6_ := Aside0.mk (B.ngt hg (blk_lt (B.kb BK431))); clear BK431 HB; have BK431 := n0_; have HB := n1_; have BK432 := n2_; have GW432 := n3_; have GE432 := n4_; have NB431_432 := n5_; have NB432_431 := n6_; clear n0_ n1_ n2_ n3_ n4_ n5_ n6_; clear hb hbox hg; have hnb19 := NB431_432.out; have hnc19 := NB432_431.out; have hcz20_0 : w18.cell? ⟨gb431, 0, none⟩ = some (.int .i64 a0_0) := B.bc BK431 0; have hcz20_1 : w18.cell? ⟨gb431, 1, none⟩ = some (.int .i64 a0_1) := B.bc BK431 1; have hcz20_2 : w18.cell? ⟨gb431, 2, none⟩ = some (.int .i64 a0_2) := B.bc BK431 2; have hcz20_3 : w18.cell? ⟨gb431, 3, none⟩ = some (.slice A0_3 l0_3.length c0_3) := B.bc BK431 3; have hfz20_0 := blk_frozen BK431.out 0; have hfz20_1 := blk_frozen BK431.out 1; have hfz20_2 := blk_frozen BK431.out 2; have hfz20_3 := blk_frozen BK431.out 3; have hcz21_0 : w18.cell? ⟨gb432, 0, none⟩ = some (.int .i64 a1_0) := B.bc BK432 0; have hcz21_1 : w18.cell? ⟨gb432, 1, none⟩ = some (.int .i64 a1_1) := B.bc BK432 1; have hcz21_2 : w18.cell? ⟨gb432, 2, none⟩ = some (.int .i64 a1_2) := B.bc BK432 2; have hcz21_3 : w18.cell? ⟨gb432, 3, none⟩ = some (.slice A1_3 l1_3.length c1_3) := B.bc BK432 3; have hfz21_0 := blk_frozen BK432.out 0; have hfz21_1 := blk_frozen BK432.out 1; have hfz21_2 := blk_frozen BK432.out 2; have hfz21_3 := blk_frozen BK432.out 3))
    go_ret
    exact ⟨by first | rfl | (simp [errW_none, errW_some] <;> rfl) | (simp [*, errW_none, errW_some] <;> rfl), B.bl HB⟩
  rw [if_neg c3] at H
  have c3b0 : (a0_0 == a1_0) = false := beq_eq_false_iff_ne.mpr c3
  have c3b1 : (a0_0 != a1_0) = true := bne_iff_ne.mpr c3
  obtain rfl := Option.some.inj H
  simp only [Option.some.injEq, Prod.mk.injEq] at H
  obtain ⟨rfl⟩ := H
  go_enter Try.func16, Try.ntmps16
  go_wp2_with (first | ((with_reducible refine gate_dst (N := 2) rfl ?_); refine box_event ?hg (N := 2) ?hd (cs := #[.int .i64 a0_0, .int .i64 a0_1, .int .i64 a0_2, .slice A0_3 l0_3.length c0_3]) (t := 34) ?hr ?_; (case hd => rfl); (case hg => rfl); (case hr => first | (go_simp; done) | (go_simp; rfl)); intro gb431 hg w22 hbox hb; have n0_ := Aside0.mk (below_step (B.bl HB) hb); have n1_ := Aside0.mk (hbox); have n2_ := Aside0.mk (B.nle hg (below_size (B.bl HB))); have n3_ := Aside0.mk (B.nle hg (below_size (B.bl HB))); clear HB; have HB := n0_; have BK431 := n1_; have GW431 := n2_; have GE431 := n3_; clear n0_ n1_ n2_ n3_; clear hb hbox hg) | ((with_reducible refine gate_dst (N := 3) rfl ?_); refine box_event ?hg (N := 3) ?hd (cs := #[.int .i64 a1_0, .int .i64 a1_1, .int .i64 a1_2, .slice A1_3 l1_3.length c1_3]) (t := 34) ?hr ?_; (case hd => rfl); (case hg => rfl); (case hr => first | (go_simp; done) | (go_simp; rfl)); intro gb432 hg w23 hbox hb; have n0_ := Aside0.mk (blk_below (B.kb BK431) hb); have n1_ := Aside0.mk (below_step (B.bl HB) hb); have n2_ := Aside0.mk (hbox); have n3_ := Aside0.mk (B.nle hg (below_size (B.bl HB))); have n4_ := Aside0.mk (B.nle hg (below_size (B.bl HB))); have n5_ := Aside0.mk (B.nlt hg (blk_lt (B.kb BK431))); have n6_ := Aside0.mk (B.ngt hg (blk_lt (B.kb BK431))); clear BK431 HB; have BK431 := n0_; have HB := n1_; have BK432 := n2_; have GW432 := n3_; have GE432 := n4_; have NB431_432 := n5_; have NB432_431 := n6_; clear n0_ n1_ n2_ n3_ n4_ n5_ n6_; clear hb hbox hg; have hnb24 := NB431_432.out; have hnc24 := NB432_431.out; have hcz25_0 : w23.cell? ⟨gb431, 0, none⟩ = some (.int .i64 a0_0) := B.bc BK431 0; have hcz25_1 : w23.cell? ⟨gb431, 1, none⟩ = some (.int .i64 a0_1) := B.bc BK431 1; have hcz25_2 : w23.cell? ⟨gb431, 2, none⟩ = some (.int .i64 a0_2) := B.bc BK431 2; have hcz25_3 : w23.cell? ⟨gb431, 3, none⟩ = some (.slice A0_3 l0_3.length c0_3) := B.bc BK431 3; have hfz25_0 := blk_frozen BK431.out 0; have hfz25_1 := blk_frozen BK431.out 1; have hfz25_2 := blk_frozen BK431.out 2; have hfz25_3 := blk_frozen BK431.out 3; have hcz26_0 : w23.cell? ⟨gb432, 0, none⟩ = some (.int .i64 a1_0) := B.bc BK432 0; have hcz26_1 : w23.cell? ⟨gb432, 1, none⟩ = some (.int .i64 a1_1) := B.bc BK432 1; have hcz26_2 : w23.cell? ⟨gb432, 2, none⟩ = some (.int .i64 a1_2) := B.bc BK432 2; have hcz26_3 : w23.cell? ⟨gb432, 3, none⟩ = some (.slice A1_3 l1_3.length c1_3) := B.bc BK432 3; have hfz26_0 := blk_frozen BK432.out 0; have hfz26_1 := blk_frozen BK432.out 1; have hfz26_2 := blk_frozen BK432.out 2; have hfz26_3 := blk_frozen BK432.out 3))
  go_ret
  exact ⟨by first | rfl | (simp [errW_none, errW_some] <;> rfl) | (simp [*, errW_none, errW_some] <;> rfl), B.bl HB⟩

/-! ### spec_DrawPassData: function 28 -/
def spec_DrawPassData.f (k : Nat) (l0 : List Int) : Option (Int × Int × Int × List Int × Int) := (spec_newReader.f l0).bind fun bt499 => ((spec_anyImage.f k bt499.1 bt499.2).bind fun bt502 => ((spec_reader_pick.f k bt499.1 bt502.2.2.2.2 9).bind fun bt510 => (some (bt502.1, bt502.2.1, bt502.2.2.1, bt502.2.2.2.1, wrap64 (bt510.1 - 1)))))
theorem spec_DrawPassData.mono : ∀ a0 k, LeO (spec_DrawPassData.f k a0) (spec_DrawPassData.f (k + 1) a0) := by
  intro a0 k
  unfold spec_DrawPassData.f
  repeat' first
      | (with_reducible exact spec_anyImage.mono _ _ _)
      | (with_reducible exact spec_reader_pick.mono _ _ _ _)
      | (with_reducible exact LeO.refl _)
      | (with_reducible exact LeO.none _)
      | (with_reducible refine LeO.ite ?_ ?_)
      | (with_reducible refine LeO.bind ?_ (fun _ => ?_))
      | exact spec_anyImage.mono _ _ _
      | exact spec_reader_pick.mono _ _ _ _
      | exact LeO.none _
      | refine LeO.ite ?_ ?_
      | refine LeO.bind ?_ (fun _ => ?_)
set_option maxHeartbeats 8000000 in
set_option maxRecDepth 100000 in
theorem spec_DrawPassData.calls (k : Nat) (A0 : Option Addr) (c0 : Nat) (l0 : List Int) (r1 : Int) (r2 : Int) (r3 : Int) (r4 : List Int) (r5 : Int) (w : World) (hr0 : Kd.C (Kd.int .u8) w A0 l0.length l0) (hc0 : l0.length ≤ c0) (h : spec_DrawPassData.f k l0 = some (r1, r2, r3, r4, r5)) :
    Calls Try.prog 28 #[.slice A0 l0.length c0] w fun e w' => ∃ v3_ : Value, e = .returned (.tuple #[.agg #[.int .i64 r1, .int .i64 r2, .int .i64 r3, v3_], .int .i64 r5]) ∧ Kd.Q (Kd.int .i64) 3 w' w.heap.size (fun _ => True) v3_ r4 ∧ Below w.heap.size w w' := by
  have hu34 := Try.underlying34
  have HR0 := Aside0.mk hr0
  have HC0 := Aside0.mk hc0
  clear hr0 hc0
  have HB := Aside0.mk (Below.refl w.heap.size w)
  have H : ((spec_newReader.f l0).bind fun bt499 => ((spec_anyImage.f k bt499.1 bt499.2).bind fun bt502 => ((spec_reader_pick.f k bt499.1 bt502.2.2.2.2 9).bind fun bt510 => (some (bt502.1, bt502.2.1, bt502.2.2.1, bt502.2.2.2.1, wrap64 (bt510.1 - 1)))))) = some (r1, r2, r3, r4, r5) := h
  clear h
  replace H := Option.bind_eq_some_iff.mp H
  obtain ⟨⟨t499, t500⟩, A20, H⟩ := H
  replace H : ((spec_anyImage.f k t499 t500).bind fun bt502 => ((spec_reader_pick.f k t499 bt502.2.2.2.2 9).bind fun bt510 => (some (bt502.1, bt502.2.1, bt502.2.2.1, bt502.2.2.2.1, wrap64 (bt510.1 - 1))))) = some (r1, r2, r3, r4, r5) := H
  have A2 := Aside0.mk A20
  clear A20
  replace H := Option.bind_eq_some_iff.mp H
  obtain ⟨⟨t502, t503, t504, t505, t508⟩, A30, H⟩ := H
  replace H : ((spec_reader_pick.f k t499 t508 9).bind fun bt510 => (some (t502, t503, t504, t505, wrap64 (bt510.1 - 1)))) = some (r1, r2, r3, r4, r5) := H
  have A3 := Aside0.mk A30
  clear A30
  replace H := Option.bind_eq_some_iff.mp H
  obtain ⟨⟨t510, t511⟩, A40, H⟩ := H
  replace H : (some (t502, t503, t504, t505, wrap64 (t510 - 1))) = some (r1, r2, r3, r4, r5) := H
  have A4 := Aside0.mk A40
  clear A40
  simp only [Option.some.injEq, Prod.mk.injEq] at H
  obtain ⟨rfl, rfl, rfl, rfl, rfl⟩ := H
  go_enter Try.func28, Try.ntmps28
  try go_wp2_with (first | ((with_reducible refine gate_dst (N := 2) rfl ?_); refine box_event ?hg (N := 2) ?hd (cs := #[.int .i64 0, .int .i64 0, .int .i64 0, .slice none 0 0]) (t := 34) ?hr ?_; (case hd => rfl); (case hg => rfl); (case hr => first | (go_simp; done) | (go_simp; rfl)); intro gb498 hg w5 hbox hb; have n0_ := Aside0.mk (below_step (B.bl HB) hb); have n1_ := Aside0.mk (hbox); have n2_ := Aside0.mk (B.nle hg (below_size (B.bl HB))); have n3_ := Aside0.mk (B.nle hg (below_size (B.bl HB))); clear HB; have HB := n0_; have BK498 := n1_; have GW498 := n2_; have GE498 := n3_; clear n0_ n1_ n2_ n3_; clear hb hbox hg) | ((with_reducible refine gate_callee (f := 42) rfl ?_); refine goesL_ (some 7) rfl rfl Try.func42 (by kernel_rfl) rfl #[.slice A0 l0.length c0] rfl B.am ?_; (with_reducible refine (spec_newReader.calls _ _ l0 t499 t500 w _ ?side1 ?side2 ?side3 A2.out).mono ?_); (case side1 => exact B.bl HB); (case side2 => exact HR0.out); (case side3 => exact HC0.out); rintro e w6 ⟨g501, rfl, hi, hb, hb2⟩; refine ⟨_, rfl, ?_⟩; have n0_ := Aside0.mk (blk_below (B.kb BK498) hb2); have n1_ := Aside0.mk (hb); have n2_ := Aside0.mk (hi); have n3_ := Aside0.mk (IsS74.ne_blk hi (blk_below (B.kb BK498) hb2) (by decide)); have n4_ := Aside0.mk (Ne.symm (IsS74.ne_blk hi (blk_below (B.kb BK498) hb2) (by decide))); clear BK498 HB; have BK498 := n0_; have HB := n1_; have HI501 := n2_; have NB501_498 := n3_; have NB498_501 := n4_; clear n0_ n1_ n2_ n3_ n4_; (try clear hb); (try clear hb2); (try clear hk); (try clear hi)) | ((with_reducible refine gate_callee (f := 44) rfl ?_); refine goesL_ (some 9) rfl rfl Try.func44 (by kernel_rfl) rfl #[.pointer (some ⟨g501, 0, none⟩)] rfl B.am ?_; (with_reducible refine (spec_anyImage.calls k g501 t499 t500 t502 t503 t504 t505 t508 w _ ?side1 ?side2 A3.out).mono ?_); (case side1 => exact B.st HI501); (case side2 => exact B.bs HB); rintro e w7 ⟨v506, rfl, ho0, hi, hb, hk⟩; refine ⟨_, rfl, ?_⟩; have n0_ := Aside0.mk (KeepBut.blk hk (g' := gb498) (o := .cells #[.int .i64 0, .int .i64 0, .int .i64 0, .slice none 0 0] 34 (0, 0)) (B.kb BK498) NB498_501.out (by simp)); have n1_ := Aside0.mk (Kd.Q_lower ho0 (below_size (B.bs HB))); have n2_ := Aside0.mk (hb); have n3_ := Aside0.mk (hi); clear BK498 HB HI501; have BK498 := n0_; have HO507 := n1_; have HB := n2_; have HI501 := n3_; clear n0_ n1_ n2_ n3_; (try clear hb); (try clear hb2); (try clear hk); (try clear hi); (try clear ho0)) | ((with_reducible refine gate_dst (N := 5) rfl ?_); refine box_event ?hg (N := 5) ?hd (cs := #[.int .i64 0, .int .i64 0, .int .i64 0, .slice none 0 0]) (t := 34) ?hr ?_; (case hd => rfl); (case hg => rfl); (case hr => first | (go_simp; done) | (go_simp; rfl)); intro gb509 hg w8 hbox hb; have n0_ := Aside0.mk (Kd.Q_below (B.kq HO507) hb); have n1_ := Aside0.mk (blk_below (B.kb BK498) hb); have n2_ := Aside0.mk (IsS74.below (B.st HI501) hb); have n3_ := Aside0.mk (below_step (B.bs HB) hb); have n4_ := Aside0.mk (hbox); have n5_ := Aside0.mk ((by rw [hg]; exact (below_size (B.bs HB)) : w.heap.size ≤ gb509)); have n6_ := Aside0.mk ((by rw [hg]; exact (below_size (B.bs HB)) : w.heap.size ≤ gb509)); have n7_ := Aside0.mk (B.nlt hg (blk_lt (B.kb BK498))); have n8_ := Aside0.mk (B.ngt hg (blk_lt (B.kb BK498))); have n9_ := Aside0.mk ((by rw [hg]; exact Nat.ne_of_lt (IsS74.lt (show IsS74 w _ g501 t499 t508 from B.st HI501)) : g501 ≠ gb509)); have n10_ := Aside0.mk ((by rw [hg]; exact Nat.ne_of_gt (IsS74.lt (show IsS74 w _ g501 t499 t508 from B.st HI501)) : gb509 ≠ g501)); clear HO507 BK498 HI501 HB; have HO507 := n0_; have BK498 := n1_; have HI501 := n2_; have HB := n3_; have BK509 := n4_; have GW509 := n5_; have GE509 := n6_; have NB498_509 := n7_; have NB509_498 := n8_; have NB501_509 := n9_; have NB509_501 := n10_; clear n0_ n1_ n2_ n3_ n4_ n5_ n6_ n7_ n8_ n9_ n10_; clear hb hbox hg; have hnb9 := NB509_498.out; have hnc9 := NB498_509.out; have hnb10 := NB509_501.out; have hnc10 := NB501_509.out; have hcz11_0 : w8.cell? ⟨gb509, 0, none⟩ = some (.int .i64 0) := B.bc BK509 0; have hcz11_1 : w8.cell? ⟨gb509, 1, none⟩ = some (.int .i64 0) := B.bc BK509 1; have hcz11_2 : w8.cell? ⟨gb509, 2, none⟩ = some (.int .i64 0) := B.bc BK509 2; have hcz11_3 : w8.cell? ⟨gb509, 3, none⟩ = some (.slice none 0 0) := B.bc BK509 3; have hfz11_0 := blk_frozen BK509.out 0; have hfz11_1 := blk_frozen BK509.out 1; have hfz11_2 := blk_frozen BK509.out 2; have hfz11_3 := blk_frozen BK509.out 3; obtain ⟨Ao12, co12, eo12, _⟩ := Kd.Q_slice HO507.out; subst eo12))
  have n0_ : Aside0 (Kd.Q (Kd.int .i64) 3 ((((w8.setCell ⟨gb509, 0, none⟩ (.int .i64 t502)).setCell ⟨gb509, 1, none⟩ (.int .i64 t503)).setCell ⟨gb509, 2, none⟩ (.int .i64 t504)).setCell ⟨gb509, 3, none⟩ (.slice Ao12 t505.length co12)) w.heap.size (fun _ => True) (.slice Ao12 t505.length co12) t505) := ⟨by (with_reducible repeat (first | apply Kd.Q_alloc | apply Kd.Q_drewN | apply Kd.Q_drew)); exact Kd.Q_mono (Kd.Q_far (p := ⟨gb509, 3, none⟩) (Kd.Q_far (p := ⟨gb509, 2, none⟩) (Kd.Q_far (p := ⟨gb509, 1, none⟩) (Kd.Q_far (p := ⟨gb509, 0, none⟩) (Kd.Q_types HO507.out BK509.out (by decide)) (fun _ hk => hk.2) (.int .i64 t502)) (fun _ hk => hk.2) (.int .i64 t503)) (fun _ hk => hk.2) (.int .i64 t504)) (fun _ hk => hk.2) (.slice Ao12 t505.length co12)) (fun _ hk => trivial)⟩
  have n1_ : Aside0 (((((w8.setCell ⟨gb509, 0, none⟩ (.int .i64 t502)).setCell ⟨gb509, 1, none⟩ (.int .i64 t503)).setCell ⟨gb509, 2, none⟩ (.int .i64 t504)).setCell ⟨gb509, 3, none⟩ (.slice Ao12 t505.length co12)).heap[gb498]? = some (.cells #[.int .i64 0, .int .i64 0, .int .i64 0, .slice none 0 0] 34 (0, 0))) := ⟨B.kb0 (B.bf4 BK498 NB498_509)⟩
  have n2_ : Aside0 (((((w8.setCell ⟨gb509, 0, none⟩ (.int .i64 t502)).setCell ⟨gb509, 1, none⟩ (.int .i64 t503)).setCell ⟨gb509, 2, none⟩ (.int .i64 t504)).setCell ⟨gb509, 3, none⟩ (.slice Ao12 t505.length co12)).heap[gb509]? = some (.cells #[.int .i64 t502, .int .i64 t503, .int .i64 t504, .slice Ao12 t505.length co12] 34 (0, 0))) := ⟨B.kb0 (B.bp4 BK509)⟩
  have n3_ : Aside0 (IsS74 w ((((w8.setCell ⟨gb509, 0, none⟩ (.int .i64 t502)).setCell ⟨gb509, 1, none⟩ (.int .i64 t503)).setCell ⟨gb509, 2, none⟩ (.int .i64 t504)).setCell ⟨gb509, 3, none⟩ (.slice Ao12 t505.length co12)) g501 t499 t508) := ⟨B.st HI501⟩
  have n4_ : Aside0 (Below w.heap.size w ((((w8.setCell ⟨gb509, 0, none⟩ (.int .i64 t502)).setCell ⟨gb509, 1, none⟩ (.int .i64 t503)).setCell ⟨gb509, 2, none⟩ (.int .i64 t504)).setCell ⟨gb509, 3, none⟩ (.slice Ao12 t505.length co12))) := ⟨B.bs HB⟩
  (try clear HO507)
  (try clear BK498)
  (try clear BK509)
  (try clear HI501)
  (try clear HB)
  generalize ((((w8.setCell ⟨gb509, 0, none⟩ (.int .i64 t502)).setCell ⟨gb509, 1, none⟩ (.int .i64 t503)).setCell ⟨gb509, 2, none⟩ (.int .i64 t504)).setCell ⟨gb509, 3, none⟩ (.slice Ao12 t505.length co12)) = w13 at n0_ n1_ n2_ n3_ n4_ ⊢
  have HO507 := n0_
  have BK498 := n1_
  have BK509 := n2_
  have HI501 := n3_
  have HB := n4_
  clear n0_ n1_ n2_ n3_ n4_
  have n0_ := Aside0.mk (Kd.Q_drew HO507.out)
  have n1_ := Aside0.mk (blk_drew BK498.out)
  have n2_ := Aside0.mk (blk_drew BK509.out)
  have n3_ := Aside0.mk (IsS74.drew HI501.out)
  have n4_ := Aside0.mk (below_drew1 HB.out)
  clear HO507 BK498 BK509 HI501 HB
  have HO507 := n0_
  have BK498 := n1_
  have BK509 := n2_
  have HI501 := n3_
  have HB := n4_
  clear n0_ n1_ n2_ n3_ n4_
  refine start_ (n := 6) (S := fun w' => w'.cell? ⟨gb509, 0, none⟩ = some (.int .i64 t502) ∧ w'.cell? ⟨gb509, 1, none⟩ = some (.int .i64 t503) ∧ w'.cell? ⟨gb509, 2, none⟩ = some (.int .i64 t504) ∧ w'.cell? ⟨gb509, 3, none⟩ = some (.slice Ao12 t505.length co12)) (ds := []) #[false, false, false, false, false, false] (by kernel_rfl) rfl rfl ⟨B.bc BK509 0, B.bc BK509 1, B.bc BK509 2, B.bc BK509 3⟩ (fun hHeld => ?_)
  generalize w13.drew = w14 at HO507 BK498 BK509 HI501 HB hHeld ⊢
  refine pure_ (i := 1) (N := some 11) (v := ?_) (a' := ?_) #[false, true, false, false, false, false] rfl rfl (by kernel_rfl) (fun _ _ _ h => h) (Or.inl ⟨by rfl, ?_⟩) ?_ ?_
  rotate_left
  · intro w'
    go_simp
    with_reducible rfl
  rotate_left
  · simp only [Act.put, List.setIfInBounds_toArray, List.set_cons_zero, List.set_cons_succ, i64_w, i32_w]
    rfl
  refine take_ (i := 0) (N := some 10) (v := ?_) (a' := ?_) #[true, true, false, false, false, false] rfl rfl (by kernel_rfl) (fun _ _ _ h => h) (Or.inl ⟨by rfl, ?_⟩) hHeld ?_ ?_
  rotate_left
  · rintro w' ⟨s0, s1, s2, s3⟩
    go_simp
    with_reducible rfl
  rotate_left
  · simp only [Act.put, List.setIfInBounds_toArray, List.set_cons_zero, List.set_cons_succ, i64_w, i32_w]
    rfl
  refine one_ (i := 2) (N := some 12) #[true, true, true, false, false, false] rfl rfl (by kernel_rfl) (by decide) (fun K hK => ?_)
  refine goes_ Try.func43 (by kernel_rfl) rfl #[.pointer (some ⟨g501, 0, none⟩), .int .i64 9] (by rfl) rfl rfl B.am ?_
  with_reducible refine (spec_reader_pick.calls k g501 t499 t508 9 t510 t511 w _ ?side1 ?side2 A4.out).mono ?_
  (case side1 => exact B.st HI501)
  (case side2 => exact B.bs HB)
  rintro e w15 ⟨rfl, hi, hb, hk⟩
  refine ⟨_, rfl, ?_⟩
  have n0_ := Aside0.mk (KeepBut.blk hk (g' := gb498) (o := .cells #[.int .i64 0, .int .i64 0, .int .i64 0, .slice none 0 0] 34 (0, 0)) (B.kb BK498) NB498_501.out (by simp))
  have n1_ := Aside0.mk (Kd.Q_mono (Kd.Q_keep (IsS74.apartQ (show IsS74 w _ g501 t499 t508 from B.st HI501) (B.kq HO507) (by decide)) hk (fun _ h => h.2)) (fun _ h => h.1))
  have n2_ := Aside0.mk (KeepBut.blk hk (g' := gb509) (o := .cells #[.int .i64 t502, .int .i64 t503, .int .i64 t504, .slice Ao12 t505.length co12] 34 (0, 0)) (B.kb BK509) NB509_501.out (by simp))
  have n3_ := Aside0.mk (hb)
  have n4_ := Aside0.mk (hi)
  clear BK498 HO507 BK509 HB HI501
  have BK498 := n0_
  have HO507 := n1_
  have BK509 := n2_
  have HB := n3_
  have HI501 := n4_
  clear n0_ n1_ n2_ n3_ n4_
  (try clear hb)
  (try clear hb2)
  (try clear hk)
  (try clear hi)
  refine hK.out _ _ ⟨B.bc BK509 0, B.bc BK509 1, B.bc BK509 2, B.bc BK509 3⟩ (fun hHeld => ?_)
  clear hK K
  refine norm_ (a' := ?_) ?_ ?_
  rotate_left
  · show Act.put _ (some 12) _ = _
    simp only [Act.put, List.setIfInBounds_toArray, List.set_cons_zero, List.set_cons_succ, i64_w, i32_w]
    rfl
  refine pure_ (i := 3) (N := some 13) (v := ?_) (a' := ?_) #[true, true, true, true, false, false] rfl rfl (by kernel_rfl) (fun _ _ _ h => h) (Or.inl ⟨by rfl, ?_⟩) ?_ ?_
  rotate_left
  · intro w'
    go_simp
    with_reducible rfl
  rotate_left
  · simp only [Act.put, List.setIfInBounds_toArray, List.set_cons_zero, List.set_cons_succ, i64_w, i32_w]
    rfl
  refine one_ (i := 4) (N := none) #[true, true, true, true, true, false] rfl rfl (by kernel_rfl) (by decide) (fun K hK => ?_)
  have hs16 : w15.cell? ⟨gb498, 0, none⟩ = some (.int .i64 0) := B.bc BK498 0
  have hfs16 := blk_frozen BK498.out 0
  have hns16_1 := NB509_498.out
  have hms16_1 := NB498_509.out
  have hs17 : w15.cell? ⟨gb498, 1, none⟩ = some (.int .i64 0) := B.bc BK498 1
  have hfs17 := blk_frozen BK498.out 1
  have hns17_1 := NB509_498.out
  have hms17_1 := NB498_509.out
  have hs18 : w15.cell? ⟨gb498, 2, none⟩ = some (.int .i64 0) := B.bc BK498 2
  have hfs18 := blk_frozen BK498.out 2
  have hns18_1 := NB509_498.out
  have hms18_1 := NB498_509.out
  have hs19 : w15.cell? ⟨gb498, 3, none⟩ = some (.slice none 0 0) := B.bc BK498 3
  have hfs19 := blk_frozen BK498.out 3
  have hns19_1 := NB509_498.out
  have hms19_1 := NB498_509.out
  refine skip_ (w1 := ?_) (by rfl) rfl ?_ ?_
  rotate_left
  · go_simp
    rfl
  refine hK.out _ _ ⟨(B.cf4 NB509_498 hHeld.1), (B.cf4 NB509_498 hHeld.2.1), (B.cf4 NB509_498 hHeld.2.2.1), (B.cf4 NB509_498 hHeld.2.2.2)⟩ (fun hHeld => ?_)
  clear hK K
  refine pure_ (i := 5) (N := some 3) (v := ?_) (a' := ?_) #[true, true, true, true, true, true] rfl rfl (by kernel_rfl) (fun _ _ _ h => h) (Or.inl ⟨by rfl, ?_⟩) ?_ ?_
  rotate_left
  · intro w'
    go_simp
    with_reducible rfl
  rotate_left
  · simp only [Act.put, List.setIfInBounds_toArray, List.set_cons_zero, List.set_cons_succ, i64_w, i32_w]
    rfl
  refine done_ (by kernel_rfl) ?_
  try go_wp2
  refine bodyPost_ret (results_ct rfl _ _ gb498 34 #[.int .i64 t502, .int .i64 t503, .int .i64 t504, .slice Ao12 t505.length co12] (0, 0) _ rfl (B.kb0 (B.bp4 BK498)) Try.underlying34 rfl (by kernel_rfl)) rfl ?_
  exact ⟨_, by first | rfl | (simp [errW_none, errW_some] <;> rfl) | (simp [*, errW_none, errW_some] <;> rfl), by (with_reducible repeat (first | apply Kd.Q_alloc | apply Kd.Q_drewN | apply Kd.Q_drew)); exact Kd.Q_mono (Kd.Q_far (p := ⟨gb498, 3, none⟩) (Kd.Q_far (p := ⟨gb498, 2, none⟩) (Kd.Q_far (p := ⟨gb498, 1, none⟩) (Kd.Q_far (p := ⟨gb498, 0, none⟩) (Kd.Q_types HO507.out BK498.out (by decide)) (fun _ hk => hk.2) (.int .i64 t502)) (fun _ hk => hk.2) (.int .i64 t503)) (fun _ hk => hk.2) (.int .i64 t504)) (fun _ hk => hk.2) (.slice Ao12 t505.length co12)) (fun _ hk => trivial), B.bs HB⟩

end Go.Proofs.Ytpadegboplcapaa.Q
