-- Written by a program of this session (the kit's printer, with hand-proved contracts for the functions that it does not take).
import Derived.Test.YtpadegboplcapaaQ0
import Derived.Test.YtpadegboplcapaaQ1
import Derived.Test.YtpadegboplcapaaQ2
namespace Go.Proofs.Ytpadegboplcapaa.Q
open Go.RowKit Go.Proofs.YtpadegboplcapaaW.PrintWords Go.Proofs.YtpadegboplcapaaW.PrintLast Go.Proofs.YtpadegboplcapaaW.PrintMore
attribute [local go_sem] max2_int min2_int max_two min_two max_three min_three max_four min_four   -- for this text's walks alone
set_option linter.unusedVariables false
set_option linter.unusedSimpArgs false

/-! ### laws_equalInts: function 17 -/
def laws_equalInts.l0 : Nat → List Int → List Int → Int → Option (Bool)
  | 0, _, _, _ => none
  | k + 1, x0, x1, x5 => if x5 < (x0.length : Int) then (if 0 ≤ x5 then (if x5 < (x1.length : Int) then (if (rd x0 x5) = (rd x1 x5) then (laws_equalInts.l0 k x0 x1 (wrap64 (x5 + 1))) else (some false)) else (none)) else (none)) else (some true)
def laws_equalInts.f (k : Nat) (l0 : List Int) (l1 : List Int) : Option (Bool) := if (l0.length : Int) = (l1.length : Int) then (laws_equalInts.l0 k l0 l1 0) else (some false)
theorem laws_equalInts.mono_l : ∀ k, (∀ y0 y1 y2, LeO (laws_equalInts.l0 k y0 y1 y2) (laws_equalInts.l0 (k + 1) y0 y1 y2))
  | 0 => fun _ _ _ r h => by simp [laws_equalInts.l0] at h
  | k + 1 => by
    have ih0 := laws_equalInts.mono_l k
    · intro y0 y1 y2
      unfold laws_equalInts.l0
      repeat' first
      | (with_reducible exact ih0 _ _ _)
      | (with_reducible exact LeO.refl _)
      | (with_reducible exact LeO.none _)
      | (with_reducible refine LeO.ite ?_ ?_)
      | (with_reducible refine LeO.bind ?_ (fun _ => ?_))
      | exact ih0 _ _ _
      | exact LeO.none _
      | refine LeO.ite ?_ ?_
      | refine LeO.bind ?_ (fun _ => ?_)
theorem laws_equalInts.mono : ∀ a0 a1 k, LeO (laws_equalInts.f k a0 a1) (laws_equalInts.f (k + 1) a0 a1) := by
  intro a0 a1 k
  have ih0 := laws_equalInts.mono_l k
  unfold laws_equalInts.f
  repeat' first
      | (with_reducible exact ih0 _ _ _)
      | (with_reducible exact LeO.refl _)
      | (with_reducible exact LeO.none _)
      | (with_reducible refine LeO.ite ?_ ?_)
      | (with_reducible refine LeO.bind ?_ (fun _ => ?_))
      | exact ih0 _ _ _
      | exact LeO.none _
      | refine LeO.ite ?_ ?_
      | refine LeO.bind ?_ (fun _ => ?_)
set_option maxHeartbeats 8000000 in
set_option maxRecDepth 100000 in
theorem laws_equalInts.calls (k : Nat) (A0 : Option Addr) (c0 : Nat) (l0 : List Int) (A1 : Option Addr) (c1 : Nat) (l1 : List Int) (r : Bool) (w : World) (hr0 : Kd.C (Kd.int .i64) w A0 l0.length l0) (hc0 : l0.length ≤ c0) (hr1 : Kd.C (Kd.int .i64) w A1 l1.length l1) (hc1 : l1.length ≤ c1) (h : laws_equalInts.f k l0 l1 = some r) :
    Calls Try.prog 17 #[.slice A0 l0.length c0, .slice A1 l1.length c1] w fun e w' => e = .returned (.bool r) ∧ Drawn0 w w' := by
  have HR0 := Aside0.mk hr0
  have HC0 := Aside0.mk hc0
  clear hr0 hc0
  have HR1 := Aside0.mk hr1
  have HC1 := Aside0.mk hc1
  clear hr1 hc1
  have H : (if (l0.length : Int) = (l1.length : Int) then (laws_equalInts.l0 k l0 l1 0) else (some false)) = some r := h
  clear h
  by_cases c3 : (l0.length : Int) = (l1.length : Int)
  · rw [if_pos c3] at H
    have c3b0 : ((l0.length : Int) == (l1.length : Int)) = true := beq_iff_eq.mpr c3
    have c3b1 : ((l0.length : Int) != (l1.length : Int)) = false := bne_eq_false_iff_eq.mpr c3
    have c3b2 : (l0.length == l1.length) = true := by first | simpa using c3 | (simp at c3 ⊢; omega)
    clear c3
    have H' := Aside0.mk H
    clear H
    go_enter Try.func17, Try.ntmps17
    go_wp2
    repeat (go_quiet (fail); try go_wp2)
    go_loopg [5] k (fun kq v5 w' => ∃ (x5_1 : Int), v5 = .int .i64 x5_1 ∧ Aside0 (laws_equalInts.l0 kq l0 l1 x5_1 = some r) ∧ Aside0 (kq ≤ k) ∧ Drawn0 w w')
    case atStart => exact ⟨(0), (by first | rfl | (simp; done) | (simp [*]; done)), H', ⟨Nat.le_refl _⟩, by repeat (first | exact Drawn0.refl _ | apply Drawn0.step)⟩
    case round =>
      clear H'
      try clear c1
      try clear p2
      try clear c3
      try clear c3b0
      try clear c3b1
      try clear c3b2
      obtain ⟨x5_1, rfl, HA, HK1, ⟨m1, rfl⟩⟩ := hrel
      cases gk with
      | zero => exact absurd HA.out (by simp [laws_equalInts.l0])
      | succ k1 =>
        have H := HA.out
        clear HA
        simp only [laws_equalInts.l0] at H
        by_cases c4 : x5_1 < (l0.length : Int)
        · rw [if_pos c4] at H
          have c4b0 : decide (x5_1 < (l0.length : Int)) = true := decide_eq_true c4
          clear c4
          by_cases c5 : 0 ≤ x5_1
          · rw [if_pos c5] at H
            have c5b0 : decide (0 ≤ x5_1) = true := decide_eq_true c5
            clear c5
            by_cases c6 : x5_1 < (l1.length : Int)
            · rw [if_pos c6] at H
              have c6b0 : decide (x5_1 < (l1.length : Int)) = true := decide_eq_true c6
              clear c6
              by_cases c7 : (rd l0 x5_1) = (rd l1 x5_1)
              · rw [if_pos c7] at H
                have c7b0 : ((rd l0 x5_1) == (rd l1 x5_1)) = true := beq_iff_eq.mpr c7
                have c7b1 : ((rd l0 x5_1) != (rd l1 x5_1)) = false := bne_eq_false_iff_eq.mpr c7
                clear c7
                have H' := Aside0.mk H
                clear H
                have p117 : 0 ≤ (x5_1 : Int) := of_decide_eq_true (by first | (with_reducible assumption) | assumption)
                have q117 : x5_1 < (l0.length : Int) := of_decide_eq_true (by first | (with_reducible assumption) | assumption)
                obtain ⟨ad117, e117, hx117_0⟩ := Kd.at_int HR0.out x5_1 p117 q117
                cases e117
                replace p117 := eq_true p117
                replace q117 := eq_true q117
                have p118 : 0 ≤ (x5_1 : Int) := of_decide_eq_true (by first | (with_reducible assumption) | assumption)
                have q118 : x5_1 < (l1.length : Int) := of_decide_eq_true (by first | (with_reducible assumption) | assumption)
                obtain ⟨ad118, e118, hx118_0⟩ := Kd.at_int HR1.out x5_1 p118 q118
                cases e118
                replace p118 := eq_true p118
                replace q118 := eq_true q118
                go_wp2
                repeat (go_quiet (fail); try go_wp2)
                go_roundg k1
                case measure => have := HK1.out; omega
                case rel => exact ⟨(wrap64 (x5_1 + 1)), (by first | rfl | (simp; done) | (simp [*]; done)), H', ⟨by have := HK1.out; omega⟩, by repeat (first | exact Drawn0.refl _ | apply Drawn0.step)⟩
              rw [if_neg c7] at H
              have c7b0 : ((rd l0 x5_1) == (rd l1 x5_1)) = false := beq_eq_false_iff_ne.mpr c7
              have c7b1 : ((rd l0 x5_1) != (rd l1 x5_1)) = true := bne_iff_ne.mpr c7
              obtain rfl := Option.some.inj H
              simp only [Option.some.injEq, Prod.mk.injEq] at H
              obtain ⟨rfl⟩ := H
              have p117 : 0 ≤ (x5_1 : Int) := of_decide_eq_true (by first | (with_reducible assumption) | assumption)
              have q117 : x5_1 < (l0.length : Int) := of_decide_eq_true (by first | (with_reducible assumption) | assumption)
              obtain ⟨ad117, e117, hx117_0⟩ := Kd.at_int HR0.out x5_1 p117 q117
              cases e117
              replace p117 := eq_true p117
              replace q117 := eq_true q117
              have p118 : 0 ≤ (x5_1 : Int) := of_decide_eq_true (by first | (with_reducible assumption) | assumption)
              have q118 : x5_1 < (l1.length : Int) := of_decide_eq_true (by first | (with_reducible assumption) | assumption)
              obtain ⟨ad118, e118, hx118_0⟩ := Kd.at_int HR1.out x5_1 p118 q118
              cases e118
              replace p118 := eq_true p118
              replace q118 := eq_true q118
              go_wp2
              repeat (go_quiet (fail); try go_wp2)
              go_ret
              exact ⟨by first | rfl | (simp; done) | (simp [*]; done), by repeat (first | exact Drawn0.refl _ | apply Drawn0.step)⟩
            rw [if_neg c6] at H
            exact absurd H (by simp)
          rw [if_neg c5] at H
          exact absurd H (by simp)
        rw [if_neg c4] at H
        have c4b0 : decide (x5_1 < (l0.length : Int)) = false := decide_eq_false c4
        clear c4
        obtain rfl := Option.some.inj H
        simp only [Option.some.injEq, Prod.mk.injEq] at H
        obtain ⟨rfl⟩ := H
        go_wp2
        repeat (go_quiet (fail); try go_wp2)
        go_ret
        exact ⟨by first | rfl | (simp; done) | (simp [*]; done), by repeat (first | exact Drawn0.refl _ | apply Drawn0.step)⟩
  rw [if_neg c3] at H
  have c3b0 : ((l0.length : Int) == (l1.length : Int)) = false := beq_eq_false_iff_ne.mpr c3
  have c3b1 : ((l0.length : Int) != (l1.length : Int)) = true := bne_iff_ne.mpr c3
  have c3b2 : (l0.length == l1.length) = false := by first | simpa using c3 | (simp at c3 ⊢; omega)
  obtain rfl := Option.some.inj H
  simp only [Option.some.injEq, Prod.mk.injEq] at H
  obtain ⟨rfl⟩ := H
  go_enter Try.func17, Try.ntmps17
  go_wp2
  repeat (go_quiet (fail); try go_wp2)
  go_ret
  exact ⟨by first | rfl | (simp; done) | (simp [*]; done), by repeat (first | exact Drawn0.refl _ | apply Drawn0.step)⟩

/-! ### laws_equalImage: function 16 -/
def laws_equalImage.f (k : Nat) (a0_0 : Int) (a0_1 : Int) (a0_2 : Int) (l0_3 : List Int) (a1_0 : Int) (a1_1 : Int) (a1_2 : Int) (l1_3 : List Int) : Option (Bool) := if a0_0 = a1_0 then (if a0_1 = a1_1 then (if a0_2 = a1_2 then ((laws_equalInts.f k l0_3 l1_3).bind fun t121 => (some t121)) else (some false)) else (some false)) else (some false)
theorem laws_equalImage.mono : ∀ a0 a1 a2 a3 a4 a5 a6 a7 k, LeO (laws_equalImage.f k a0 a1 a2 a3 a4 a5 a6 a7) (laws_equalImage.f (k + 1) a0 a1 a2 a3 a4 a5 a6 a7) := by
  intro a0 a1 a2 a3 a4 a5 a6 a7 k
  unfold laws_equalImage.f
  repeat' first
      | (with_reducible exact laws_equalInts.mono _ _ _)
      | (with_reducible exact LeO.refl _)
      | (with_reducible exact LeO.none _)
      | (with_reducible refine LeO.ite ?_ ?_)
      | (with_reducible refine LeO.bind ?_ (fun _ => ?_))
      | exact laws_equalInts.mono _ _ _
      | exact LeO.none _
      | refine LeO.ite ?_ ?_
      | refine LeO.bind ?_ (fun _ => ?_)
set_option maxHeartbeats 8000000 in
set_option maxRecDepth 100000 in
theorem laws_equalImage.calls (k : Nat) (a0_0 : Int) (a0_1 : Int) (a0_2 : Int) (A0_3 : Option Addr) (c0_3 : Nat) (l0_3 : List Int) (a1_0 : Int) (a1_1 : Int) (a1_2 : Int) (A1_3 : Option Addr) (c1_3 : Nat) (l1_3 : List Int) (r : Bool) (w : World) (hr0_3 : Kd.C (Kd.int .i64) w A0_3 l0_3.length l0_3) (hc0_3 : l0_3.length ≤ c0_3) (hr1_3 : Kd.C (Kd.int .i64) w A1_3 l1_3.length l1_3) (hc1_3 : l1_3.length ≤ c1_3) (h : laws_equalImage.f k a0_0 a0_1 a0_2 l0_3 a1_0 a1_1 a1_2 l1_3 = some r) :
    Calls Try.prog 16 #[.agg #[.int .i64 a0_0, .int .i64 a0_1, .int .i64 a0_2, .slice A0_3 l0_3.length c0_3], .agg #[.int .i64 a1_0, .int .i64 a1_1, .int .i64 a1_2, .slice A1_3 l1_3.length c1_3]] w fun e w' => e = .returned (.bool r) ∧ Below w.heap.size w w' := by
  have hu34 := Try.underlying34
  have HR0_3 := Aside0.mk hr0_3
  have HC0_3 := Aside0.mk hc0_3
  clear hr0_3 hc0_3
  have HR1_3 := Aside0.mk hr1_3
  have HC1_3 := Aside0.mk hc1_3
  clear hr1_3 hc1_3
  have HB := Aside0.mk (Below.refl w.heap.size w)
  have H : (if a0_0 = a1_0 then (if a0_1 = a1_1 then (if a0_2 = a1_2 then ((laws_equalInts.f k l0_3 l1_3).bind fun t121 => (some t121)) else (some false)) else (some false)) else (some false)) = some r := h
  clear h
  by_cases c3 : a0_0 = a1_0
  · rw [if_pos c3] at H
    have c3b0 : (a0_0 == a1_0) = true := beq_iff_eq.mpr c3
    have c3b1 : (a0_0 != a1_0) = false := bne_eq_false_iff_eq.mpr c3
    clear c3
    by_cases c4 : a0_1 = a1_1
    · rw [if_pos c4] at H
      have c4b0 : (a0_1 == a1_1) = true := beq_iff_eq.mpr c4
      have c4b1 : (a0_1 != a1_1) = false := bne_eq_false_iff_eq.mpr c4
      clear c4
      by_cases c5 : a0_2 = a1_2
      · rw [if_pos c5] at H
        have c5b0 : (a0_2 == a1_2) = true := beq_iff_eq.mpr c5
        have c5b1 : (a0_2 != a1_2) = false := bne_eq_false_iff_eq.mpr c5
        clear c5
        replace H := Option.bind_eq_some_iff.mp H
        obtain ⟨t121, A60, H⟩ := H
        replace H : (some t121) = some r := H
        have A6 := Aside0.mk A60
        clear A60
        obtain rfl := Option.some.inj H
        simp only [Option.some.injEq, Prod.mk.injEq] at H
        obtain ⟨rfl⟩ := H
        go_enter Try.func16, Try.ntmps16
        go_wp2_with (first | ((with_reducible refine gate_dst (N := 2) rfl ?_); refine box_event ?hg (N := 2) ?hd (cs := #[.int .i64 a0_0, .int .i64 a0_1, .int .i64 a0_2, .slice A0_3 l0_3.length c0_3]) (t := 34) ?hr ?_; (case hd => rfl); (case hg => rfl); (case hr => first | (go_simp; done) | (go_simp; rfl)); intro gb119 hg w7 hbox hb; have n0_ := Aside0.mk (below_step (B.bl HB) hb); have n1_ := Aside0.mk (hbox); have n2_ := Aside0.mk (B.nle hg (below_size (B.bl HB))); have n3_ := Aside0.mk (B.nle hg (below_size (B.bl HB))); clear HB; have HB := n0_; have BK119 := n1_; have GW119 := n2_; have GE119 := n3_; clear n0_ n1_ n2_ n3_; clear hb hbox hg) | ((with_reducible refine gate_dst (N := 3) rfl ?_); refine box_event ?hg (N := 3) ?hd (cs := #[.int .i64 a1_0, .int .i64 a1_1, .int .i64 a1_2, .slice A1_3 l1_3.length c1_3]) (t := 34) ?hr ?_; (case hd => rfl); (case hg => rfl); (case hr => first | (go_simp; done) | (go_simp; rfl)); intro gb120 hg w8 hbox hb; have n0_ := Aside0.mk (blk_below (B.kb BK119) hb); have n1_ := Aside0.mk (below_step (B.bl HB) hb); have n2_ := Aside0.mk (hbox); have n3_ := Aside0.mk (B.nle hg (below_size (B.bl HB))); have n4_ := Aside0.mk (B.nle hg (below_size (B.bl HB))); have n5_ := Aside0.mk (B.nlt hg (blk_lt (B.kb BK119))); have n6_ := Aside0.mk (B.ngt hg (blk_lt (B.kb BK119))); clear BK119 HB; have BK119 := n0_; have HB := n1_; have BK120 := n2_; have GW120 := n3_; have GE120 := n4_; have NB119_120 := n5_; have NB120_119 := n6_; clear n0_ n1_ n2_ n3_ n4_ n5_ n6_; clear hb hbox hg; have hnb9 := NB119_120.out; have hnc9 := NB120_119.out; have hcz10_0 : w8.cell? ⟨gb119, 0, none⟩ = some (.int .i64 a0_0) := B.bc BK119 0; have hcz10_1 : w8.cell? ⟨gb119, 1, none⟩ = some (.int .i64 a0_1) := B.bc BK119 1; have hcz10_2 : w8.cell? ⟨gb119, 2, none⟩ = some (.int .i64 a0_2) := B.bc BK119 2; have hcz10_3 : w8.cell? ⟨gb119, 3, none⟩ = some (.slice A0_3 l0_3.length c0_3) := B.bc BK119 3; have hfz10_0 := blk_frozen BK119.out 0; have hfz10_1 := blk_frozen BK119.out 1; have hfz10_2 := blk_frozen BK119.out 2; have hfz10_3 := blk_frozen BK119.out 3; have hcz11_0 : w8.cell? ⟨gb120, 0, none⟩ = some (.int .i64 a1_0) := B.bc BK120 0; have hcz11_1 : w8.cell? ⟨gb120, 1, none⟩ = some (.int .i64 a1_1) := B.bc BK120 1; have hcz11_2 : w8.cell? ⟨gb120, 2, none⟩ = some (.int .i64 a1_2) := B.bc BK120 2; have hcz11_3 : w8.cell? ⟨gb120, 3, none⟩ = some (.slice A1_3 l1_3.length c1_3) := B.bc BK120 3; have hfz11_0 := blk_frozen BK120.out 0; have hfz11_1 := blk_frozen BK120.out 1; have hfz11_2 := blk_frozen BK120.out 2; have hfz11_3 := blk_frozen BK120.out 3) | (go_at_call 17; (with_reducible refine (laws_equalInts.calls k _ _ l0_3 _ _ l1_3 t121 _ ?side1 ?side2 ?side3 ?side4 A6.out).mono ?_); (case side1 => exact B.kc (Kd.C_below HR0_3.out HB.out)); (case side2 => exact HC0_3.out); (case side3 => exact B.kc (Kd.C_below HR1_3.out HB.out)); (case side4 => exact HC1_3.out); rintro e w' ⟨rfl, ⟨nd, rfl⟩⟩))
        go_ret
        exact ⟨by first | rfl | (simp [errW_none, errW_some] <;> rfl) | (simp [*, errW_none, errW_some] <;> rfl), B.bl HB⟩
      rw [if_neg c5] at H
      have c5b0 : (a0_2 == a1_2) = false := beq_eq_false_iff_ne.mpr c5
      have c5b1 : (a0_2 != a1_2) = true := bne_iff_ne.mpr c5
      obtain rfl := Option.some.inj H
      simp only [Option.some.injEq, Prod.mk.injEq] at H
      obtain ⟨rfl⟩ := H
      go_enter Try.func16, Try.ntmps16
      go_wp2_with (first | ((with_reducible refine gate_dst (N := 2) rfl ?_); refine box_event ?hg (N := 2) ?hd (cs := #[.int .i64 a0_0, .int .i64 a0_1, .int .i64 a0_2, .slice A0_3 l0_3.length c0_3]) (t := 34) ?hr ?_; (case hd => rfl); (case hg => rfl); (case hr => first | (go_simp; done) | (go_simp; rfl)); intro gb119 hg w12 hbox hb; have n0_ := Aside0.mk (below_step (B.bl HB) hb); have n1_ := Aside0.mk (hbox); have n2_ := Aside0.mk (B.nle hg (below_size (B.bl HB))); have n3_ := Aside0.mk (B.nle hg (below_size (B.bl HB))); clear HB; have HB := n0_; have BK119 := n1_; have GW119 := n2_; have GE119 := n3_; clear n0_ n1_ n2_ n3_; clear hb hbox hg) | ((with_reducible refine gate_dst (N := 3) rfl ?_); refine box_event ?hg (N := 3) ?hd (cs := #[.int .i64 a1_0, .int .i64 a1_1, .int .i64 a1_2, .slice A1_3 l1_3.length c1_3]) (t := 34) ?hr ?_; (case hd => rfl); (case hg => rfl); (case hr => first | (go_simp; done) | (go_simp; rfl)); intro gb120 hg w13 hbox hb; have n0_ := Aside0.mk (blk_below (B.kb BK119) hb); have n1_ := Aside0.mk (below_step (B.bl HB) hb); have n2_ := Aside0.mk (hbox); have n3_ := Aside0.mk (B.nle hg (below_size (B.bl HB))); have n4_ := Aside0.mk (B.nle hg (below_size (B.bl HB))); have n5_ := Aside0.mk (B.nlt hg (blk_lt (B.kb BK119))); have n6_ := Aside0.mk (B.ngt hg (blk_lt (B.kb BK119))); clear BK119 HB; have BK119 := n0_; have HB := n1_; have BK120 := n2_; have GW120 := n3_; have GE120 := n4_; have NB119_120 := n5_; have NB120_119 := n6_; clear n0_ n1_ n2_ n3_ n4_ n5_ n6_; clear hb hbox hg; have hnb14 := NB119_120.out; have hnc14 := NB120_119.out; have hcz15_0 : w13.cell? ⟨gb119, 0, none⟩ = some (.int .i64 a0_0) := B.bc BK119 0; have hcz15_1 : w13.cell? ⟨gb119, 1, none⟩ = some (.int .i64 a0_1) := B.bc BK119 1; have hcz15_2 : w13.cell? ⟨gb119, 2, none⟩ = some (.int .i64 a0_2) := B.bc BK119 2; have hcz15_3 : w13.cell? ⟨gb119, 3, none⟩ = some (.slice A0_3 l0_3.length c0_3) := B.bc BK119 3; have hfz15_0 := blk_frozen BK119.out 0; have hfz15_1 := blk_frozen BK119.out 1; have hfz15_2 := blk_frozen BK119.out 2; have hfz15_3 := blk_frozen BK119.out 3; have hcz16_0 : w13.cell? ⟨gb120, 0, none⟩ = some (.int .i64 a1_0) := B.bc BK120 0; have hcz16_1 : w13.cell? ⟨gb120, 1, none⟩ = some (.int .i64 a1_1) := B.bc BK120 1; have hcz16_2 : w13.cell? ⟨gb120, 2, none⟩ = some (.int .i64 a1_2) := B.bc BK120 2; have hcz16_3 : w13.cell? ⟨gb120, 3, none⟩ = some (.slice A1_3 l1_3.length c1_3) := B.bc BK120 3; have hfz16_0 := blk_frozen BK120.out 0; have hfz16_1 := blk_frozen BK120.out 1; have hfz16_2 := blk_frozen BK120.out 2; have hfz16_3 := blk_frozen BK120.out 3))
      go_ret
      exact ⟨by first | rfl | (simp [errW_none, errW_some] <;> rfl) | (simp [*, errW_none, errW_some] <;> rfl), B.bl HB⟩
    rw [if_neg c4] at H
    have c4b0 : (a0_1 == a1_1) = false := beq_eq_false_iff_ne.mpr c4
    have c4b1 : (a0_1 != a1_1) = true := bne_iff_ne.mpr c4
    obtain rfl := Option.some.inj H
    simp only [Option.some.injEq, Prod.mk.injEq] at H
    obtain ⟨rfl⟩ := H
    go_enter Try.func16, Try.ntmps16
    go_wp2_with (first | ((with_reducible refine gate_dst (N := 2) rfl ?_); refine box_event ?hg (N := 2) ?hd (cs := #[.int .i64 a0_0, .int .i64 a0_1, .int .i64 a0_2, .slice A0_3 l0_3.length c0_3]) (t := 34) ?hr ?_; (case hd => rfl); (case hg => rfl); (case hr => first | (go_simp; done) | (go_simp; rfl)); intro gb119 hg w17 hbox hb; have n0_ := Aside0.mk (below_step (B.bl HB) hb); have n1_ := Aside0.mk (hbox); have n2_ := Aside0.mk (B.nle hg (below_size (B.bl HB))); have n3_ := Aside0.mk (B.nle hg (below_size (B.bl HB))); clear HB; have HB := n0_; have BK119 := n1_; have GW119 := n2_; have GE119 := n3_; clear n0_ n1_ n2_ n3_; clear hb hbox hg) | ((with_reducible refine gate_dst (N := 3) rfl ?_); refine box_event ?hg (N := 3) ?hd (cs := #[.int .i64 a1_0, .int .i64 a1_1, .int .i64 a1_2, .slice A1_3 l1_3.length c1_3]) (t := 34) ?hr ?_; (case hd => rfl); (case hg => rfl); (case hr => first | (go_simp; done) | (go_simp; rfl)); intro gb120 hg w18 hbox hb; have n0_ := Aside0.mk (blk_below (B.kb BK119) hb); have n1_ := Aside0.mk (below_step (B.bl HB) hb); have n2_ := Aside0.mk (hbox); have n3_ := Aside0.mk (B.nle hg (below_size (B.bl HB))); have n4_ := Aside0.mk (B.nle hg (below_size (B.bl HB))); have n5_ := Aside0.mk (B.nlt hg (blk_lt (B.kb BK119))); have n6_ := Aside0.mk (B.ngt hg (blk_lt (B.kb BK119))); clear BK119 HB; have BK119 := n0_; have HB := n1_; have BK120 := n2_; have GW120 := n3_; have GE120 := n4_; have NB119_120 := n5_; have NB120_119 := n6_; clear n0_ n1_ n2_ n3_ n4_ n5_ n6_; clear hb hbox hg; have hnb19 := NB119_120.out; have hnc19 := NB120_119.out; have hcz20_0 : w18.cell? ⟨gb119, 0, none⟩ = some (.int .i64 a0_0) := B.bc BK119 0; have hcz20_1 : w18.cell? ⟨gb119, 1, none⟩ = some (.int .i64 a0_1) := B.bc BK119 1; have hcz20_2 : w18.cell? ⟨gb119, 2, none⟩ = some (.int .i64 a0_2) := B.bc BK119 2; have hcz20_3 : w18.cell? ⟨gb119, 3, none⟩ = some (.slice A0_3 l0_3.length c0_3) := B.bc BK119 3; have hfz20_0 := blk_frozen BK119.out 0; have hfz20_1 := blk_frozen BK119.out 1; have hfz20_2 := blk_frozen BK119.out 2; have hfz20_3 := blk_frozen BK119.out 3; have hcz21_0 : w18.cell? ⟨gb120, 0, none⟩ = some (.int .i64 a1_0) := B.bc BK120 0; have hcz21_1 : w18.cell? ⟨gb120, 1, none⟩ = some (.int .i64 a1_1) := B.bc BK120 1; have hcz21_2 : w18.cell? ⟨gb120, 2, none⟩ = some (.int .i64 a1_2) := B.bc BK120 2; have hcz21_3 : w18.cell? ⟨gb120, 3, none⟩ = some (.slice A1_3 l1_3.length c1_3) := B.bc BK120 3; have hfz21_0 := blk_frozen BK120.out 0; have hfz21_1 := blk_frozen BK120.out 1; have hfz21_2 := blk_frozen BK120.out 2; have hfz21_3 := blk_frozen BK120.out 3))
    go_ret
    exact ⟨by first | rfl | (simp [errW_none, errW_some] <;> rfl) | (simp [*, errW_none, errW_some] <;> rfl), B.bl HB⟩
  rw [if_neg c3] at H
  have c3b0 : (a0_0 == a1_0) = false := beq_eq_false_iff_ne.mpr c3
  have c3b1 : (a0_0 != a1_0) = true := bne_iff_ne.mpr c3
  obtain rfl := Option.some.inj H
  simp only [Option.some.injEq, Prod.mk.injEq] at H
  obtain ⟨rfl⟩ := H
  go_enter Try.func16, Try.ntmps16
  go_wp2_with (first | ((with_reducible refine gate_dst (N := 2) rfl ?_); refine box_event ?hg (N := 2) ?hd (cs := #[.int .i64 a0_0, .int .i64 a0_1, .int .i64 a0_2, .slice A0_3 l0_3.length c0_3]) (t := 34) ?hr ?_; (case hd => rfl); (case hg => rfl); (case hr => first | (go_simp; done) | (go_simp; rfl)); intro gb119 hg w22 hbox hb; have n0_ := Aside0.mk (below_step (B.bl HB) hb); have n1_ := Aside0.mk (hbox); have n2_ := Aside0.mk (B.nle hg (below_size (B.bl HB))); have n3_ := Aside0.mk (B.nle hg (below_size (B.bl HB))); clear HB; have HB := n0_; have BK119 := n1_; have GW119 := n2_; have GE119 := n3_; clear n0_ n1_ n2_ n3_; clear hb hbox hg) | ((with_reducible refine gate_dst (N := 3) rfl ?_); refine box_event ?hg (N := 3) ?hd (cs := #[.int .i64 a1_0, .int .i64 a1_1, .int .i64 a1_2, .slice A1_3 l1_3.length c1_3]) (t := 34) ?hr ?_; (case hd => rfl); (case hg => rfl); (case hr => first | (go_simp; done) | (go_simp; rfl)); intro gb120 hg w23 hbox hb; have n0_ := Aside0.mk (blk_below (B.kb BK119) hb); have n1_ := Aside0.mk (below_step (B.bl HB) hb); have n2_ := Aside0.mk (hbox); have n3_ := Aside0.mk (B.nle hg (below_size (B.bl HB))); have n4_ := Aside0.mk (B.nle hg (below_size (B.bl HB))); have n5_ := Aside0.mk (B.nlt hg (blk_lt (B.kb BK119))); have n6_ := Aside0.mk (B.ngt hg (blk_lt (B.kb BK119))); clear BK119 HB; have BK119 := n0_; have HB := n1_; have BK120 := n2_; have GW120 := n3_; have GE120 := n4_; have NB119_120 := n5_; have NB120_119 := n6_; clear n0_ n1_ n2_ n3_ n4_ n5_ n6_; clear hb hbox hg; have hnb24 := NB119_120.out; have hnc24 := NB120_119.out; have hcz25_0 : w23.cell? ⟨gb119, 0, none⟩ = some (.int .i64 a0_0) := B.bc BK119 0; have hcz25_1 : w23.cell? ⟨gb119, 1, none⟩ = some (.int .i64 a0_1) := B.bc BK119 1; have hcz25_2 : w23.cell? ⟨gb119, 2, none⟩ = some (.int .i64 a0_2) := B.bc BK119 2; have hcz25_3 : w23.cell? ⟨gb119, 3, none⟩ = some (.slice A0_3 l0_3.length c0_3) := B.bc BK119 3; have hfz25_0 := blk_frozen BK119.out 0; have hfz25_1 := blk_frozen BK119.out 1; have hfz25_2 := blk_frozen BK119.out 2; have hfz25_3 := blk_frozen BK119.out 3; have hcz26_0 : w23.cell? ⟨gb120, 0, none⟩ = some (.int .i64 a1_0) := B.bc BK120 0; have hcz26_1 : w23.cell? ⟨gb120, 1, none⟩ = some (.int .i64 a1_1) := B.bc BK120 1; have hcz26_2 : w23.cell? ⟨gb120, 2, none⟩ = some (.int .i64 a1_2) := B.bc BK120 2; have hcz26_3 : w23.cell? ⟨gb120, 3, none⟩ = some (.slice A1_3 l1_3.length c1_3) := B.bc BK120 3; have hfz26_0 := blk_frozen BK120.out 0; have hfz26_1 := blk_frozen BK120.out 1; have hfz26_2 := blk_frozen BK120.out 2; have hfz26_3 := blk_frozen BK120.out 3))
  go_ret
  exact ⟨by first | rfl | (simp [errW_none, errW_some] <;> rfl) | (simp [*, errW_none, errW_some] <;> rfl), B.bl HB⟩

/-! ### impl_isImage: function 51 -/
def impl_isImage.f (a0_0 : Int) (a0_1 : Int) (a0_2 : Int) (l0_3 : List Int) : Option (Bool) := (impl_isShape.f a0_0 a0_1 a0_2).bind fun t123 => (if t123 = true then (if (l0_3.length : Int) = (wrap64 ((wrap64 (a0_0 * a0_1)) * a0_2)) then ((impl_areBytes.f l0_3).bind fun t124 => (some t124)) else (some false)) else (some false))
set_option maxHeartbeats 8000000 in
set_option maxRecDepth 100000 in
theorem impl_isImage.calls (a0_0 : Int) (a0_1 : Int) (a0_2 : Int) (A0_3 : Option Addr) (c0_3 : Nat) (l0_3 : List Int) (r : Bool) (w : World) (hr0_3 : Kd.C (Kd.int .i64) w A0_3 l0_3.length l0_3) (hc0_3 : l0_3.length ≤ c0_3) (h : impl_isImage.f a0_0 a0_1 a0_2 l0_3 = some r) :
    Calls Try.prog 51 #[.agg #[.int .i64 a0_0, .int .i64 a0_1, .int .i64 a0_2, .slice A0_3 l0_3.length c0_3]] w fun e w' => e = .returned (.bool r) ∧ Below w.heap.size w w' := by
  have hu34 := Try.underlying34
  have HR0_3 := Aside0.mk hr0_3
  have HC0_3 := Aside0.mk hc0_3
  clear hr0_3 hc0_3
  have HB := Aside0.mk (Below.refl w.heap.size w)
  have H : ((impl_isShape.f a0_0 a0_1 a0_2).bind fun t123 => (if t123 = true then (if (l0_3.length : Int) = (wrap64 ((wrap64 (a0_0 * a0_1)) * a0_2)) then ((impl_areBytes.f l0_3).bind fun t124 => (some t124)) else (some false)) else (some false))) = some r := h
  clear h
  replace H := Option.bind_eq_some_iff.mp H
  obtain ⟨t123, A20, H⟩ := H
  replace H : (if t123 = true then (if (l0_3.length : Int) = (wrap64 ((wrap64 (a0_0 * a0_1)) * a0_2)) then ((impl_areBytes.f l0_3).bind fun t124 => (some t124)) else (some false)) else (some false)) = some r := H
  have A2 := Aside0.mk A20
  clear A20
  by_cases c3 : t123 = true
  · subst c3
    have H1 : (if (l0_3.length : Int) = (wrap64 ((wrap64 (a0_0 * a0_1)) * a0_2)) then ((impl_areBytes.f l0_3).bind fun t124 => (some t124)) else (some false)) = some r := by rw [if_pos rfl] at H; exact H
    clear H
    have H := H1
    clear H1
    by_cases c4 : (l0_3.length : Int) = (wrap64 ((wrap64 (a0_0 * a0_1)) * a0_2))
    · rw [if_pos c4] at H
      have c4b0 : ((l0_3.length : Int) == (wrap64 ((wrap64 (a0_0 * a0_1)) * a0_2))) = true := beq_iff_eq.mpr c4
      have c4b1 : ((l0_3.length : Int) != (wrap64 ((wrap64 (a0_0 * a0_1)) * a0_2))) = false := bne_eq_false_iff_eq.mpr c4
      clear c4
      replace H := Option.bind_eq_some_iff.mp H
      obtain ⟨t124, A50, H⟩ := H
      replace H : (some t124) = some r := H
      have A5 := Aside0.mk A50
      clear A50
      obtain rfl := Option.some.inj H
      simp only [Option.some.injEq, Prod.mk.injEq] at H
      obtain ⟨rfl⟩ := H
      go_enter Try.func51, Try.ntmps51
      go_wp2_with (first | ((with_reducible refine gate_dst (N := 1) rfl ?_); (try (refine gate_guard (by rfl) ?_; dsimp only)); refine box_event ?hg (N := 1) ?hd (cs := #[.int .i64 a0_0, .int .i64 a0_1, .int .i64 a0_2, .slice A0_3 l0_3.length c0_3]) (t := 34) ?hr ?_; (case hd => rfl); (case hg => rfl); (case hr => first | (go_simp; done) | (go_simp; rfl)); intro gb122 hg w6 hbox hb; have n0_ := Aside0.mk (below_step (B.bl HB) hb); have n1_ := Aside0.mk (hbox); have n2_ := Aside0.mk (B.nle hg (below_size (B.bl HB))); have n3_ := Aside0.mk (B.nle hg (below_size (B.bl HB))); clear HB; have HB := n0_; have BK122 := n1_; have GW122 := n2_; have GE122 := n3_; clear n0_ n1_ n2_ n3_; clear hb hbox hg; have hcz7_0 : w6.cell? ⟨gb122, 0, none⟩ = some (.int .i64 a0_0) := B.bc BK122 0; have hcz7_1 : w6.cell? ⟨gb122, 1, none⟩ = some (.int .i64 a0_1) := B.bc BK122 1; have hcz7_2 : w6.cell? ⟨gb122, 2, none⟩ = some (.int .i64 a0_2) := B.bc BK122 2; have hcz7_3 : w6.cell? ⟨gb122, 3, none⟩ = some (.slice A0_3 l0_3.length c0_3) := B.bc BK122 3; have hfz7_0 := blk_frozen BK122.out 0; have hfz7_1 := blk_frozen BK122.out 1; have hfz7_2 := blk_frozen BK122.out 2; have hfz7_3 := blk_frozen BK122.out 3) | ((with_reducible refine gate_callee (f := 46) rfl ?_); refine goesL_ (some 9) rfl rfl Try.func46 (by kernel_rfl) rfl #[.int .i64 a0_0, .int .i64 a0_1, .int .i64 a0_2] rfl B.am ?_; (with_reducible refine (impl_isShape.calls a0_0 a0_1 a0_2 true _ A2.out).mono ?_); rintro e w' ⟨rfl, ⟨nd, rfl⟩⟩; refine ⟨_, rfl, ?_⟩) | (go_at_call 47; (with_reducible refine (impl_areBytes.calls _ _ l0_3 t124 _ ?side1 ?side2 A5.out).mono ?_); (case side1 => exact B.kc (Kd.C_below HR0_3.out (B.bl HB))); (case side2 => exact HC0_3.out); rintro e w' ⟨rfl, ⟨nd, rfl⟩⟩))
      go_ret
      exact ⟨by first | rfl | (simp [errW_none, errW_some] <;> rfl) | (simp [*, errW_none, errW_some] <;> rfl), B.bl HB⟩
    rw [if_neg c4] at H
    have c4b0 : ((l0_3.length : Int) == (wrap64 ((wrap64 (a0_0 * a0_1)) * a0_2))) = false := beq_eq_false_iff_ne.mpr c4
    have c4b1 : ((l0_3.length : Int) != (wrap64 ((wrap64 (a0_0 * a0_1)) * a0_2))) = true := bne_iff_ne.mpr c4
    obtain rfl := Option.some.inj H
    simp only [Option.some.injEq, Prod.mk.injEq] at H
    obtain ⟨rfl⟩ := H
    go_enter Try.func51, Try.ntmps51
    go_wp2_with (first | ((with_reducible refine gate_dst (N := 1) rfl ?_); (try (refine gate_guard (by rfl) ?_; dsimp only)); refine box_event ?hg (N := 1) ?hd (cs := #[.int .i64 a0_0, .int .i64 a0_1, .int .i64 a0_2, .slice A0_3 l0_3.length c0_3]) (t := 34) ?hr ?_; (case hd => rfl); (case hg => rfl); (case hr => first | (go_simp; done) | (go_simp; rfl)); intro gb122 hg w8 hbox hb; have n0_ := Aside0.mk (below_step (B.bl HB) hb); have n1_ := Aside0.mk (hbox); have n2_ := Aside0.mk (B.nle hg (below_size (B.bl HB))); have n3_ := Aside0.mk (B.nle hg (below_size (B.bl HB))); clear HB; have HB := n0_; have BK122 := n1_; have GW122 := n2_; have GE122 := n3_; clear n0_ n1_ n2_ n3_; clear hb hbox hg; have hcz9_0 : w8.cell? ⟨gb122, 0, none⟩ = some (.int .i64 a0_0) := B.bc BK122 0; have hcz9_1 : w8.cell? ⟨gb122, 1, none⟩ = some (.int .i64 a0_1) := B.bc BK122 1; have hcz9_2 : w8.cell? ⟨gb122, 2, none⟩ = some (.int .i64 a0_2) := B.bc BK122 2; have hcz9_3 : w8.cell? ⟨gb122, 3, none⟩ = some (.slice A0_3 l0_3.length c0_3) := B.bc BK122 3; have hfz9_0 := blk_frozen BK122.out 0; have hfz9_1 := blk_frozen BK122.out 1; have hfz9_2 := blk_frozen BK122.out 2; have hfz9_3 := blk_frozen BK122.out 3) | ((with_reducible refine gate_callee (f := 46) rfl ?_); refine goesL_ (some 9) rfl rfl Try.func46 (by kernel_rfl) rfl #[.int .i64 a0_0, .int .i64 a0_1, .int .i64 a0_2] rfl B.am ?_; (with_reducible refine (impl_isShape.calls a0_0 a0_1 a0_2 true _ A2.out).mono ?_); rintro e w' ⟨rfl, ⟨nd, rfl⟩⟩; refine ⟨_, rfl, ?_⟩))
    go_ret
    exact ⟨by first | rfl | (simp [errW_none, errW_some] <;> rfl) | (simp [*, errW_none, errW_some] <;> rfl), B.bl HB⟩
  replace c3 := Bool.eq_false_iff.mpr c3
  subst c3
  have H1 : (some false) = some r := by rw [if_neg (show ¬ (false = true) by decide)] at H; exact H
  clear H
  have H := H1
  clear H1
  obtain rfl := Option.some.inj H
  simp only [Option.some.injEq, Prod.mk.injEq] at H
  obtain ⟨rfl⟩ := H
  go_enter Try.func51, Try.ntmps51
  go_wp2_with (first | ((with_reducible refine gate_dst (N := 1) rfl ?_); (try (refine gate_guard (by rfl) ?_; dsimp only)); refine box_event ?hg (N := 1) ?hd (cs := #[.int .i64 a0_0, .int .i64 a0_1, .int .i64 a0_2, .slice A0_3 l0_3.length c0_3]) (t := 34) ?hr ?_; (case hd => rfl); (case hg => rfl); (case hr => first | (go_simp; done) | (go_simp; rfl)); intro gb122 hg w10 hbox hb; have n0_ := Aside0.mk (below_step (B.bl HB) hb); have n1_ := Aside0.mk (hbox); have n2_ := Aside0.mk (B.nle hg (below_size (B.bl HB))); have n3_ := Aside0.mk (B.nle hg (below_size (B.bl HB))); clear HB; have HB := n0_; have BK122 := n1_; have GW122 := n2_; have GE122 := n3_; clear n0_ n1_ n2_ n3_; clear hb hbox hg; have hcz11_0 : w10.cell? ⟨gb122, 0, none⟩ = some (.int .i64 a0_0) := B.bc BK122 0; have hcz11_1 : w10.cell? ⟨gb122, 1, none⟩ = some (.int .i64 a0_1) := B.bc BK122 1; have hcz11_2 : w10.cell? ⟨gb122, 2, none⟩ = some (.int .i64 a0_2) := B.bc BK122 2; have hcz11_3 : w10.cell? ⟨gb122, 3, none⟩ = some (.slice A0_3 l0_3.length c0_3) := B.bc BK122 3; have hfz11_0 := blk_frozen BK122.out 0; have hfz11_1 := blk_frozen BK122.out 1; have hfz11_2 := blk_frozen BK122.out 2; have hfz11_3 := blk_frozen BK122.out 3) | ((with_reducible refine gate_callee (f := 46) rfl ?_); refine goesL_ (some 9) rfl rfl Try.func46 (by kernel_rfl) rfl #[.int .i64 a0_0, .int .i64 a0_1, .int .i64 a0_2] rfl B.am ?_; (with_reducible refine (impl_isShape.calls a0_0 a0_1 a0_2 false _ A2.out).mono ?_); rintro e w' ⟨rfl, ⟨nd, rfl⟩⟩; refine ⟨_, rfl, ?_⟩))
  go_ret
  exact ⟨by first | rfl | (simp [errW_none, errW_some] <;> rfl) | (simp [*, errW_none, errW_some] <;> rfl), B.bl HB⟩

/-! ### beside impl_isImage (by hand) -/
-- GIVEN loop.example/pixelworks/impl.isImage
-- BESIDE yes
theorem areBytes_ok (l : List Int) : impl_areBytes.f l = some (l.all fun x => decide (0 ≤ x) && decide (x ≤ 255)) := by
  unfold impl_areBytes.f
  congr 1
  rw [Bool.eq_iff_iff]
  simp only [Bool.not_eq_true', List.any_eq_false, List.all_eq_true, notByte, Bool.or_eq_true, Bool.and_eq_true, decide_eq_true_eq, not_or]
  exact ⟨fun h x hx => by have := h x hx; omega, fun h x hx => by have := h x hx; omega⟩
theorem isSide_ok (n : Int) : impl_isSide.f n = some (decide (1 ≤ n) && decide (n ≤ 16)) := by
  unfold impl_isSide.f
  by_cases h : n ≥ 1
  · rw [if_pos h, decide_eq_true (show 1 ≤ n from h)]
    rfl
  · rw [if_neg h, decide_eq_false (show ¬ 1 ≤ n from h)]
    rfl
theorem isShape_ok (a b c : Int) : impl_isShape.f a b c = some ((decide (1 ≤ a) && decide (a ≤ 16)) && ((decide (1 ≤ b) && decide (b ≤ 16)) && (decide (1 ≤ c) && decide (c ≤ 4)))) := by
  unfold impl_isShape.f
  rw [isSide_ok, isSide_ok]
  simp only [Option.bind_some]
  by_cases h1 : (decide (1 ≤ a) && decide (a ≤ 16)) = true
  · rw [if_pos h1, h1]
    by_cases h2 : (decide (1 ≤ b) && decide (b ≤ 16)) = true
    · rw [if_pos h2, h2]
      by_cases h3 : c ≥ 1
      · rw [if_pos h3, decide_eq_true (show 1 ≤ c from h3)]
        rfl
      · rw [if_neg h3, decide_eq_false (show ¬ 1 ≤ c from h3)]
        rfl
    · rw [if_neg h2, Bool.eq_false_iff.2 h2]
      rfl
  · rw [if_neg h1, Bool.eq_false_iff.2 h1]
    rfl
theorem isImage_ok (w h p : Int) (D : List Int) : impl_isImage.f w h p D = some (B.okImg w h p D) := by
  unfold impl_isImage.f B.okImg
  rw [isShape_ok, areBytes_ok]
  simp only [Option.bind_some]
  by_cases h1 : ((decide (1 ≤ w) && decide (w ≤ 16)) && ((decide (1 ≤ h) && decide (h ≤ 16)) && (decide (1 ≤ p) && decide (p ≤ 4)))) = true
  · have h2 := h1
    simp only [Bool.and_eq_true, decide_eq_true_eq] at h2
    obtain ⟨⟨a1, a2⟩, ⟨a3, a4⟩, a5, a6⟩ := h2
    have e0 : 0 ≤ w * h := Int.mul_nonneg (by omega) (by omega)
    have e1 : w * h ≤ 16 * 16 := Int.mul_le_mul a2 a4 (by omega) (by omega)
    have e2 : 0 ≤ w * h * p := Int.mul_nonneg e0 (by omega)
    have e3 : w * h * p ≤ 256 * 4 := Int.mul_le_mul (by omega) a6 (by omega) (by omega)
    rw [if_pos h1, B.w64 (x := w * h) (by omega) (by omega), B.w64 (x := w * h * p) (by omega) (by omega), decide_eq_true a1, decide_eq_true a2, decide_eq_true a3, decide_eq_true a4, decide_eq_true a5, decide_eq_true a6]
    by_cases c : (D.length : Int) = w * h * p
    · rw [if_pos c, decide_eq_true c]
      simp
    · rw [if_neg c, decide_eq_false c]
      simp
  · rw [if_neg h1]
    congr 1
    rw [eq_comm, Bool.eq_false_iff]
    intro h2
    apply h1
    simp only [Bool.and_eq_true, decide_eq_true_eq] at h2 ⊢
    exact ⟨h2.1, h2.2.1, h2.2.2.1⟩

/-! ### impl_PassData: function 18 (by hand) -/
-- GIVEN loop.example/pixelworks/impl.PassData
-- ROUNDS yes
-- MAKING yes
/-- The pixels of columns and rows, row by row. -/
def passRow (w p : Nat) (D cs : List Int) (y : Int) : List Int := cs.flatMap fun x => B.pix D w p x.toNat y.toNat
def passAll (w p : Nat) (D rs cs : List Int) : List Int := rs.flatMap (passRow w p D cs)
def pre1 (w p : Nat) (D rs cs : List Int) (i : Nat) : List Int := passAll w p D (rs.take i) cs
def pre2 (w p : Nat) (D rs cs : List Int) (i j : Nat) (y : Int) : List Int := pre1 w p D rs cs i ++ passRow w p D (cs.take j) y
theorem take_rd (l : List Int) (x : Int) (h0 : 0 ≤ x) (h1 : x < (l.length : Int)) : l.take (x + 1).toNat = l.take x.toNat ++ [rd l x] := by
  have h2 : x.toNat < l.length := by omega
  rw [show (x + 1).toNat = x.toNat + 1 by omega, List.take_succ_eq_append_getElem h2]
  unfold rd
  simp [h2]
theorem rd_mem (l : List Int) (x : Int) (h0 : 0 ≤ x) (h1 : x < (l.length : Int)) : rd l x ∈ l := by
  have h2 : x.toNat < l.length := by omega
  unfold rd
  simp [h2]
theorem pre1_zero (w p : Nat) (D rs cs : List Int) : pre1 w p D rs cs 0 = [] := by simp [pre1, passAll]
theorem pre1_all (w p : Nat) (D rs cs : List Int) : pre1 w p D rs cs rs.length = passAll w p D rs cs := by simp [pre1]
theorem pre2_zero (w p : Nat) (D rs cs : List Int) (i : Nat) (y : Int) : pre2 w p D rs cs i 0 y = pre1 w p D rs cs i := by simp [pre2, passRow]
theorem pre2_step (w p : Nat) (D rs cs : List Int) (i : Nat) (y x : Int) (h0 : 0 ≤ x) (h1 : x < (cs.length : Int)) : pre2 w p D rs cs i x.toNat y ++ B.pix D w p (rd cs x).toNat y.toNat = pre2 w p D rs cs i (x + 1).toNat y := by
  unfold pre2 passRow
  rw [take_rd cs x h0 h1, List.flatMap_append, List.append_assoc]
  simp
theorem pre2_all (w p : Nat) (D rs cs : List Int) (y : Int) (h0 : 0 ≤ y) (h1 : y < (rs.length : Int)) : pre2 w p D rs cs y.toNat cs.length (rd rs y) = pre1 w p D rs cs (y + 1).toNat := by
  unfold pre2 pre1 passAll
  rw [take_rd rs y h0 h1, List.flatMap_append, List.take_length]
  simp
theorem pre1_le (w p : Nat) (D rs cs : List Int) (i : Nat) : (pre1 w p D rs cs i).length ≤ (passAll w p D rs cs).length := by
  unfold pre1 passAll
  conv => rhs; rw [← List.take_append_drop i rs, List.flatMap_append, List.length_append]
  omega
theorem passRow_le (w p : Nat) (D cs : List Int) (j : Nat) (y : Int) : (passRow w p D (cs.take j) y).length ≤ (passRow w p D cs y).length := by
  unfold passRow
  conv => rhs; rw [← List.take_append_drop j cs, List.flatMap_append, List.length_append]
  omega
theorem pre2_le (w p : Nat) (D rs cs : List Int) (j : Nat) (y : Int) (h0 : 0 ≤ y) (h1 : y < (rs.length : Int)) : (pre2 w p D rs cs y.toNat j (rd rs y)).length ≤ (passAll w p D rs cs).length := by
  refine Nat.le_trans ?_ (pre1_le w p D rs cs (y + 1).toNat)
  rw [← pre2_all w p D rs cs y h0 h1]
  unfold pre2
  rw [List.length_append, List.length_append, List.take_length]
  have := passRow_le w p D cs j (rd rs y)
  omega
def passOk (w h : Int) (rs cs : List Int) (n : Nat) : Bool := (cs.all fun x => decide (0 ≤ x) && decide (x < w)) && ((rs.all fun y => decide (0 ≤ y) && decide (y < h)) && (decide (rs.length ≤ 1000) && (decide (cs.length ≤ 1000) && decide (n ≤ 10000))))
def impl_PassData.f (k : Nat) (a0_0 : Int) (a0_1 : Int) (a0_2 : Int) (l0_3 : List Int) (a1 : Int) : Option (List Int) :=
  if B.okImg a0_0 a0_1 a0_2 l0_3 = true ∧ 0 ≤ a1 ∧ a1 ≤ 6 then
    (impl_passOf.f a1).bind fun t => (impl_pass_rows.f k t.1 t.2.1 t.2.2.1 t.2.2.2 a0_1).bind fun rs => (impl_pass_columns.f k t.1 t.2.1 t.2.2.1 t.2.2.2 a0_0).bind fun cs =>
      if passOk a0_0 a0_1 rs cs (passAll a0_0.toNat a0_2.toNat l0_3 rs cs).length = true then some (passAll a0_0.toNat a0_2.toNat l0_3 rs cs) else none
  else some []
theorem impl_PassData.mono : ∀ a0 a1 a2 a3 a4 k, LeO (impl_PassData.f k a0 a1 a2 a3 a4) (impl_PassData.f (k + 1) a0 a1 a2 a3 a4) := by
  intro a0 a1 a2 a3 a4 k
  unfold impl_PassData.f
  refine LeO.ite (LeO.bind (LeO.refl _) fun _ => LeO.bind (impl_pass_rows.mono _ _ _ _ _ _) fun _ => LeO.bind (impl_pass_columns.mono _ _ _ _ _ _) fun _ => LeO.refl _) (LeO.refl _)
set_option maxHeartbeats 4000000 in
theorem pass_no (a0_0 : Int) (a0_1 : Int) (a0_2 : Int) (A0_3 : Option Addr) (c0_3 : Nat) (l0_3 : List Int) (a1 : Int) (w : World) (hr0_3 : Kd.C (Kd.int .i64) w A0_3 l0_3.length l0_3) (hc0_3 : l0_3.length ≤ c0_3) (hv : B.okImg a0_0 a0_1 a0_2 l0_3 = false) :
    Calls Try.prog 18 #[.agg #[.int .i64 a0_0, .int .i64 a0_1, .int .i64 a0_2, .slice A0_3 l0_3.length c0_3], .int .i64 a1] w fun e w' => ∃ v0_ : Value, e = .returned (v0_) ∧ Kd.R (Kd.int .i64) 3 w' w.heap.size (fun _ => True) v0_ [] ∧ Below w.heap.size w w' := by
  have hu28 := Try.underlying34
  have H1 := Aside0.mk (fun (W : World) (hW : Below w.heap.size w W) => impl_isImage.calls a0_0 a0_1 a0_2 A0_3 c0_3 l0_3 false W (Kd.C_below hr0_3 hW) hc0_3 (by rw [isImage_ok, hv]))
  have BM : Aside0 ((w.alloc (.cells #[.int .i64 a0_0, .int .i64 a0_1, .int .i64 a0_2, .slice A0_3 l0_3.length c0_3] 34)).heap[w.heap.size]? = some (.cells #[.int .i64 a0_0, .int .i64 a0_1, .int .i64 a0_2, .slice A0_3 l0_3.length c0_3] 34 (0, 0))) := ⟨(heap_alloc_new w (.cells #[.int .i64 a0_0, .int .i64 a0_1, .int .i64 a0_2, .slice A0_3 l0_3.length c0_3] 34))⟩
  have HB : Aside0 (Below w.heap.size w (w.alloc (.cells #[.int .i64 a0_0, .int .i64 a0_1, .int .i64 a0_2, .slice A0_3 l0_3.length c0_3] 34))) := ⟨(below_alloc (Below.refl _ _) _)⟩
  clear hv hr0_3 hc0_3
  go_enter Try.func18, Try.ntmps18
  go_wp2_with fail
  refine (H1.out _ HB.out).mono ?_
  rintro e w1 ⟨rfl, hb1⟩
  have n0_ := Aside0.mk (blk_below BM.out hb1)
  have nb_ := Aside0.mk (below_step HB.out hb1)
  clear BM HB hb1
  have BM := n0_
  have HB := nb_
  clear n0_ nb_
  have hcBM0 := B.bc BM 0
  have hcBM1 := B.bc BM 1
  have hcBM2 := B.bc BM 2
  have hcBM3 := B.bc BM 3
  go_wp2
  go_ret
  exact ⟨_, rfl, Kd.R_nil _ _ _ _ _, HB.out⟩
set_option maxHeartbeats 4000000 in
theorem pass_lo (a0_0 : Int) (a0_1 : Int) (a0_2 : Int) (A0_3 : Option Addr) (c0_3 : Nat) (l0_3 : List Int) (a1 : Int) (w : World) (hr0_3 : Kd.C (Kd.int .i64) w A0_3 l0_3.length l0_3) (hc0_3 : l0_3.length ≤ c0_3) (hv : B.okImg a0_0 a0_1 a0_2 l0_3 = true) (t1 : a1 < 0) :
    Calls Try.prog 18 #[.agg #[.int .i64 a0_0, .int .i64 a0_1, .int .i64 a0_2, .slice A0_3 l0_3.length c0_3], .int .i64 a1] w fun e w' => ∃ v0_ : Value, e = .returned (v0_) ∧ Kd.R (Kd.int .i64) 3 w' w.heap.size (fun _ => True) v0_ [] ∧ Below w.heap.size w w' := by
  have hu28 := Try.underlying34
  have H1 := Aside0.mk (fun (W : World) (hW : Below w.heap.size w W) => impl_isImage.calls a0_0 a0_1 a0_2 A0_3 c0_3 l0_3 true W (Kd.C_below hr0_3 hW) hc0_3 (by rw [isImage_ok, hv]))
  have u1 : decide (a1 < 0) = true := decide_eq_true t1
  clear t1
  have BM : Aside0 ((w.alloc (.cells #[.int .i64 a0_0, .int .i64 a0_1, .int .i64 a0_2, .slice A0_3 l0_3.length c0_3] 34)).heap[w.heap.size]? = some (.cells #[.int .i64 a0_0, .int .i64 a0_1, .int .i64 a0_2, .slice A0_3 l0_3.length c0_3] 34 (0, 0))) := ⟨(heap_alloc_new w (.cells #[.int .i64 a0_0, .int .i64 a0_1, .int .i64 a0_2, .slice A0_3 l0_3.length c0_3] 34))⟩
  have HB : Aside0 (Below w.heap.size w (w.alloc (.cells #[.int .i64 a0_0, .int .i64 a0_1, .int .i64 a0_2, .slice A0_3 l0_3.length c0_3] 34))) := ⟨(below_alloc (Below.refl _ _) _)⟩
  clear hv hr0_3 hc0_3
  go_enter Try.func18, Try.ntmps18
  go_wp2_with fail
  refine (H1.out _ HB.out).mono ?_
  rintro e w1 ⟨rfl, hb1⟩
  have n0_ := Aside0.mk (blk_below BM.out hb1)
  have nb_ := Aside0.mk (below_step HB.out hb1)
  clear BM HB hb1
  have BM := n0_
  have HB := nb_
  clear n0_ nb_
  have hcBM0 := B.bc BM 0
  have hcBM1 := B.bc BM 1
  have hcBM2 := B.bc BM 2
  have hcBM3 := B.bc BM 3
  go_wp2
  go_ret
  exact ⟨_, rfl, Kd.R_nil _ _ _ _ _, HB.out⟩
set_option maxHeartbeats 4000000 in
theorem pass_hi (a0_0 : Int) (a0_1 : Int) (a0_2 : Int) (A0_3 : Option Addr) (c0_3 : Nat) (l0_3 : List Int) (a1 : Int) (w : World) (hr0_3 : Kd.C (Kd.int .i64) w A0_3 l0_3.length l0_3) (hc0_3 : l0_3.length ≤ c0_3) (hv : B.okImg a0_0 a0_1 a0_2 l0_3 = true) (t1 : ¬ a1 < 0) (t2 : 6 < a1) :
    Calls Try.prog 18 #[.agg #[.int .i64 a0_0, .int .i64 a0_1, .int .i64 a0_2, .slice A0_3 l0_3.length c0_3], .int .i64 a1] w fun e w' => ∃ v0_ : Value, e = .returned (v0_) ∧ Kd.R (Kd.int .i64) 3 w' w.heap.size (fun _ => True) v0_ [] ∧ Below w.heap.size w w' := by
  have hu28 := Try.underlying34
  have H1 := Aside0.mk (fun (W : World) (hW : Below w.heap.size w W) => impl_isImage.calls a0_0 a0_1 a0_2 A0_3 c0_3 l0_3 true W (Kd.C_below hr0_3 hW) hc0_3 (by rw [isImage_ok, hv]))
  have u1 : decide (a1 < 0) = false := decide_eq_false t1
  clear t1
  have u2 : decide (6 < a1) = true := decide_eq_true t2
  clear t2
  have BM : Aside0 ((w.alloc (.cells #[.int .i64 a0_0, .int .i64 a0_1, .int .i64 a0_2, .slice A0_3 l0_3.length c0_3] 34)).heap[w.heap.size]? = some (.cells #[.int .i64 a0_0, .int .i64 a0_1, .int .i64 a0_2, .slice A0_3 l0_3.length c0_3] 34 (0, 0))) := ⟨(heap_alloc_new w (.cells #[.int .i64 a0_0, .int .i64 a0_1, .int .i64 a0_2, .slice A0_3 l0_3.length c0_3] 34))⟩
  have HB : Aside0 (Below w.heap.size w (w.alloc (.cells #[.int .i64 a0_0, .int .i64 a0_1, .int .i64 a0_2, .slice A0_3 l0_3.length c0_3] 34))) := ⟨(below_alloc (Below.refl _ _) _)⟩
  clear hv hr0_3 hc0_3
  go_enter Try.func18, Try.ntmps18
  go_wp2_with fail
  refine (H1.out _ HB.out).mono ?_
  rintro e w1 ⟨rfl, hb1⟩
  have n0_ := Aside0.mk (blk_below BM.out hb1)
  have nb_ := Aside0.mk (below_step HB.out hb1)
  clear BM HB hb1
  have BM := n0_
  have HB := nb_
  clear n0_ nb_
  have hcBM0 := B.bc BM 0
  have hcBM1 := B.bc BM 1
  have hcBM2 := B.bc BM 2
  have hcBM3 := B.bc BM 3
  go_wp2
  go_ret
  exact ⟨_, rfl, Kd.R_nil _ _ _ _ _, HB.out⟩
set_option maxHeartbeats 8000000 in
set_option maxRecDepth 100000 in
theorem pass_yes (k : Nat) (p1 p2 p3 p4 : Int) (rs cs : List Int) (a0_0 : Int) (a0_1 : Int) (a0_2 : Int) (A0_3 : Option Addr) (c0_3 : Nat) (l0_3 : List Int) (a1 : Int) (w : World) (hr0_3 : Kd.C (Kd.int .i64) w A0_3 l0_3.length l0_3) (hc0_3 : l0_3.length ≤ c0_3) (hv : B.okImg a0_0 a0_1 a0_2 l0_3 = true) (t1 : ¬ a1 < 0) (t2 : ¬ 6 < a1) (hT : impl_passOf.f a1 = some (p1, p2, p3, p4)) (hrs : impl_pass_rows.f k p1 p2 p3 p4 a0_1 = some rs) (hcs : impl_pass_columns.f k p1 p2 p3 p4 a0_0 = some cs) (hok : passOk a0_0 a0_1 rs cs (passAll a0_0.toNat a0_2.toNat l0_3 rs cs).length = true) :
    Calls Try.prog 18 #[.agg #[.int .i64 a0_0, .int .i64 a0_1, .int .i64 a0_2, .slice A0_3 l0_3.length c0_3], .int .i64 a1] w fun e w' => ∃ v0_ : Value, e = .returned (v0_) ∧ Kd.R (Kd.int .i64) 3 w' w.heap.size (fun _ => True) v0_ (passAll a0_0.toNat a0_2.toNat l0_3 rs cs) ∧ Below w.heap.size w w' := by
  have hu28 := Try.underlying34
  have hu56 := Try.underlying56
  have hK : (∀ x ∈ cs, 0 ≤ x ∧ x < a0_0) ∧ (∀ y ∈ rs, 0 ≤ y ∧ y < a0_1) ∧ rs.length ≤ 1000 ∧ cs.length ≤ 1000 ∧ (passAll a0_0.toNat a0_2.toNat l0_3 rs cs).length ≤ 10000 := by
    have h := hok
    unfold passOk at h
    simp only [Bool.and_eq_true, List.all_eq_true, decide_eq_true_eq] at h
    exact h
  have HK := Aside0.mk hK
  have ho := (B.okImg_img hv).1
  have H1 := Aside0.mk (fun (W : World) (hW : Below w.heap.size w W) => impl_isImage.calls a0_0 a0_1 a0_2 A0_3 c0_3 l0_3 true W (Kd.C_below hr0_3 hW) hc0_3 (by rw [isImage_ok, hv]))
  have H2 := Aside0.mk (fun (W : World) => impl_passOf.calls a1 p1 p2 p3 p4 W hT)
  have H3 := Aside0.mk (fun (W : World) => impl_pass_rows.calls k p1 p2 p3 p4 a0_1 rs W hrs)
  have H4 := Aside0.mk (fun (W : World) => impl_pass_columns.calls k p1 p2 p3 p4 a0_0 cs W hcs)
  have H5 := Aside0.mk (fun (W : World) (hW : Below w.heap.size w W) (x y : Int) (hx : 0 ≤ x ∧ x < a0_0) (hy : 0 ≤ y ∧ y < a0_1) => at_calls a0_0 a0_1 a0_2 x y A0_3 c0_3 l0_3 W ho hx hy (Kd.C_below hr0_3 hW) hc0_3)
  have hpl : ∀ x y, (B.pix l0_3 a0_0.toNat a0_2.toNat x y).length ≤ 4 := fun x y => by
    have := ho.2.2.2.2.2.1
    unfold B.pix B.chunk
    rw [List.length_take]
    omega
  have HPL := Aside0.mk hpl
  have u1 : decide (a1 < 0) = false := decide_eq_false t1
  have u2 : decide (6 < a1) = false := decide_eq_false t2
  clear hK ho hpl hok hT hrs hcs t1 t2
  have BM : Aside0 ((w.alloc (.cells #[.int .i64 a0_0, .int .i64 a0_1, .int .i64 a0_2, .slice A0_3 l0_3.length c0_3] 34)).heap[w.heap.size]? = some (.cells #[.int .i64 a0_0, .int .i64 a0_1, .int .i64 a0_2, .slice A0_3 l0_3.length c0_3] 34 (0, 0))) := ⟨(heap_alloc_new w (.cells #[.int .i64 a0_0, .int .i64 a0_1, .int .i64 a0_2, .slice A0_3 l0_3.length c0_3] 34))⟩
  have HB : Aside0 (Below w.heap.size w (w.alloc (.cells #[.int .i64 a0_0, .int .i64 a0_1, .int .i64 a0_2, .slice A0_3 l0_3.length c0_3] 34))) := ⟨(below_alloc (Below.refl _ _) _)⟩
  clear hv hr0_3 hc0_3
  go_enter Try.func18, Try.ntmps18
  go_wp2_with fail
  refine (H1.out _ HB.out).mono ?_
  rintro e w1 ⟨rfl, hb1⟩
  have n0_ := Aside0.mk (blk_below BM.out hb1)
  have nb_ := Aside0.mk (below_step HB.out hb1)
  clear BM HB hb1
  have BM := n0_
  have HB := nb_
  clear n0_ nb_
  have hcBM0 := B.bc BM 0
  have hcBM1 := B.bc BM 1
  have hcBM2 := B.bc BM 2
  have hcBM3 := B.bc BM 3
  clear H1
  go_upto_region 5 with (first | ((with_reducible refine gate_dst (N := 22) rfl ?_); refine Kd.R_lit (Kd.int .i64) _ 3 ?hg (N := 22) ?hd (xs := ([] : List Int)) (inner := []) (ok := fun _ => True) (okp := fun _ => True) ?hr ?hp (fun _ hk => hk) trivial (Below.refl _ _) (Nat.le_refl _) (by simp) ?_; (case hd => rfl); (case hg => rfl); (case hr => first | (go_simp; done) | (go_simp; rfl)); (case hp => exact (Reps.none _ _)); intro v2 w2 ho2 hb2 hg_ hnew_; clear hg_ hnew_; have n0_ := Aside0.mk (blk_below BM.out hb2); have n1_ := Aside0.mk (below_step HB.out hb2); have n2_ := Aside0.mk (Kd.R_lower ho2 HB.out.size); clear BM HB hb2 ho2; have BM := n0_; have HB := n1_; have HO := n2_; clear n0_ n1_ n2_; clear hcBM0 hcBM1 hcBM2 hcBM3) | ((with_reducible refine gate_callee (f := 39) rfl ?_); refine goesL_ (some 24) rfl rfl Try.func39 (by kernel_rfl) rfl #[.int .i64 a1] rfl B.am ?_; refine (H2.out _).mono ?_; rintro e w3 ⟨rfl, hb⟩; refine ⟨_, rfl, ?_⟩; have n0_ := Aside0.mk (Kd.R_below (B.kr HO) hb); have n1_ := Aside0.mk (blk_below (B.kb BM) hb); have n2_ := Aside0.mk (below_step (B.bl HB) hb); clear HO BM HB hb; have HO := n0_; have BM := n1_; have HB := n2_; clear n0_ n1_ n2_) | ((with_reducible refine gate_dst (N := 6) rfl ?_); refine box_event ?hg (N := 6) ?hd (cs := #[.int .i64 0, .int .i64 0, .int .i64 0, .int .i64 0]) (t := 56) ?hr ?_; (case hd => rfl); (case hg => rfl); (case hr => first | (go_simp; done) | (go_simp; rfl)); intro gp hg w4 hbox hb; have n0_ := Aside0.mk (Kd.R_below (B.kr HO) hb); have n1_ := Aside0.mk (blk_below (B.kb BM) hb); have n2_ := Aside0.mk (below_step (B.bl HB) hb); have n3_ := Aside0.mk hbox; have n4_ := Aside0.mk (B.nle hg (below_size (B.bl HB))); have n5_ := Aside0.mk (B.nlt hg (blk_lt (B.kb BM))); clear HO BM HB; have HO := n0_; have BM := n1_; have HB := n2_; have BP := n3_; have GP := n4_; have NMP := n5_; clear n0_ n1_ n2_ n3_ n4_ n5_; clear hb hbox hg; have hp0 : w4.cell? ⟨gp, 0, none⟩ = some (.int .i64 0) := B.bc BP 0; have hp1 : w4.cell? ⟨gp, 1, none⟩ = some (.int .i64 0) := B.bc BP 1; have hp2 : w4.cell? ⟨gp, 2, none⟩ = some (.int .i64 0) := B.bc BP 2; have hp3 : w4.cell? ⟨gp, 3, none⟩ = some (.int .i64 0) := B.bc BP 3; have hq0 := blk_frozen BP.out 0; have hq1 := blk_frozen BP.out 1; have hq2 := blk_frozen BP.out 2; have hq3 := blk_frozen BP.out 3))
  (try simp only [Act.put, List.setIfInBounds_toArray, List.set_cons_zero, List.set_cons_succ])
  have n0_ : Aside0 (Kd.R (Kd.int .i64) 3 ((((w4.setCell ⟨gp, 0, none⟩ (.int .i64 p1)).setCell ⟨gp, 1, none⟩ (.int .i64 p2)).setCell ⟨gp, 2, none⟩ (.int .i64 p3)).setCell ⟨gp, 3, none⟩ (.int .i64 p4)) w.heap.size (fun _ => True) v2 []) := ⟨Kd.R_mono (B.rf4 HO BP) (fun _ _ => trivial)⟩
  have n1_ : Aside0 (((((w4.setCell ⟨gp, 0, none⟩ (.int .i64 p1)).setCell ⟨gp, 1, none⟩ (.int .i64 p2)).setCell ⟨gp, 2, none⟩ (.int .i64 p3)).setCell ⟨gp, 3, none⟩ (.int .i64 p4)).heap[w.heap.size]? = some (.cells #[.int .i64 a0_0, .int .i64 a0_1, .int .i64 a0_2, .slice A0_3 l0_3.length c0_3] 34 (0, 0))) := ⟨B.bf4 BM NMP⟩
  have n2_ : Aside0 (((((w4.setCell ⟨gp, 0, none⟩ (.int .i64 p1)).setCell ⟨gp, 1, none⟩ (.int .i64 p2)).setCell ⟨gp, 2, none⟩ (.int .i64 p3)).setCell ⟨gp, 3, none⟩ (.int .i64 p4)).heap[gp]? = some (.cells #[.int .i64 p1, .int .i64 p2, .int .i64 p3, .int .i64 p4] 56 (0, 0))) := ⟨B.bp4 BP⟩
  have n3_ : Aside0 (Below w.heap.size w ((((w4.setCell ⟨gp, 0, none⟩ (.int .i64 p1)).setCell ⟨gp, 1, none⟩ (.int .i64 p2)).setCell ⟨gp, 2, none⟩ (.int .i64 p3)).setCell ⟨gp, 3, none⟩ (.int .i64 p4))) := ⟨below_set (below_set (below_set (below_set HB.out GP.out) GP.out) GP.out) GP.out⟩
  clear HO BM BP HB hp0 hp1 hp2 hp3 hq0 hq1 hq2 hq3 H2
  have HO := n0_
  have BM := n1_
  have BP := n2_
  have HB := n3_
  clear n0_ n1_ n2_ n3_
  generalize ((((w4.setCell ⟨gp, 0, none⟩ (.int .i64 p1)).setCell ⟨gp, 1, none⟩ (.int .i64 p2)).setCell ⟨gp, 2, none⟩ (.int .i64 p3)).setCell ⟨gp, 3, none⟩ (.int .i64 p4)) = w5 at HO BM BP HB ⊢
  have hm0 : w5.cell? ⟨w.heap.size, 0, none⟩ = some (.int .i64 a0_0) := (blk_cell BM.out 0).trans rfl
  have hm1 : w5.cell? ⟨w.heap.size, 1, none⟩ = some (.int .i64 a0_1) := (blk_cell BM.out 1).trans rfl
  have hm2 : w5.cell? ⟨w.heap.size, 2, none⟩ = some (.int .i64 a0_2) := (blk_cell BM.out 2).trans rfl
  have hm3 : w5.cell? ⟨w.heap.size, 3, none⟩ = some (.slice A0_3 l0_3.length c0_3) := (blk_cell BM.out 3).trans rfl
  have hp0 : w5.cell? ⟨gp, 0, none⟩ = some (.int .i64 p1) := B.bc BP 0
  have hp1 : w5.cell? ⟨gp, 1, none⟩ = some (.int .i64 p2) := B.bc BP 1
  have hp2 : w5.cell? ⟨gp, 2, none⟩ = some (.int .i64 p3) := B.bc BP 2
  have hp3 : w5.cell? ⟨gp, 3, none⟩ = some (.int .i64 p4) := B.bc BP 3
  go_wp2_with fail
  refine (H3.out _).mono ?_
  rintro e w6 ⟨vr, rfl, hr0, hb6⟩
  clear hm0 hm1 hm2 hm3 hp0 hp1 hp2 hp3 H3
  have HRS := Aside0.mk (Kd.R_tight rfl (Kd.R_lower hr0 HB.out.size))
  have HN := Aside0.mk (show ∀ j, some j = vr.ownBlock → some j ≠ v2.ownBlock from fun j h1 h2 => absurd (Kd.R_lt HO.out j h2.symm) (Nat.not_lt.2 (Kd.R_base hr0 j h1.symm)))
  clear hr0
  have n0_ := Aside0.mk (Kd.R_below HO.out hb6)
  have n1_ := Aside0.mk (blk_below BM.out hb6)
  have n2_ := Aside0.mk (blk_below BP.out hb6)
  have n3_ := Aside0.mk (below_step HB.out hb6)
  clear HO BM BP HB hb6
  have HO := n0_
  have BM := n1_
  have BP := n2_
  have HB := n3_
  clear n0_ n1_ n2_ n3_
  obtain ⟨Ar, cr, er⟩ := Kd.R_slice HRS.out
  subst er
  go_wp2
  go_loopg [5, 30] rs.length (fun gg v5 v30 wr => ∃ (y : Int) (vo : Value), vo = v5 ∧ v30 = .int .i64 y ∧ Aside0 (0 ≤ y ∧ y ≤ (rs.length : Int) ∧ rs.length - y.toNat ≤ gg) ∧ Aside0 (wr.heap[w.heap.size]? = some (.cells #[.int .i64 a0_0, .int .i64 a0_1, .int .i64 a0_2, .slice A0_3 l0_3.length c0_3] 34 (0, 0))) ∧ Aside0 (wr.heap[gp]? = some (.cells #[.int .i64 p1, .int .i64 p2, .int .i64 p3, .int .i64 p4] 56 (0, 0))) ∧ Aside0 (Kd.R (Kd.int .i64) 3 wr w.heap.size (fun j => some j = (.slice Ar rs.length cr : Value).ownBlock) (.slice Ar rs.length cr : Value) rs) ∧ Aside0 (Kd.R (Kd.int .i64) 3 wr w.heap.size (fun _ => True) vo (pre1 a0_0.toNat a0_2.toNat l0_3 rs cs y.toNat)) ∧ Aside0 (∀ j, some j = (.slice Ar rs.length cr : Value).ownBlock → some j ≠ vo.ownBlock) ∧ Aside0 (Below w.heap.size w wr))
  case atStart => exact ⟨0, _, rfl, rfl, ⟨by omega⟩, BM, BP, HRS, ⟨by rw [show (0 : Int).toNat = 0 from rfl, pre1_zero]; exact HO.out⟩, HN, HB⟩
  case round =>
    clear HO BM BP HRS HN HB
    obtain ⟨y, vo, rfl, rfl, HY, BM, BP, HRS, HO, HN, HB⟩ := hrel
    by_cases cy : y < (rs.length : Int)
    · have cyb : decide (y < (rs.length : Int)) = true := decide_eq_true cy
      have HCY := Aside0.mk cy
      have p1' : 0 ≤ y := HY.out.1
      have q1' : y < (rs.length : Int) := cy
      clear cy
      obtain ⟨gr, cr', er, gb, gl, HG⟩ := Kd.R_form HRS.out (by omega)
      injection er with ea_ en_ ec_
      subst ea_
      subst ec_
      clear en_ gb gl HG
      obtain ⟨hx0, hf0⟩ := Kd.R_celln 0 HRS.out y p1' q1'
      replace hx0 := hx0.trans (show _ = some (Value.int .i64 (rd rs y)) from rfl)
      have hyr := HK.out.2.1 (rd rs y) (rd_mem rs y p1' q1')
      replace p1' := eq_true p1'
      replace q1' := eq_true q1'
      generalize hz : rd rs y = yv at hx0 hyr
      have HZ := Aside0.mk hz
      have HYV := Aside0.mk hyr
      clear hz hyr
      have hm0 : wr.cell? ⟨w.heap.size, 0, none⟩ = some (.int .i64 a0_0) := (blk_cell BM.out 0).trans rfl
      have hm1 : wr.cell? ⟨w.heap.size, 1, none⟩ = some (.int .i64 a0_1) := (blk_cell BM.out 1).trans rfl
      have hm2 : wr.cell? ⟨w.heap.size, 2, none⟩ = some (.int .i64 a0_2) := (blk_cell BM.out 2).trans rfl
      have hm3 : wr.cell? ⟨w.heap.size, 3, none⟩ = some (.slice A0_3 l0_3.length c0_3) := (blk_cell BM.out 3).trans rfl
      have hp0 : wr.cell? ⟨gp, 0, none⟩ = some (.int .i64 p1) := B.bc BP 0
      have hp1 : wr.cell? ⟨gp, 1, none⟩ = some (.int .i64 p2) := B.bc BP 1
      have hp2 : wr.cell? ⟨gp, 2, none⟩ = some (.int .i64 p3) := B.bc BP 2
      have hp3 : wr.cell? ⟨gp, 3, none⟩ = some (.int .i64 p4) := B.bc BP 3
      go_wp2_with fail
      refine (H4.out _).mono ?_
      rintro e w7 ⟨vc, rfl, hc0, hb7⟩
      clear hm0 hm1 hm2 hm3 hp0 hp1 hp2 hp3 hx0 hf0
      have HCS := Aside0.mk (Kd.R_tight rfl (Kd.R_lower hc0 HB.out.size))
      have HNC := Aside0.mk (show ∀ j, some j = vc.ownBlock → some j ≠ vo.ownBlock from fun j h1 h2 => absurd (Kd.R_lt HO.out j h2.symm) (Nat.not_lt.2 (Kd.R_base hc0 j h1.symm)))
      clear hc0
      have n0_ := Aside0.mk (Kd.R_below HO.out hb7)
      have n1_ := Aside0.mk (Kd.R_below HRS.out hb7)
      have n2_ := Aside0.mk (blk_below BM.out hb7)
      have n3_ := Aside0.mk (blk_below BP.out hb7)
      have n4_ := Aside0.mk (below_step HB.out hb7)
      clear HO HRS BM BP HB hb7
      have HO := n0_
      have HRS := n1_
      have BM := n2_
      have BP := n3_
      have HB := n4_
      clear n0_ n1_ n2_ n3_ n4_
      obtain ⟨Ac, cc, ec⟩ := Kd.R_slice HCS.out
      subst ec
      go_wp2
      go_loopg [5, 39] cs.length (fun gg v5 v39 wi => ∃ (x : Int) (vi : Value), vi = v5 ∧ v39 = .int .i64 x ∧ Aside0 (0 ≤ x ∧ x ≤ (cs.length : Int) ∧ cs.length - x.toNat ≤ gg) ∧ Aside0 (wi.heap[w.heap.size]? = some (.cells #[.int .i64 a0_0, .int .i64 a0_1, .int .i64 a0_2, .slice A0_3 l0_3.length c0_3] 34 (0, 0))) ∧ Aside0 (wi.heap[gp]? = some (.cells #[.int .i64 p1, .int .i64 p2, .int .i64 p3, .int .i64 p4] 56 (0, 0))) ∧ Aside0 (Kd.R (Kd.int .i64) 3 wi w.heap.size (fun j => some j = (.slice (some ⟨gr, 0, none⟩) rs.length cr : Value).ownBlock) (.slice (some ⟨gr, 0, none⟩) rs.length cr : Value) rs) ∧ Aside0 (Kd.R (Kd.int .i64) 3 wi w.heap.size (fun j => some j = (.slice Ac cs.length cc : Value).ownBlock) (.slice Ac cs.length cc : Value) cs) ∧ Aside0 (Kd.R (Kd.int .i64) 3 wi w.heap.size (fun _ => True) vi (pre2 a0_0.toNat a0_2.toNat l0_3 rs cs y.toNat x.toNat yv)) ∧ Aside0 (∀ j, some j = (.slice (some ⟨gr, 0, none⟩) rs.length cr : Value).ownBlock → some j ≠ vi.ownBlock) ∧ Aside0 (∀ j, some j = (.slice Ac cs.length cc : Value).ownBlock → some j ≠ vi.ownBlock) ∧ Aside0 (Below w.heap.size w wi))
      case atStart => exact ⟨0, _, rfl, rfl, ⟨by omega⟩, BM, BP, HRS, HCS, ⟨by rw [show (0 : Int).toNat = 0 from rfl, pre2_zero]; exact HO.out⟩, HN, HNC, HB⟩
      case round =>
        clear HO BM BP HRS HCS HN HNC HB
        obtain ⟨x, vi, rfl, rfl, HX, BM, BP, HRS, HCS, HO, HN, HNC, HB⟩ := hrel
        by_cases cx : x < (cs.length : Int)
        · have cxb : decide (x < (cs.length : Int)) = true := decide_eq_true cx
          have HCX := Aside0.mk cx
          have p2' : 0 ≤ x := HX.out.1
          have q2' : x < (cs.length : Int) := cx
          clear cx
          obtain ⟨gc, cc', ec, gb, gl, HG⟩ := Kd.R_form HCS.out (by omega)
          injection ec with ea_ en_ ec_
          subst ea_
          subst ec_
          clear en_ gb gl HG
          obtain ⟨hx0, hf0⟩ := Kd.R_celln 0 HCS.out x p2' q2'
          replace hx0 := hx0.trans (show _ = some (Value.int .i64 (rd cs x)) from rfl)
          have hxr := HK.out.1 (rd cs x) (rd_mem cs x p2' q2')
          have HST := Aside0.mk (pre2_step a0_0.toNat a0_2.toNat l0_3 rs cs y.toNat yv x p2' q2')
          have HLE := Aside0.mk (pre2_le a0_0.toNat a0_2.toNat l0_3 rs cs x.toNat y HY.out.1 HCY.out)
          rw [HZ.out] at HLE
          have HW : Aside0 (wrap64 (x + 1) = x + 1) := ⟨B.w64 (by omega) (by have := HK.out.2.2.2.1; omega)⟩
          replace p2' := eq_true p2'
          replace q2' := eq_true q2'
          generalize rd cs x = xv at hx0 hxr HST
          have HXV := Aside0.mk hxr
          clear hxr
          generalize hout : pre2 a0_0.toNat a0_2.toNat l0_3 rs cs y.toNat x.toNat yv = out at HO HST HLE
          clear hout
          have hm0 : wr.cell? ⟨w.heap.size, 0, none⟩ = some (.int .i64 a0_0) := (blk_cell BM.out 0).trans rfl
          have hm1 : wr.cell? ⟨w.heap.size, 1, none⟩ = some (.int .i64 a0_1) := (blk_cell BM.out 1).trans rfl
          have hm2 : wr.cell? ⟨w.heap.size, 2, none⟩ = some (.int .i64 a0_2) := (blk_cell BM.out 2).trans rfl
          have hm3 : wr.cell? ⟨w.heap.size, 3, none⟩ = some (.slice A0_3 l0_3.length c0_3) := (blk_cell BM.out 3).trans rfl
          obtain ⟨Av, cv, ev⟩ := Kd.R_slice HO.out
          have HEV := Aside0.mk ev
          clear ev
          go_wp2_with fail
          refine (H5.out _ HB.out xv yv HXV.out HYV.out).mono ?_
          rintro e w8 ⟨A1, c1, rfl, hc1, hC, hb8⟩
          clear hm0 hm1 hm2 hm3 hx0 hf0
          have HC := Aside0.mk hC
          have HP4 := Aside0.mk (HPL.out xv.toNat yv.toNat)
          generalize B.pix l0_3 a0_0.toNat a0_2.toNat xv.toNat yv.toNat = px at HC HST HP4
          clear hC hc1
          have n0_ := Aside0.mk (Kd.R_below HO.out hb8)
          have n1_ := Aside0.mk (Kd.R_below HRS.out hb8)
          have n2_ := Aside0.mk (Kd.R_below HCS.out hb8)
          have n3_ := Aside0.mk (blk_below BM.out hb8)
          have n4_ := Aside0.mk (blk_below BP.out hb8)
          have n5_ := Aside0.mk (below_step HB.out hb8)
          clear HO HRS HCS BM BP HB hb8
          have HO := n0_
          have HRS := n1_
          have HCS := n2_
          have BM := n3_
          have BP := n4_
          have HB := n5_
          clear n0_ n1_ n2_ n3_ n4_ n5_
          go_wp2_with (first | ((with_reducible refine gate_builtin (b := .append) (xs := #[.tmp 43, .tmp 47]) rfl ?_); at_builtin; refine Kd.R_append_rows (Kd.int .i64) (w0 := w) w.heap.size rfl (.tmp 43) (.tmp 47) 32 3 (.int .i64 0) 8 rfl Try.underlying32 info3 rfl (by decide) (by omega) vi out px _ _ _ (fun _ => True) (fun _ => False) rfl rfl ?aO ?aR (fun _ _ h => h) (fun _ h => h.elim) ?aF ?aB ?aS ?aL ?_; (case aR => exact HC.out); (case aB => exact HB.out); (case aF => exact (fun _ _ => trivial)); (case aO => exact HO.out); (case aS => exact HB.out.size); (case aL => have := HP4.out; have := HLE.out; have := HK.out.2.2.2.2; omega); intro v9 w9 ho9 hb9 hg9 hat9; rw [HST.out] at ho9; have n0_ := Aside0.mk ho9; have n1_ := Aside0.mk (Kd.R_grown HRS.out hg9 HN.out); have n2_ := Aside0.mk (Kd.R_grown HCS.out hg9 HNC.out); have n3_ := Aside0.mk (blk_grown BM.out hg9 (Kd.R_ne HO.out BM.out (by decide))); have n4_ := Aside0.mk (blk_grown BP.out hg9 (Kd.R_ne HO.out BP.out (by decide))); have n5_ := Aside0.mk hb9; have n6_ := Aside0.mk (B.apart_grown HN.out (Kd.R_lt HRS.out) hat9); have n7_ := Aside0.mk (B.apart_grown HNC.out (Kd.R_lt HCS.out) hat9); clear HO HRS HCS BM BP HB HN HNC ho9 hb9 hg9 hat9 HC; have HO := n0_; have HRS := n1_; have HCS := n2_; have BM := n3_; have BP := n4_; have HB := n5_; have HN := n6_; have HNC := n7_; clear n0_ n1_ n2_ n3_ n4_ n5_ n6_ n7_))
          go_roundg (cs.length - (x + 1).toNat)
          case measure => have := HX.out; have := HCX.out; omega
          case rel =>
            refine ⟨wrap64 (x + 1), _, rfl, rfl, ⟨?_⟩, BM, BP, HRS, HCS, ⟨?_⟩, HN, HNC, HB⟩
            · rw [HW.out]; have := HX.out; have := HCX.out; omega
            · rw [HW.out]; exact HO.out
        · have cxb : decide (x < (cs.length : Int)) = false := decide_eq_false cx
          have ex : x.toNat = cs.length := by have := HX.out; omega
          have HA := Aside0.mk (pre2_all a0_0.toNat a0_2.toNat l0_3 rs cs y HY.out.1 HCY.out)
          rw [HZ.out] at HA
          rw [ex, HA.out] at HO
          clear ex cx HA
          have HW : Aside0 (wrap64 (y + 1) = y + 1) := ⟨B.w64 (by have := HY.out; omega) (by have := HK.out.2.2.1; have := HCY.out; omega)⟩
          go_wp2
          go_roundg (rs.length - (y + 1).toNat)
          case measure => have := HY.out; have := HCY.out; omega
          case rel =>
            refine ⟨wrap64 (y + 1), _, rfl, rfl, ⟨?_⟩, BM, BP, HRS, ⟨?_⟩, HN, HB⟩
            · rw [HW.out]; have := HY.out; have := HCY.out; omega
            · rw [HW.out]; exact HO.out
    · have cyb : decide (y < (rs.length : Int)) = false := decide_eq_false cy
      have ey : y.toNat = rs.length := by have := HY.out; omega
      rw [ey, pre1_all] at HO
      clear ey cy
      go_wp2
      go_ret
      exact ⟨_, rfl, HO.out, HB.out⟩
theorem impl_PassData.calls (k : Nat) (a0_0 : Int) (a0_1 : Int) (a0_2 : Int) (A0_3 : Option Addr) (c0_3 : Nat) (l0_3 : List Int) (a1 : Int) (r : List Int) (w : World) (hr0_3 : Kd.C (Kd.int .i64) w A0_3 l0_3.length l0_3) (hc0_3 : l0_3.length ≤ c0_3) (h : impl_PassData.f k a0_0 a0_1 a0_2 l0_3 a1 = some r) :
    Calls Try.prog 18 #[.agg #[.int .i64 a0_0, .int .i64 a0_1, .int .i64 a0_2, .slice A0_3 l0_3.length c0_3], .int .i64 a1] w fun e w' => ∃ v0_ : Value, e = .returned (v0_) ∧ Kd.R (Kd.int .i64) 3 w' w.heap.size (fun _ => True) v0_ r ∧ Below w.heap.size w w' := by
  unfold impl_PassData.f at h
  by_cases hv : B.okImg a0_0 a0_1 a0_2 l0_3 = true
  case neg =>
    exact (by
    rw [if_neg (fun g => hv g.1)] at h
    obtain rfl := Option.some.inj h
    exact pass_no a0_0 a0_1 a0_2 A0_3 c0_3 l0_3 a1 w hr0_3 hc0_3 (Bool.eq_false_iff.2 hv))
  by_cases t1 : a1 < 0
  · exact (by
    rw [if_neg (fun g => by have := g.2; omega)] at h
    obtain rfl := Option.some.inj h
    exact pass_lo a0_0 a0_1 a0_2 A0_3 c0_3 l0_3 a1 w hr0_3 hc0_3 hv t1)
  by_cases t2 : 6 < a1
  · exact (by
    rw [if_neg (fun g => by have := g.2; omega)] at h
    obtain rfl := Option.some.inj h
    exact pass_hi a0_0 a0_1 a0_2 A0_3 c0_3 l0_3 a1 w hr0_3 hc0_3 hv t1 t2)
  rw [if_pos ⟨hv, by omega, by omega⟩] at h
  obtain ⟨⟨p1, p2, p3, p4⟩, hT, h⟩ := Option.bind_eq_some_iff.mp h
  obtain ⟨rs, hrs, h⟩ := Option.bind_eq_some_iff.mp h
  obtain ⟨cs, hcs, h⟩ := Option.bind_eq_some_iff.mp h
  by_cases hok : passOk a0_0 a0_1 rs cs (passAll a0_0.toNat a0_2.toNat l0_3 rs cs).length = true
  · rw [if_pos hok] at h
    obtain rfl := Option.some.inj h
    exact pass_yes k p1 p2 p3 p4 rs cs a0_0 a0_1 a0_2 A0_3 c0_3 l0_3 a1 w hr0_3 hc0_3 hv t1 t2 hT hrs hcs hok
  · rw [if_neg hok] at h
    cases h

/-! ### impl_ValidImage: function 19 -/
def impl_ValidImage.f (a0_0 : Int) (a0_1 : Int) (a0_2 : Int) (l0_3 : List Int) : Option (Bool) := (impl_isImage.f a0_0 a0_1 a0_2 l0_3).bind fun t126 => (some t126)
set_option maxHeartbeats 8000000 in
set_option maxRecDepth 100000 in
theorem impl_ValidImage.calls (a0_0 : Int) (a0_1 : Int) (a0_2 : Int) (A0_3 : Option Addr) (c0_3 : Nat) (l0_3 : List Int) (r : Bool) (w : World) (hr0_3 : Kd.C (Kd.int .i64) w A0_3 l0_3.length l0_3) (hc0_3 : l0_3.length ≤ c0_3) (h : impl_ValidImage.f a0_0 a0_1 a0_2 l0_3 = some r) :
    Calls Try.prog 19 #[.agg #[.int .i64 a0_0, .int .i64 a0_1, .int .i64 a0_2, .slice A0_3 l0_3.length c0_3]] w fun e w' => e = .returned (.bool r) ∧ Below w.heap.size w w' := by
  have hu34 := Try.underlying34
  have HR0_3 := Aside0.mk hr0_3
  have HC0_3 := Aside0.mk hc0_3
  clear hr0_3 hc0_3
  have HB := Aside0.mk (Below.refl w.heap.size w)
  have H : ((impl_isImage.f a0_0 a0_1 a0_2 l0_3).bind fun t126 => (some t126)) = some r := h
  clear h
  replace H := Option.bind_eq_some_iff.mp H
  obtain ⟨t126, A20, H⟩ := H
  replace H : (some t126) = some r := H
  have A2 := Aside0.mk A20
  clear A20
  obtain rfl := Option.some.inj H
  simp only [Option.some.injEq, Prod.mk.injEq] at H
  obtain ⟨rfl⟩ := H
  go_enter Try.func19, Try.ntmps19
  go_wp2_with (first | ((with_reducible refine gate_dst (N := 1) rfl ?_); refine box_event ?hg (N := 1) ?hd (cs := #[.int .i64 a0_0, .int .i64 a0_1, .int .i64 a0_2, .slice A0_3 l0_3.length c0_3]) (t := 34) ?hr ?_; (case hd => rfl); (case hg => rfl); (case hr => first | (go_simp; done) | (go_simp; rfl)); intro gb125 hg w3 hbox hb; have n0_ := Aside0.mk (below_step (B.bl HB) hb); have n1_ := Aside0.mk (hbox); have n2_ := Aside0.mk (B.nle hg (below_size (B.bl HB))); have n3_ := Aside0.mk (B.nle hg (below_size (B.bl HB))); clear HB; have HB := n0_; have BK125 := n1_; have GW125 := n2_; have GE125 := n3_; clear n0_ n1_ n2_ n3_; clear hb hbox hg; have hcz4_0 : w3.cell? ⟨gb125, 0, none⟩ = some (.int .i64 a0_0) := B.bc BK125 0; have hcz4_1 : w3.cell? ⟨gb125, 1, none⟩ = some (.int .i64 a0_1) := B.bc BK125 1; have hcz4_2 : w3.cell? ⟨gb125, 2, none⟩ = some (.int .i64 a0_2) := B.bc BK125 2; have hcz4_3 : w3.cell? ⟨gb125, 3, none⟩ = some (.slice A0_3 l0_3.length c0_3) := B.bc BK125 3; have hfz4_0 := blk_frozen BK125.out 0; have hfz4_1 := blk_frozen BK125.out 1; have hfz4_2 := blk_frozen BK125.out 2; have hfz4_3 := blk_frozen BK125.out 3) | ((with_reducible refine gate_callee (f := 51) rfl ?_); refine goesL_ (some 4) rfl rfl Try.func51 (by kernel_rfl) rfl #[.agg #[.int .i64 a0_0, .int .i64 a0_1, .int .i64 a0_2, .slice A0_3 l0_3.length c0_3]] rfl B.am ?_; (with_reducible refine (impl_isImage.calls a0_0 a0_1 a0_2 _ _ l0_3 t126 _ ?side1 ?side2 A2.out).mono ?_); (case side1 => exact B.kc (Kd.C_below HR0_3.out HB.out)); (case side2 => exact HC0_3.out); rintro e w5 ⟨rfl, hb⟩; refine ⟨_, rfl, ?_⟩; have n0_ := Aside0.mk (blk_below (B.kb BK125) hb); have n1_ := Aside0.mk (below_step (B.bl HB) hb); clear BK125 HB; have BK125 := n0_; have HB := n1_; clear n0_ n1_; (try clear hb); (try clear hb2); (try clear hk); (try clear hi)))
  go_ret
  exact ⟨by first | rfl | (simp [errW_none, errW_some] <;> rfl) | (simp [*, errW_none, errW_some] <;> rfl), B.bl HB⟩

/-! ### spec_validImage: function 53 -/
def spec_validImage.f (k : Nat) (a0_0 : Int) (a0_1 : Int) (a0_2 : Int) (l0_3 : List Int) : Option (Bool) := (spec_validShape.f a0_0 a0_1 a0_2).bind fun t133 => (if t133 = true then (if (l0_3.length : Int) = (wrap64 ((wrap64 (a0_0 * a0_1)) * a0_2)) then ((spec_allIn.f k l0_3 0 255).bind fun t134 => (some t134)) else (some false)) else (some false))
theorem spec_validImage.mono : ∀ a0 a1 a2 a3 k, LeO (spec_validImage.f k a0 a1 a2 a3) (spec_validImage.f (k + 1) a0 a1 a2 a3) := by
  intro a0 a1 a2 a3 k
  unfold spec_validImage.f
  repeat' first
      | (with_reducible exact spec_allIn.mono _ _ _ _)
      | (with_reducible exact LeO.refl _)
      | (with_reducible exact LeO.none _)
      | (with_reducible refine LeO.ite ?_ ?_)
      | (with_reducible refine LeO.bind ?_ (fun _ => ?_))
      | exact spec_allIn.mono _ _ _ _
      | exact LeO.none _
      | refine LeO.ite ?_ ?_
      | refine LeO.bind ?_ (fun _ => ?_)
set_option maxHeartbeats 8000000 in
set_option maxRecDepth 100000 in
theorem spec_validImage.calls (k : Nat) (a0_0 : Int) (a0_1 : Int) (a0_2 : Int) (A0_3 : Option Addr) (c0_3 : Nat) (l0_3 : List Int) (r : Bool) (w : World) (hr0_3 : Kd.C (Kd.int .i64) w A0_3 l0_3.length l0_3) (hc0_3 : l0_3.length ≤ c0_3) (h : spec_validImage.f k a0_0 a0_1 a0_2 l0_3 = some r) :
    Calls Try.prog 53 #[.agg #[.int .i64 a0_0, .int .i64 a0_1, .int .i64 a0_2, .slice A0_3 l0_3.length c0_3]] w fun e w' => e = .returned (.bool r) ∧ Below w.heap.size w w' := by
  have hu34 := Try.underlying34
  have HR0_3 := Aside0.mk hr0_3
  have HC0_3 := Aside0.mk hc0_3
  clear hr0_3 hc0_3
  have HB := Aside0.mk (Below.refl w.heap.size w)
  have H : ((spec_validShape.f a0_0 a0_1 a0_2).bind fun t133 => (if t133 = true then (if (l0_3.length : Int) = (wrap64 ((wrap64 (a0_0 * a0_1)) * a0_2)) then ((spec_allIn.f k l0_3 0 255).bind fun t134 => (some t134)) else (some false)) else (some false))) = some r := h
  clear h
  replace H := Option.bind_eq_some_iff.mp H
  obtain ⟨t133, A20, H⟩ := H
  replace H : (if t133 = true then (if (l0_3.length : Int) = (wrap64 ((wrap64 (a0_0 * a0_1)) * a0_2)) then ((spec_allIn.f k l0_3 0 255).bind fun t134 => (some t134)) else (some false)) else (some false)) = some r := H
  have A2 := Aside0.mk A20
  clear A20
  by_cases c3 : t133 = true
  · subst c3
    have H1 : (if (l0_3.length : Int) = (wrap64 ((wrap64 (a0_0 * a0_1)) * a0_2)) then ((spec_allIn.f k l0_3 0 255).bind fun t134 => (some t134)) else (some false)) = some r := by rw [if_pos rfl] at H; exact H
    clear H
    have H := H1
    clear H1
    by_cases c4 : (l0_3.length : Int) = (wrap64 ((wrap64 (a0_0 * a0_1)) * a0_2))
    · rw [if_pos c4] at H
      have c4b0 : ((l0_3.length : Int) == (wrap64 ((wrap64 (a0_0 * a0_1)) * a0_2))) = true := beq_iff_eq.mpr c4
      have c4b1 : ((l0_3.length : Int) != (wrap64 ((wrap64 (a0_0 * a0_1)) * a0_2))) = false := bne_eq_false_iff_eq.mpr c4
      clear c4
      replace H := Option.bind_eq_some_iff.mp H
      obtain ⟨t134, A50, H⟩ := H
      replace H : (some t134) = some r := H
      have A5 := Aside0.mk A50
      clear A50
      obtain rfl := Option.some.inj H
      simp only [Option.some.injEq, Prod.mk.injEq] at H
      obtain ⟨rfl⟩ := H
      go_enter Try.func53, Try.ntmps53
      go_wp2_with (first | ((with_reducible refine gate_dst (N := 1) rfl ?_); (try (refine gate_guard (by rfl) ?_; dsimp only)); refine box_event ?hg (N := 1) ?hd (cs := #[.int .i64 a0_0, .int .i64 a0_1, .int .i64 a0_2, .slice A0_3 l0_3.length c0_3]) (t := 34) ?hr ?_; (case hd => rfl); (case hg => rfl); (case hr => first | (go_simp; done) | (go_simp; rfl)); intro gb132 hg w6 hbox hb; have n0_ := Aside0.mk (below_step (B.bl HB) hb); have n1_ := Aside0.mk (hbox); have n2_ := Aside0.mk (B.nle hg (below_size (B.bl HB))); have n3_ := Aside0.mk (B.nle hg (below_size (B.bl HB))); clear HB; have HB := n0_; have BK132 := n1_; have GW132 := n2_; have GE132 := n3_; clear n0_ n1_ n2_ n3_; clear hb hbox hg; have hcz7_0 : w6.cell? ⟨gb132, 0, none⟩ = some (.int .i64 a0_0) := B.bc BK132 0; have hcz7_1 : w6.cell? ⟨gb132, 1, none⟩ = some (.int .i64 a0_1) := B.bc BK132 1; have hcz7_2 : w6.cell? ⟨gb132, 2, none⟩ = some (.int .i64 a0_2) := B.bc BK132 2; have hcz7_3 : w6.cell? ⟨gb132, 3, none⟩ = some (.slice A0_3 l0_3.length c0_3) := B.bc BK132 3; have hfz7_0 := blk_frozen BK132.out 0; have hfz7_1 := blk_frozen BK132.out 1; have hfz7_2 := blk_frozen BK132.out 2; have hfz7_3 := blk_frozen BK132.out 3) | ((with_reducible refine gate_callee (f := 35) rfl ?_); refine goesL_ (some 9) rfl rfl Try.func35 (by kernel_rfl) rfl #[.int .i64 a0_0, .int .i64 a0_1, .int .i64 a0_2] rfl B.am ?_; (with_reducible refine (spec_validShape.calls a0_0 a0_1 a0_2 true _ A2.out).mono ?_); rintro e w' ⟨rfl, ⟨nd, rfl⟩⟩; refine ⟨_, rfl, ?_⟩) | (go_at_call 49; (with_reducible refine (spec_allIn.calls k _ _ l0_3 0 255 t134 _ ?side1 ?side2 A5.out).mono ?_); (case side1 => exact B.kc (Kd.C_below HR0_3.out (B.bl HB))); (case side2 => exact HC0_3.out); rintro e w' ⟨rfl, ⟨nd, rfl⟩⟩))
      go_ret
      exact ⟨by first | rfl | (simp [errW_none, errW_some] <;> rfl) | (simp [*, errW_none, errW_some] <;> rfl), B.bl HB⟩
    rw [if_neg c4] at H
    have c4b0 : ((l0_3.length : Int) == (wrap64 ((wrap64 (a0_0 * a0_1)) * a0_2))) = false := beq_eq_false_iff_ne.mpr c4
    have c4b1 : ((l0_3.length : Int) != (wrap64 ((wrap64 (a0_0 * a0_1)) * a0_2))) = true := bne_iff_ne.mpr c4
    obtain rfl := Option.some.inj H
    simp only [Option.some.injEq, Prod.mk.injEq] at H
    obtain ⟨rfl⟩ := H
    go_enter Try.func53, Try.ntmps53
    go_wp2_with (first | ((with_reducible refine gate_dst (N := 1) rfl ?_); (try (refine gate_guard (by rfl) ?_; dsimp only)); refine box_event ?hg (N := 1) ?hd (cs := #[.int .i64 a0_0, .int .i64 a0_1, .int .i64 a0_2, .slice A0_3 l0_3.length c0_3]) (t := 34) ?hr ?_; (case hd => rfl); (case hg => rfl); (case hr => first | (go_simp; done) | (go_simp; rfl)); intro gb132 hg w8 hbox hb; have n0_ := Aside0.mk (below_step (B.bl HB) hb); have n1_ := Aside0.mk (hbox); have n2_ := Aside0.mk (B.nle hg (below_size (B.bl HB))); have n3_ := Aside0.mk (B.nle hg (below_size (B.bl HB))); clear HB; have HB := n0_; have BK132 := n1_; have GW132 := n2_; have GE132 := n3_; clear n0_ n1_ n2_ n3_; clear hb hbox hg; have hcz9_0 : w8.cell? ⟨gb132, 0, none⟩ = some (.int .i64 a0_0) := B.bc BK132 0; have hcz9_1 : w8.cell? ⟨gb132, 1, none⟩ = some (.int .i64 a0_1) := B.bc BK132 1; have hcz9_2 : w8.cell? ⟨gb132, 2, none⟩ = some (.int .i64 a0_2) := B.bc BK132 2; have hcz9_3 : w8.cell? ⟨gb132, 3, none⟩ = some (.slice A0_3 l0_3.length c0_3) := B.bc BK132 3; have hfz9_0 := blk_frozen BK132.out 0; have hfz9_1 := blk_frozen BK132.out 1; have hfz9_2 := blk_frozen BK132.out 2; have hfz9_3 := blk_frozen BK132.out 3) | ((with_reducible refine gate_callee (f := 35) rfl ?_); refine goesL_ (some 9) rfl rfl Try.func35 (by kernel_rfl) rfl #[.int .i64 a0_0, .int .i64 a0_1, .int .i64 a0_2] rfl B.am ?_; (with_reducible refine (spec_validShape.calls a0_0 a0_1 a0_2 true _ A2.out).mono ?_); rintro e w' ⟨rfl, ⟨nd, rfl⟩⟩; refine ⟨_, rfl, ?_⟩))
    go_ret
    exact ⟨by first | rfl | (simp [errW_none, errW_some] <;> rfl) | (simp [*, errW_none, errW_some] <;> rfl), B.bl HB⟩
  replace c3 := Bool.eq_false_iff.mpr c3
  subst c3
  have H1 : (some false) = some r := by rw [if_neg (show ¬ (false = true) by decide)] at H; exact H
  clear H
  have H := H1
  clear H1
  obtain rfl := Option.some.inj H
  simp only [Option.some.injEq, Prod.mk.injEq] at H
  obtain ⟨rfl⟩ := H
  go_enter Try.func53, Try.ntmps53
  go_wp2_with (first | ((with_reducible refine gate_dst (N := 1) rfl ?_); (try (refine gate_guard (by rfl) ?_; dsimp only)); refine box_event ?hg (N := 1) ?hd (cs := #[.int .i64 a0_0, .int .i64 a0_1, .int .i64 a0_2, .slice A0_3 l0_3.length c0_3]) (t := 34) ?hr ?_; (case hd => rfl); (case hg => rfl); (case hr => first | (go_simp; done) | (go_simp; rfl)); intro gb132 hg w10 hbox hb; have n0_ := Aside0.mk (below_step (B.bl HB) hb); have n1_ := Aside0.mk (hbox); have n2_ := Aside0.mk (B.nle hg (below_size (B.bl HB))); have n3_ := Aside0.mk (B.nle hg (below_size (B.bl HB))); clear HB; have HB := n0_; have BK132 := n1_; have GW132 := n2_; have GE132 := n3_; clear n0_ n1_ n2_ n3_; clear hb hbox hg; have hcz11_0 : w10.cell? ⟨gb132, 0, none⟩ = some (.int .i64 a0_0) := B.bc BK132 0; have hcz11_1 : w10.cell? ⟨gb132, 1, none⟩ = some (.int .i64 a0_1) := B.bc BK132 1; have hcz11_2 : w10.cell? ⟨gb132, 2, none⟩ = some (.int .i64 a0_2) := B.bc BK132 2; have hcz11_3 : w10.cell? ⟨gb132, 3, none⟩ = some (.slice A0_3 l0_3.length c0_3) := B.bc BK132 3; have hfz11_0 := blk_frozen BK132.out 0; have hfz11_1 := blk_frozen BK132.out 1; have hfz11_2 := blk_frozen BK132.out 2; have hfz11_3 := blk_frozen BK132.out 3) | ((with_reducible refine gate_callee (f := 35) rfl ?_); refine goesL_ (some 9) rfl rfl Try.func35 (by kernel_rfl) rfl #[.int .i64 a0_0, .int .i64 a0_1, .int .i64 a0_2] rfl B.am ?_; (with_reducible refine (spec_validShape.calls a0_0 a0_1 a0_2 false _ A2.out).mono ?_); rintro e w' ⟨rfl, ⟨nd, rfl⟩⟩; refine ⟨_, rfl, ?_⟩))
  go_ret
  exact ⟨by first | rfl | (simp [errW_none, errW_some] <;> rfl) | (simp [*, errW_none, errW_some] <;> rfl), B.bl HB⟩

/-! ### spec_copyInts: function 61 -/
def spec_copyInts.f (l0 : List Int) : Option (List Int) := (some (([] : List Int) : List Int)).bind fun y164 => (if y164.length + l0.length < 17592186044416 then (some (y164 ++ l0)) else (none))
set_option maxHeartbeats 8000000 in
set_option maxRecDepth 100000 in
theorem spec_copyInts.calls (A0 : Option Addr) (c0 : Nat) (l0 : List Int) (r : List Int) (w : World) (hr0 : Kd.C (Kd.int .i64) w A0 l0.length l0) (hc0 : l0.length ≤ c0) (h : spec_copyInts.f l0 = some r) :
    Calls Try.prog 61 #[.slice A0 l0.length c0] w fun e w' => ∃ v0_ : Value, e = .returned (v0_) ∧ Kd.R (Kd.int .i64) 3 w' w.heap.size (fun _ => True) v0_ r ∧ Below w.heap.size w w' := by
  have HR0 := Aside0.mk hr0
  have HC0 := Aside0.mk hc0
  clear hr0 hc0
  have HB := Aside0.mk (Below.refl w.heap.size w)
  have H : ((some (([] : List Int) : List Int)).bind fun y164 => (if y164.length + l0.length < 17592186044416 then (some (y164 ++ l0)) else (none))) = some r := h
  clear h
  obtain ⟨y164, hy164⟩ : ∃ y_ : List Int, y_ = (([] : List Int)) := ⟨_, rfl⟩
  replace H : (if y164.length + l0.length < 17592186044416 then (some (y164 ++ l0)) else (none)) = some r := by first | (rw [hy164]; with_reducible exact H) | (have H2_ := (Option.bind_some _ _).symm.trans H; rw [hy164]; with_reducible exact H2_) | (have H2_ := (Option.bind_some _ _).symm.trans H; with_reducible exact H2_) | with_reducible exact H | (rw [hy164]; exact H) | exact H
  have Ny164 := Aside0.mk hy164
  clear hy164
  by_cases c2 : y164.length + l0.length < 17592186044416
  · rw [if_pos c2] at H
    have LMc2 := Aside0.mk c2
    clear c2
    obtain ⟨y167, hy167⟩ : ∃ y_ : List Int, y_ = (y164 ++ l0) := ⟨_, rfl⟩
    replace H : (some y167) = some r := by first | (rw [hy167]; with_reducible exact H) | (have H2_ := (Option.bind_some _ _).symm.trans H; rw [hy167]; with_reducible exact H2_) | (have H2_ := (Option.bind_some _ _).symm.trans H; with_reducible exact H2_) | with_reducible exact H | (rw [hy167]; exact H) | exact H
    have Ny167 := Aside0.mk hy167
    clear hy167
    obtain rfl := Option.some.inj H
    simp only [Option.some.injEq, Prod.mk.injEq] at H
    obtain ⟨rfl⟩ := H
    go_enter Try.func61, Try.ntmps61
    go_wp2_with (first | ((with_reducible refine gate_dst (N := 3) rfl ?_); refine Kd.R_lit (Kd.int .i64) _ 3 ?hg (N := 3) ?hd (xs := ([] : List Int)) (inner := []) (ok := fun _ => True) (okp := fun _ => True) ?hr ?hp (fun _ hk => hk) trivial (Below.refl _ _) (Nat.le_refl _) (by simp) ?_; (case hd => rfl); (case hg => rfl); (case hr => first | (go_simp; done) | (go_simp; rfl)); (case hp => exact (Reps.none _ _)); intro v165 w3 ho4 hb hg_ hnew_; clear hg_ hnew_; (first | rw [← Ny164.out] at ho4 | (simp only [Int.reduceToNat] at ho4; rw [← Ny164.out] at ho4)); have n0_ := Aside0.mk (Kd.R_lower ho4 (below_size (B.bl HB))); have n1_ := Aside0.mk (below_step (B.bl HB) hb); clear HB; have HO166 := n0_; have HB := n1_; clear n0_ n1_; clear hb ho4) | ((with_reducible refine gate_builtin (b := .append) (xs := #[.tmp 3, .tmp 4]) rfl ?_); at_builtin; refine Kd.R_append_rows (Kd.int .i64) (w0 := w) w.heap.size rfl (.tmp 3) (.tmp 4) 32 3 (.int .i64 0) 8 rfl Try.underlying32 info3 rfl (by decide) (by omega) v165 y164 l0 _ _ _ (fun _ => True) (fun _ => False) rfl rfl ?aO ?aR (fun _ _ h => h) (fun _ h => h.elim) ?aF ?aB ?aS ?aL ?_; (case aR => exact B.kc (Kd.C_below HR0.out HB.out)); (case aB => exact (B.bl HB)); (case aF => exact (fun _ _ => trivial)); (case aO => exact (B.kr HO166)); (case aS => exact (below_size (B.bl HB))); (case aL => have := LMc2.out; omega); intro v168 w5 ho hb hg hat; rw [← Ny167.out] at ho; have n0_ := Aside0.mk (hb); have n1_ := Aside0.mk (ho); clear HB HO166; have HB := n0_; have HO169 := n1_; clear n0_ n1_; clear ho hb hg hat))
    go_ret
    exact ⟨_, by first | rfl | (simp [errW_none, errW_some] <;> rfl) | (simp [*, errW_none, errW_some] <;> rfl), by (with_reducible repeat (first | apply Kd.R_alloc | apply Kd.R_drewN | apply Kd.R_drew)); exact HO169.out, B.bl HB⟩
  rw [if_neg c2] at H
  exact absurd H (by simp)

/-! ### spec_pixelAt: function 67 -/
def spec_pixelAt.f (a0_0 : Int) (a0_1 : Int) (a0_2 : Int) (l0_3 : List Int) (a1 : Int) (a2 : Int) : Option (List Int) := if 0 ≤ (wrap64 ((wrap64 ((wrap64 (a2 * a0_0)) + a1)) * a0_2)) then (if (wrap64 ((wrap64 ((wrap64 (a2 * a0_0)) + a1)) * a0_2)) ≤ (wrap64 ((wrap64 ((wrap64 ((wrap64 (a2 * a0_0)) + a1)) * a0_2)) + a0_2)) then (if (wrap64 ((wrap64 ((wrap64 ((wrap64 (a2 * a0_0)) + a1)) * a0_2)) + a0_2)) ≤ (l0_3.length : Int) then ((spec_copyInts.f ((l0_3.take ((wrap64 ((wrap64 ((wrap64 ((wrap64 (a2 * a0_0)) + a1)) * a0_2)) + a0_2)) : Int).toNat).drop ((wrap64 ((wrap64 ((wrap64 (a2 * a0_0)) + a1)) * a0_2)) : Int).toNat)).bind fun t172 => (some t172)) else (none)) else (none)) else (none)
set_option maxHeartbeats 8000000 in
set_option maxRecDepth 100000 in
theorem spec_pixelAt.calls (a0_0 : Int) (a0_1 : Int) (a0_2 : Int) (A0_3 : Option Addr) (c0_3 : Nat) (l0_3 : List Int) (a1 : Int) (a2 : Int) (r : List Int) (w : World) (hr0_3 : Kd.C (Kd.int .i64) w A0_3 l0_3.length l0_3) (hc0_3 : l0_3.length ≤ c0_3) (h : spec_pixelAt.f a0_0 a0_1 a0_2 l0_3 a1 a2 = some r) :
    Calls Try.prog 67 #[.agg #[.int .i64 a0_0, .int .i64 a0_1, .int .i64 a0_2, .slice A0_3 l0_3.length c0_3], .int .i64 a1, .int .i64 a2] w fun e w' => ∃ v0_ : Value, e = .returned (v0_) ∧ Kd.R (Kd.int .i64) 3 w' w.heap.size (fun _ => True) v0_ r ∧ Below w.heap.size w w' := by
  have hu34 := Try.underlying34
  have HR0_3 := Aside0.mk hr0_3
  have HC0_3 := Aside0.mk hc0_3
  clear hr0_3 hc0_3
  have HB := Aside0.mk (Below.refl w.heap.size w)
  have H : (if 0 ≤ (wrap64 ((wrap64 ((wrap64 (a2 * a0_0)) + a1)) * a0_2)) then (if (wrap64 ((wrap64 ((wrap64 (a2 * a0_0)) + a1)) * a0_2)) ≤ (wrap64 ((wrap64 ((wrap64 ((wrap64 (a2 * a0_0)) + a1)) * a0_2)) + a0_2)) then (if (wrap64 ((wrap64 ((wrap64 ((wrap64 (a2 * a0_0)) + a1)) * a0_2)) + a0_2)) ≤ (l0_3.length : Int) then ((spec_copyInts.f ((l0_3.take ((wrap64 ((wrap64 ((wrap64 ((wrap64 (a2 * a0_0)) + a1)) * a0_2)) + a0_2)) : Int).toNat).drop ((wrap64 ((wrap64 ((wrap64 (a2 * a0_0)) + a1)) * a0_2)) : Int).toNat)).bind fun t172 => (some t172)) else (none)) else (none)) else (none)) = some r := h
  clear h
  obtain ⟨ji4, hji4⟩ : ∃ j_ : Int, (wrap64 ((wrap64 ((wrap64 (a2 * a0_0)) + a1)) * a0_2)) = j_ := ⟨_, rfl⟩
  replace H : (if 0 ≤ (ji4) then (if (ji4) ≤ (wrap64 ((ji4) + a0_2)) then (if (wrap64 ((ji4) + a0_2)) ≤ (l0_3.length : Int) then ((spec_copyInts.f ((l0_3.take ((wrap64 ((ji4) + a0_2)) : Int).toNat).drop ((ji4) : Int).toNat)).bind fun t172 => (some t172)) else (none)) else (none)) else (none)) = some r := by first | (rw [hji4] at H; exact H) | (simp only [hji4] at H ⊢; exact H)
  have hji4w : (IntKind.i64.wrap ((wrap64 ((wrap64 (a2 * a0_0)) + a1)) * a0_2)) = ji4 := (i64_w _).trans hji4
  by_cases c5 : 0 ≤ (ji4)
  · rw [if_pos c5] at H
    have c5b0 := eq_true c5
    have c5b1 : decide (0 ≤ (ji4)) = true := decide_eq_true c5
    clear c5
    by_cases c6 : (ji4) ≤ (wrap64 ((ji4) + a0_2))
    · rw [if_pos c6] at H
      have c6b0 := eq_true c6
      have c6b1 : decide ((ji4) ≤ (wrap64 ((ji4) + a0_2))) = true := decide_eq_true c6
      by_cases c7 : (wrap64 ((ji4) + a0_2)) ≤ (l0_3.length : Int)
      · rw [if_pos c7] at H
        have c7b0 := eq_true c7
        have c7b1 : decide ((wrap64 ((ji4) + a0_2)) ≤ (l0_3.length : Int)) = true := decide_eq_true c7
        replace H := Option.bind_eq_some_iff.mp H
        obtain ⟨t172, A80, H⟩ := H
        replace H : (some t172) = some r := H
        have A8 := Aside0.mk A80
        clear A80
        obtain rfl := Option.some.inj H
        simp only [Option.some.injEq, Prod.mk.injEq] at H
        obtain ⟨rfl⟩ := H
        go_enter Try.func67, Try.ntmps67
        go_wp2_with (first | ((with_reducible refine gate_dst (N := 3) rfl ?_); refine box_event ?hg (N := 3) ?hd (cs := #[.int .i64 a0_0, .int .i64 a0_1, .int .i64 a0_2, .slice A0_3 l0_3.length c0_3]) (t := 34) ?hr ?_; (case hd => rfl); (case hg => rfl); (case hr => first | (go_simp; done) | (go_simp; rfl)); intro gb170 hg w9 hbox hb; have n0_ := Aside0.mk (below_step (B.bl HB) hb); have n1_ := Aside0.mk (hbox); have n2_ := Aside0.mk (B.nle hg (below_size (B.bl HB))); have n3_ := Aside0.mk (B.nle hg (below_size (B.bl HB))); clear HB; have HB := n0_; have BK170 := n1_; have GW170 := n2_; have GE170 := n3_; clear n0_ n1_ n2_ n3_; clear hb hbox hg; have hcz10_0 : w9.cell? ⟨gb170, 0, none⟩ = some (.int .i64 a0_0) := B.bc BK170 0; have hcz10_1 : w9.cell? ⟨gb170, 1, none⟩ = some (.int .i64 a0_1) := B.bc BK170 1; have hcz10_2 : w9.cell? ⟨gb170, 2, none⟩ = some (.int .i64 a0_2) := B.bc BK170 2; have hcz10_3 : w9.cell? ⟨gb170, 3, none⟩ = some (.slice A0_3 l0_3.length c0_3) := B.bc BK170 3; have hfz10_0 := blk_frozen BK170.out 0; have hfz10_1 := blk_frozen BK170.out 1; have hfz10_2 := blk_frozen BK170.out 2; have hfz10_3 := blk_frozen BK170.out 3; obtain ⟨i011, hi011, _, hsz11, _⟩ := info_parts info3; obtain ⟨A11, hcut11, hA11, hC11⟩ := print_mid_of (P := Try.prog) (Value.int .i64) 0 32 3 .i64 .i64 Try.underlying32 hi011 hsz11 A0_3 c0_3 l0_3 (ji4) (wrap64 ((ji4) + a0_2)) (of_decide_eq_true (by first | (with_reducible assumption) | assumption)) (by first | omega | exact of_decide_eq_true (by first | (with_reducible assumption) | assumption)) (of_decide_eq_true (by first | (with_reducible assumption) | assumption)) HC0_3.out; have HR171 := Aside0.mk (Kd.C_of_reads (h1 := fun _ => rfl) (hA11 _ (Kd.reads_of_C HR0_3.out))); have HC171 := Aside0.mk hC11; clear hA11 hC11 hi011 hsz11) | ((with_reducible refine gate_callee (f := 61) rfl ?_); refine goesL_ (some 25) rfl rfl Try.func61 (by kernel_rfl) rfl #[.slice A11 ((l0_3.take ((wrap64 ((ji4) + a0_2)) : Int).toNat).drop ((ji4) : Int).toNat).length (c0_3 - (ji4).toNat)] rfl (by (try simp only [List.map_toArray, List.map_cons, List.map_nil]); first | done | (rw [show ((l0_3.take ((wrap64 ((ji4) + a0_2)) : Int).toNat).drop ((ji4) : Int).toNat).length = ((wrap64 ((ji4) + a0_2)).toNat - (ji4).toNat) from (by rw [List.length_drop, List.length_take]; have h_ : ((wrap64 ((ji4) + a0_2)) : Int) ≤ (l0_3.length : Int) := of_decide_eq_true (by first | (with_reducible assumption) | assumption); omega)] <;> rfl) | (simp only [hji4]; rfl) | rfl | (simp only [List.length_drop, List.length_take]; rfl)) ?_; (with_reducible refine (spec_copyInts.calls _ _ ((l0_3.take ((wrap64 ((ji4) + a0_2)) : Int).toNat).drop ((ji4) : Int).toNat) t172 _ ?side1 ?side2 A8.out).mono ?_); (case side1 => exact B.kc (Kd.C_below HR171.out HB.out)); (case side2 => exact HC171.out); rintro e w12 ⟨v173, rfl, ho0, hb⟩; refine ⟨_, rfl, ?_⟩; have n0_ := Aside0.mk (Kd.R_lower ho0 (below_size (B.bl HB))); have n1_ := Aside0.mk (blk_below (B.kb BK170) hb); have n2_ := Aside0.mk (below_step (B.bl HB) hb); clear BK170 HB; have HO174 := n0_; have BK170 := n1_; have HB := n2_; clear n0_ n1_ n2_; (try clear hb); (try clear hb2); (try clear hk); (try clear hi); (try clear ho0)))
        go_ret
        exact ⟨_, by first | rfl | (simp [errW_none, errW_some] <;> rfl) | (simp only [← hji4]; first | rfl | (simp [errW_none, errW_some] <;> rfl)) | (simp [*, errW_none, errW_some] <;> rfl), by (with_reducible repeat (first | apply Kd.R_alloc | apply Kd.R_drewN | apply Kd.R_drew)); exact HO174.out, B.bl HB⟩
      rw [if_neg c7] at H
      exact absurd H (by simp)
    rw [if_neg c6] at H
    exact absurd H (by simp)
  rw [if_neg c5] at H
  exact absurd H (by simp)

/-! ### spec_passData: function 54 -/
mutual
def spec_passData.l0 : Nat → List Int → Int → Int → Int → Int → Int → Int → Int → List Int → Option (List Int)
  | 0, _, _, _, _, _, _, _, _, _ => none
  | k + 1, x5, x6, x8, x9, x10, x176000, x176001, x176002, x176003 => if x10 < x176001 then (spec_passData.l1 k x5 x6 x8 x9 x10 x6 x176000 x176001 x176002 x176003) else (some x5)
def spec_passData.l1 : Nat → List Int → Int → Int → Int → Int → Int → Int → Int → Int → List Int → Option (List Int)
  | 0, _, _, _, _, _, _, _, _, _, _ => none
  | k + 1, x5, x6, x8, x9, x10, x11, x176000, x176001, x176002, x176003 => if x11 < x176000 then ((spec_pixelAt.f x176000 x176001 x176002 x176003 x11 x10).bind fun t183 => (if x5.length + t183.length < 17592186044416 then (spec_passData.l1 k (x5 ++ t183) x6 x8 x9 x10 (wrap64 (x11 + x8)) x176000 x176001 x176002 x176003) else (none))) else (spec_passData.l0 k x5 x6 x8 x9 (wrap64 (x10 + x9)) x176000 x176001 x176002 x176003)
end
def spec_passData.f (k : Nat) (a0_0 : Int) (a0_1 : Int) (a0_2 : Int) (l0_3 : List Int) (a1 : Int) : Option (List Int) := (spec_passStart.f a1).bind fun bt179 => (spec_passData.l0 k (([] : List Int)) bt179.1 bt179.2.2.1 bt179.2.2.2 bt179.2.1 a0_0 a0_1 a0_2 l0_3)
theorem spec_passData.mono_l : ∀ k, (∀ y0 y1 y2 y3 y4 y5 y6 y7 y8, LeO (spec_passData.l0 k y0 y1 y2 y3 y4 y5 y6 y7 y8) (spec_passData.l0 (k + 1) y0 y1 y2 y3 y4 y5 y6 y7 y8)) ∧ (∀ y0 y1 y2 y3 y4 y5 y6 y7 y8 y9, LeO (spec_passData.l1 k y0 y1 y2 y3 y4 y5 y6 y7 y8 y9) (spec_passData.l1 (k + 1) y0 y1 y2 y3 y4 y5 y6 y7 y8 y9))
  | 0 => ⟨fun _ _ _ _ _ _ _ _ _ r h => by simp [spec_passData.l0] at h, fun _ _ _ _ _ _ _ _ _ _ r h => by simp [spec_passData.l1] at h⟩
  | k + 1 => by
    obtain ⟨ih0, ih1⟩ := spec_passData.mono_l k
    refine ⟨?_, ?_⟩
    · intro y0 y1 y2 y3 y4 y5 y6 y7 y8
      unfold spec_passData.l0
      repeat' first
      | (with_reducible exact ih0 _ _ _ _ _ _ _ _ _)
      | (with_reducible exact ih1 _ _ _ _ _ _ _ _ _ _)
      | (with_reducible exact LeO.refl _)
      | (with_reducible exact LeO.none _)
      | (with_reducible refine LeO.ite ?_ ?_)
      | (with_reducible refine LeO.bind ?_ (fun _ => ?_))
      | exact ih0 _ _ _ _ _ _ _ _ _
      | exact ih1 _ _ _ _ _ _ _ _ _ _
      | exact LeO.none _
      | refine LeO.ite ?_ ?_
      | refine LeO.bind ?_ (fun _ => ?_)
    intro y0 y1 y2 y3 y4 y5 y6 y7 y8 y9
    unfold spec_passData.l1
    repeat' first
    | (with_reducible exact ih0 _ _ _ _ _ _ _ _ _)
    | (with_reducible exact ih1 _ _ _ _ _ _ _ _ _ _)
    | (with_reducible exact LeO.refl _)
    | (with_reducible exact LeO.none _)
    | (with_reducible refine LeO.ite ?_ ?_)
    | (with_reducible refine LeO.bind ?_ (fun _ => ?_))
    | exact ih0 _ _ _ _ _ _ _ _ _
    | exact ih1 _ _ _ _ _ _ _ _ _ _
    | exact LeO.none _
    | refine LeO.ite ?_ ?_
    | refine LeO.bind ?_ (fun _ => ?_)
theorem spec_passData.mono : ∀ a0 a1 a2 a3 a4 k, LeO (spec_passData.f k a0 a1 a2 a3 a4) (spec_passData.f (k + 1) a0 a1 a2 a3 a4) := by
  intro a0 a1 a2 a3 a4 k
  obtain ⟨ih0, ih1⟩ := spec_passData.mono_l k
  unfold spec_passData.f
  repeat' first
      | (with_reducible exact ih0 _ _ _ _ _ _ _ _ _)
      | (with_reducible exact ih1 _ _ _ _ _ _ _ _ _ _)
      | (with_reducible exact LeO.refl _)
      | (with_reducible exact LeO.none _)
      | (with_reducible refine LeO.ite ?_ ?_)
      | (with_reducible refine LeO.bind ?_ (fun _ => ?_))
      | exact ih0 _ _ _ _ _ _ _ _ _
      | exact ih1 _ _ _ _ _ _ _ _ _ _
      | exact LeO.none _
      | refine LeO.ite ?_ ?_
      | refine LeO.bind ?_ (fun _ => ?_)
set_option maxHeartbeats 8000000 in
set_option maxRecDepth 100000 in
theorem spec_passData.calls (k : Nat) (a0_0 : Int) (a0_1 : Int) (a0_2 : Int) (A0_3 : Option Addr) (c0_3 : Nat) (l0_3 : List Int) (a1 : Int) (r : List Int) (w : World) (hr0_3 : Kd.C (Kd.int .i64) w A0_3 l0_3.length l0_3) (hc0_3 : l0_3.length ≤ c0_3) (h : spec_passData.f k a0_0 a0_1 a0_2 l0_3 a1 = some r) :
    Calls Try.prog 54 #[.agg #[.int .i64 a0_0, .int .i64 a0_1, .int .i64 a0_2, .slice A0_3 l0_3.length c0_3], .int .i64 a1] w fun e w' => ∃ v0_ : Value, e = .returned (v0_) ∧ Kd.R (Kd.int .i64) 3 w' w.heap.size (fun _ => True) v0_ r ∧ Below w.heap.size w w' := by
  have hu34 := Try.underlying34
  have HR0_3 := Aside0.mk hr0_3
  have HC0_3 := Aside0.mk hc0_3
  clear hr0_3 hc0_3
  have HB := Aside0.mk (Below.refl w.heap.size w)
  have H : ((spec_passStart.f a1).bind fun bt179 => (spec_passData.l0 k (([] : List Int)) bt179.1 bt179.2.2.1 bt179.2.2.2 bt179.2.1 a0_0 a0_1 a0_2 l0_3)) = some r := h
  clear h
  obtain ⟨y176, hy176⟩ : ∃ y_ : List Int, y_ = (([] : List Int)) := ⟨_, rfl⟩
  replace H : ((spec_passStart.f a1).bind fun bt179 => (spec_passData.l0 k y176 bt179.1 bt179.2.2.1 bt179.2.2.2 bt179.2.1 a0_0 a0_1 a0_2 l0_3)) = some r := by first | (rw [hy176]; with_reducible exact H) | (have H2_ := (Option.bind_some _ _).symm.trans H; rw [hy176]; with_reducible exact H2_) | (have H2_ := (Option.bind_some _ _).symm.trans H; with_reducible exact H2_) | with_reducible exact H | (rw [hy176]; exact H) | exact H
  have Ny176 := Aside0.mk hy176
  clear hy176
  replace H := Option.bind_eq_some_iff.mp H
  obtain ⟨⟨t179, t180, t181, t182⟩, A30, H⟩ := H
  replace H : (spec_passData.l0 k y176 t179 t181 t182 t180 a0_0 a0_1 a0_2 l0_3) = some r := H
  have A3 := Aside0.mk A30
  clear A30
  have H' := Aside0.mk H
  clear H
  go_enter Try.func54, Try.ntmps54
  go_wp2_with (first | ((with_reducible refine gate_dst (N := 2) rfl ?_); refine box_event ?hg (N := 2) ?hd (cs := #[.int .i64 a0_0, .int .i64 a0_1, .int .i64 a0_2, .slice A0_3 l0_3.length c0_3]) (t := 34) ?hr ?_; (case hd => rfl); (case hg => rfl); (case hr => first | (go_simp; done) | (go_simp; rfl)); intro gb175 hg w4 hbox hb; have n0_ := Aside0.mk (below_step (B.bl HB) hb); have n1_ := Aside0.mk (hbox); have n2_ := Aside0.mk (B.nle hg (below_size (B.bl HB))); have n3_ := Aside0.mk (B.nle hg (below_size (B.bl HB))); clear HB; have HB := n0_; have BK175 := n1_; have GW175 := n2_; have GE175 := n3_; clear n0_ n1_ n2_ n3_; clear hb hbox hg) | ((with_reducible refine gate_dst (N := 12) rfl ?_); refine Kd.R_lit (Kd.int .i64) _ 3 ?hg (N := 12) ?hd (xs := ([] : List Int)) (inner := []) (ok := fun _ => True) (okp := fun _ => True) ?hr ?hp (fun _ hk => hk) trivial (Below.refl _ _) (Nat.le_refl _) (by simp) ?_; (case hd => rfl); (case hg => rfl); (case hr => first | (go_simp; done) | (go_simp; rfl)); (case hp => exact (Reps.none _ _)); intro v177 w5 ho6 hb hg_ hnew_; clear hg_ hnew_; (first | rw [← Ny176.out] at ho6 | (simp only [Int.reduceToNat] at ho6; rw [← Ny176.out] at ho6)); have n0_ := Aside0.mk (Kd.R_lower ho6 (below_size (B.bl HB))); have n1_ := Aside0.mk (blk_below (B.kb BK175) hb); have n2_ := Aside0.mk (below_step (B.bl HB) hb); clear BK175 HB; have HO178 := n0_; have BK175 := n1_; have HB := n2_; clear n0_ n1_ n2_; clear hb ho6) | ((with_reducible refine gate_callee (f := 56) rfl ?_); refine goesL_ (some 15) rfl rfl Try.func56 (by kernel_rfl) rfl #[.int .i64 a1] rfl B.am ?_; (with_reducible refine (spec_passStart.calls a1 t179 t180 t181 t182 _ A3.out).mono ?_); rintro e w7 ⟨rfl, hb⟩; refine ⟨_, rfl, ?_⟩; have n0_ := Aside0.mk (Kd.R_below (B.kr HO178) hb); have n1_ := Aside0.mk (blk_below (B.kb BK175) hb); have n2_ := Aside0.mk (below_step (B.bl HB) hb); clear HO178 BK175 HB; have HO178 := n0_; have BK175 := n1_; have HB := n2_; clear n0_ n1_ n2_; (try clear hb); (try clear hb2); (try clear hk); (try clear hi)))
  go_loopg [5, 10] k (fun kq v5 v10 w' => ∃ (x5_1 : List Int) (x10_1 : Int), v10 = .int .i64 x10_1 ∧ Aside0 (spec_passData.l0 kq x5_1 t179 t181 t182 x10_1 a0_0 a0_1 a0_2 l0_3 = some r) ∧ Aside0 (kq ≤ k) ∧ Aside0 (Kd.R (Kd.int .i64) 3 w' w.heap.size (fun _ => True) v5 x5_1) ∧ Aside0 (w'.heap[gb175]? = some (.cells #[.int .i64 a0_0, .int .i64 a0_1, .int .i64 a0_2, (.slice A0_3 l0_3.length c0_3)] 34 (0, 0))) ∧ Aside0 (Below w.heap.size w w'))
  case atStart => exact ⟨(y176), (t180), (by first | rfl | (simp; done) | (simp [*]; done)), H', ⟨Nat.le_refl _⟩, ⟨B.kr HO178⟩, ⟨B.kb BK175⟩, ⟨B.bl HB⟩⟩
  case round =>
    clear H'
    try clear p2
    try clear c5
    obtain ⟨x5_1, x10_1, rfl, HA, HK1, HO_5, BK175, HB⟩ := hrel
    cases gk with
    | zero => exact absurd HA.out (by simp [spec_passData.l0])
    | succ k1 =>
      have H := HA.out
      clear HA
      simp only [spec_passData.l0] at H
      by_cases c8 : x10_1 < a0_1
      · rw [if_pos c8] at H
        have c8b0 : decide (x10_1 < a0_1) = true := decide_eq_true c8
        clear c8
        have H' := Aside0.mk H
        clear H
        have hcz9_0 : wr.cell? ⟨gb175, 0, none⟩ = some (.int .i64 a0_0) := B.bc BK175 0
        have hcz9_1 : wr.cell? ⟨gb175, 1, none⟩ = some (.int .i64 a0_1) := B.bc BK175 1
        have hcz9_2 : wr.cell? ⟨gb175, 2, none⟩ = some (.int .i64 a0_2) := B.bc BK175 2
        have hcz9_3 : wr.cell? ⟨gb175, 3, none⟩ = some (.slice A0_3 l0_3.length c0_3) := B.bc BK175 3
        have hfz9_0 := blk_frozen BK175.out 0
        have hfz9_1 := blk_frozen BK175.out 1
        have hfz9_2 := blk_frozen BK175.out 2
        have hfz9_3 := blk_frozen BK175.out 3
        go_wp2
        go_loopg [5, 11] k1 (fun kq v5 v11 w' => ∃ (x5_2 : List Int) (x11_2 : Int), v11 = .int .i64 x11_2 ∧ Aside0 (spec_passData.l1 kq x5_2 t179 t181 t182 x10_1 x11_2 a0_0 a0_1 a0_2 l0_3 = some r) ∧ Aside0 (kq ≤ k1) ∧ Aside0 (Kd.R (Kd.int .i64) 3 w' w.heap.size (fun _ => True) v5 x5_2) ∧ Aside0 (w'.heap[gb175]? = some (.cells #[.int .i64 a0_0, .int .i64 a0_1, .int .i64 a0_2, (.slice A0_3 l0_3.length c0_3)] 34 (0, 0))) ∧ Aside0 (Below w.heap.size w w'))
        case atStart => exact ⟨(x5_1), (t179), (by first | rfl | (simp; done) | (simp [*]; done)), H', ⟨Nat.le_refl _⟩, ⟨B.kr HO_5⟩, ⟨B.kb BK175⟩, ⟨B.bl HB⟩⟩
        case round =>
          clear H'
          try clear p2
          try clear c5
          try clear c8
          try clear c8b0
          try clear hcz9_0
          try clear hcz9_1
          try clear hcz9_2
          try clear hcz9_3
          try clear hfz9_0
          try clear hfz9_1
          try clear hfz9_2
          try clear hfz9_3
          try clear p2
          obtain ⟨x5_2, x11_2, rfl, HA, HK2, HO_5, BK175, HB⟩ := hrel
          cases gk with
          | zero => exact absurd HA.out (by simp [spec_passData.l1])
          | succ k2 =>
            have H := HA.out
            clear HA
            simp only [spec_passData.l1] at H
            by_cases c10 : x11_2 < a0_0
            · rw [if_pos c10] at H
              have c10b0 : decide (x11_2 < a0_0) = true := decide_eq_true c10
              clear c10
              replace H := Option.bind_eq_some_iff.mp H
              obtain ⟨t183, A110, H⟩ := H
              replace H : (if x5_2.length + t183.length < 17592186044416 then (spec_passData.l1 k2 (x5_2 ++ t183) t179 t181 t182 x10_1 (wrap64 (x11_2 + t181)) a0_0 a0_1 a0_2 l0_3) else (none)) = some r := H
              have A11 := Aside0.mk A110
              clear A110
              by_cases c12 : x5_2.length + t183.length < 17592186044416
              · rw [if_pos c12] at H
                have LMc12 := Aside0.mk c12
                clear c12
                obtain ⟨y186, hy186⟩ : ∃ y_ : List Int, y_ = (x5_2 ++ t183) := ⟨_, rfl⟩
                replace H : (spec_passData.l1 k2 y186 t179 t181 t182 x10_1 (wrap64 (x11_2 + t181)) a0_0 a0_1 a0_2 l0_3) = some r := by first | (rw [hy186]; with_reducible exact H) | (have H2_ := (Option.bind_some _ _).symm.trans H; rw [hy186]; with_reducible exact H2_) | (have H2_ := (Option.bind_some _ _).symm.trans H; with_reducible exact H2_) | with_reducible exact H | (rw [hy186]; exact H) | exact H
                have Ny186 := Aside0.mk hy186
                clear hy186
                have H' := Aside0.mk H
                clear H
                have hcz13_0 : wr.cell? ⟨gb175, 0, none⟩ = some (.int .i64 a0_0) := B.bc BK175 0
                have hcz13_1 : wr.cell? ⟨gb175, 1, none⟩ = some (.int .i64 a0_1) := B.bc BK175 1
                have hcz13_2 : wr.cell? ⟨gb175, 2, none⟩ = some (.int .i64 a0_2) := B.bc BK175 2
                have hcz13_3 : wr.cell? ⟨gb175, 3, none⟩ = some (.slice A0_3 l0_3.length c0_3) := B.bc BK175 3
                have hfz13_0 := blk_frozen BK175.out 0
                have hfz13_1 := blk_frozen BK175.out 1
                have hfz13_2 := blk_frozen BK175.out 2
                have hfz13_3 := blk_frozen BK175.out 3
                go_wp2_with (first | ((with_reducible refine gate_callee (f := 67) rfl ?_); refine goesL_ (some 40) rfl rfl Try.func67 (by kernel_rfl) rfl #[.agg #[.int .i64 a0_0, .int .i64 a0_1, .int .i64 a0_2, .slice A0_3 l0_3.length c0_3], .int .i64 x11_2, .int .i64 x10_1] rfl B.am ?_; (with_reducible refine (spec_pixelAt.calls a0_0 a0_1 a0_2 _ _ l0_3 x11_2 x10_1 t183 _ ?side1 ?side2 A11.out).mono ?_); (case side1 => exact B.kc (Kd.C_below HR0_3.out HB.out)); (case side2 => exact HC0_3.out); rintro e w14 ⟨v184, rfl, ho0, hb⟩; refine ⟨_, rfl, ?_⟩; have n0_ := Aside0.mk (Kd.R_elder' (B.kr HO_5) (Kd.R_base ho0) hb); have n1_ := Aside0.mk (Kd.R_lower (Kd.R_new' ho0 (Kd.R_lt (B.kr HO_5))) (below_size (B.bl HB))); have n2_ := Aside0.mk (blk_below (B.kb BK175) hb); have n3_ := Aside0.mk (below_step (B.bl HB) hb); clear HO_5 BK175 HB; have HO_5 := n0_; have HO185 := n1_; have BK175 := n2_; have HB := n3_; clear n0_ n1_ n2_ n3_; (try clear hb); (try clear hb2); (try clear hk); (try clear hi); (try clear ho0); obtain ⟨Ao16, co16, eo16⟩ := Kd.R_slice HO185.out; subst eo16) | ((with_reducible refine gate_builtin (b := .append) (xs := #[.tmp 36, .tmp 40]) rfl ?_); at_builtin; refine Kd.R_append_rows (Kd.int .i64) (w0 := w) w.heap.size rfl (.tmp 36) (.tmp 40) 32 3 (.int .i64 0) 8 rfl Try.underlying32 info3 rfl (by decide) (by omega) u5 x5_2 t183 _ _ _ (fun k_ => some k_ ≠ (.slice Ao16 t183.length co16 : Value).ownBlock) (fun _ => False) rfl rfl ?aO ?aR (fun _ _ h => h) (fun _ h => h.elim) ?aF ?aB ?aS ?aL ?_; (case aR => exact B.kc ((Kd.R_reads' HO185.out).2.2)); (case aB => exact (B.bl HB)); (case aF => exact (fun k_ hk => Kd.fresh' (Kd.R_lt (B.kr HO185)) k_ hk)); (case aO => exact (B.kr0 (Kd.R_mono HO_5.out (fun _ hk => hk.2)))); (case aS => exact (below_size (B.bl HB))); (case aL => have := LMc12.out; omega); intro v187 w15 ho hb hg hat; rw [← Ny186.out] at ho; have n0_ := Aside0.mk (blk_grown (g := gb175) (o := .cells #[.int .i64 a0_0, .int .i64 a0_1, .int .i64 a0_2, .slice A0_3 l0_3.length c0_3] 34 (0, 0)) (B.kb BK175) hg (Kd.R_ne HO_5.out BK175.out (by decide))); have n1_ := Aside0.mk (Kd.R_after (ok := (fun _ => True)) (B.kr HO185) hg hat); have n2_ := Aside0.mk (hb); have n3_ := Aside0.mk (ho); clear BK175 HO185 HB HO_5; have BK175 := n0_; have HO185 := n1_; have HB := n2_; have HO188 := n3_; clear n0_ n1_ n2_ n3_; clear ho hb hg hat))
                go_roundg k2
                case measure => have := HK1.out; have := HK2.out; omega
                case rel => exact ⟨(y186), (wrap64 (x11_2 + t181)), (by first | rfl | (simp; done) | (simp [*]; done)), H', ⟨by have := HK1.out; have := HK2.out; omega⟩, ⟨B.kr0 (Kd.R_mono HO188.out (fun _ hk => trivial))⟩, ⟨B.kb BK175⟩, ⟨B.bl HB⟩⟩
              rw [if_neg c12] at H
              exact absurd H (by simp)
            rw [if_neg c10] at H
            have c10b0 : decide (x11_2 < a0_0) = false := decide_eq_false c10
            clear c10
            have H' := Aside0.mk H
            clear H
            have hcz17_0 : wr.cell? ⟨gb175, 0, none⟩ = some (.int .i64 a0_0) := B.bc BK175 0
            have hcz17_1 : wr.cell? ⟨gb175, 1, none⟩ = some (.int .i64 a0_1) := B.bc BK175 1
            have hcz17_2 : wr.cell? ⟨gb175, 2, none⟩ = some (.int .i64 a0_2) := B.bc BK175 2
            have hcz17_3 : wr.cell? ⟨gb175, 3, none⟩ = some (.slice A0_3 l0_3.length c0_3) := B.bc BK175 3
            have hfz17_0 := blk_frozen BK175.out 0
            have hfz17_1 := blk_frozen BK175.out 1
            have hfz17_2 := blk_frozen BK175.out 2
            have hfz17_3 := blk_frozen BK175.out 3
            go_wp2
            go_roundg k2
            case measure => have := HK1.out; have := HK2.out; omega
            case rel => exact ⟨(x5_2), (wrap64 (x10_1 + t182)), (by first | rfl | (simp; done) | (simp [*]; done)), H', ⟨by have := HK1.out; have := HK2.out; omega⟩, ⟨B.kr HO_5⟩, ⟨B.kb BK175⟩, ⟨B.bl HB⟩⟩
      rw [if_neg c8] at H
      have c8b0 : decide (x10_1 < a0_1) = false := decide_eq_false c8
      clear c8
      obtain rfl := Option.some.inj H
      simp only [Option.some.injEq, Prod.mk.injEq] at H
      obtain ⟨rfl⟩ := H
      have hcz18_0 : wr.cell? ⟨gb175, 0, none⟩ = some (.int .i64 a0_0) := B.bc BK175 0
      have hcz18_1 : wr.cell? ⟨gb175, 1, none⟩ = some (.int .i64 a0_1) := B.bc BK175 1
      have hcz18_2 : wr.cell? ⟨gb175, 2, none⟩ = some (.int .i64 a0_2) := B.bc BK175 2
      have hcz18_3 : wr.cell? ⟨gb175, 3, none⟩ = some (.slice A0_3 l0_3.length c0_3) := B.bc BK175 3
      have hfz18_0 := blk_frozen BK175.out 0
      have hfz18_1 := blk_frozen BK175.out 1
      have hfz18_2 := blk_frozen BK175.out 2
      have hfz18_3 := blk_frozen BK175.out 3
      go_wp2
      go_ret
      exact ⟨_, by first | rfl | (simp [errW_none, errW_some] <;> rfl) | (simp [*, errW_none, errW_some] <;> rfl), by (with_reducible repeat (first | apply Kd.R_alloc | apply Kd.R_drewN | apply Kd.R_drew)); exact HO_5.out, B.bl HB⟩

end Go.Proofs.Ytpadegboplcapaa.Q
