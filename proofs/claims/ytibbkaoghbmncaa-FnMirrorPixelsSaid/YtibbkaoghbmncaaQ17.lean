-- Written by a program of this session (the kit's printer, with hand-proved contracts for the functions that it does not take).
import Derived.Test.YtibbkaoghbmncaaQ0
import Derived.Test.YtibbkaoghbmncaaQ1
import Derived.Test.YtibbkaoghbmncaaQ2
import Derived.Test.YtibbkaoghbmncaaQ3
namespace Go.Proofs.Ytibbkaoghbmncaa.Q
open Go.RowKit Go.Proofs.YtibbkaoghbmncaaW.PrintWords Go.Proofs.YtibbkaoghbmncaaW.PrintLast Go.Proofs.YtibbkaoghbmncaaW.PrintMore
attribute [local go_sem] max2_int min2_int max_two min_two max_three min_three max_four min_four   -- for this text's walks alone
set_option linter.unusedVariables false
set_option linter.unusedSimpArgs false

/-! ### spec_reader_spoil: function 70 -/
def spec_reader_spoil.f (k : Nat) (s0_0 : List Int) (s0_1 : Int) (l1 : List Int) (a2 : Int) : Option (List Int × Int) := (spec_copyInts.f l1).bind fun t601 => ((spec_reader_pick.f k s0_0 s0_1 20).bind fun bt604 => (if bt604.1 = 0 then (if t601.length < 17592186044416 then (some ((t601 ++ [a2]), bt604.2)) else (none)) else (if bt604.1 = 1 then (if (t601.length : Int) > 0 then (if 1 ≤ (t601.length : Int) then (some ((t601.drop (1 : Int).toNat), bt604.2)) else (none)) else (some (t601, bt604.2))) else (if bt604.1 = 2 then (if (t601.length : Int) > 0 then ((spec_reader_pick.f k s0_0 bt604.2 (t601.length : Int)).bind fun bt612 => ((spec_reader_one.f k s0_0 bt612.2 (([(-1), a2, 0, 1] : List Int))).bind fun bt617 => (if 0 ≤ bt612.1 then (if bt612.1 < (t601.length : Int) then (some ((t601.set (bt612.1 : Int).toNat bt617.1), bt617.2)) else (none)) else (none)))) else (some (t601, bt604.2))) else (some (t601, bt604.2))))))
theorem spec_reader_spoil.mono : ∀ a0 a1 a2 a3 k, LeO (spec_reader_spoil.f k a0 a1 a2 a3) (spec_reader_spoil.f (k + 1) a0 a1 a2 a3) := by
  intro a0 a1 a2 a3 k
  unfold spec_reader_spoil.f
  repeat' first
      | (with_reducible exact spec_reader_one.mono _ _ _ _)
      | (with_reducible exact spec_reader_pick.mono _ _ _ _)
      | (with_reducible exact LeO.refl _)
      | (with_reducible exact LeO.none _)
      | (with_reducible refine LeO.ite ?_ ?_)
      | (with_reducible refine LeO.bind ?_ (fun _ => ?_))
      | exact spec_reader_one.mono _ _ _ _
      | exact spec_reader_pick.mono _ _ _ _
      | exact LeO.none _
      | refine LeO.ite ?_ ?_
      | refine LeO.bind ?_ (fun _ => ?_)
set_option maxHeartbeats 8000000 in
set_option maxRecDepth 100000 in
theorem spec_reader_spoil.calls (k : Nat) (g : Nat) (s0_0 : List Int) (s0_1 : Int) (A1 : Option Addr) (c1 : Nat) (l1 : List Int) (a2 : Int) (r1 : List Int) (r2 : Int) (w0 w : World) (hI : IsS67 w0 w g s0_0 s0_1) (hB : Below w0.heap.size w0 w) (hr1 : Kd.C (Kd.int .i64) w A1 l1.length l1) (hc1 : l1.length ≤ c1) (hf1 : ∀ ad, A1 = some ad → 0 < l1.length → ad.block ≠ g) (h : spec_reader_spoil.f k s0_0 s0_1 l1 a2 = some (r1, r2)) :
    Calls Try.prog 70 #[.pointer (some ⟨g, 0, none⟩), .slice A1 l1.length c1, .int .i64 a2] w fun e w' => ∃ v0_ : Value, e = .returned (v0_) ∧ Kd.Q (Kd.int .i64) 3 w' w.heap.size (fun _ => True) v0_ r1 ∧ IsS67 w0 w' g s0_0 r2 ∧ Below w0.heap.size w0 w' ∧ KeepBut w w' g none := by
  have HR1 := Aside0.mk hr1
  have HC1 := Aside0.mk hc1
  clear hr1 hc1
  have HI0 := Aside0.mk hI
  have HK := Aside0.mk (KeepBut.refl w g none)
  have HL := Aside0.mk hB.size
  clear hI
  have HW0 := Aside0.mk hB.size
  have HB := Aside0.mk hB
  clear hB
  have H : ((spec_copyInts.f l1).bind fun t601 => ((spec_reader_pick.f k s0_0 s0_1 20).bind fun bt604 => (if bt604.1 = 0 then (if t601.length < 17592186044416 then (some ((t601 ++ [a2]), bt604.2)) else (none)) else (if bt604.1 = 1 then (if (t601.length : Int) > 0 then (if 1 ≤ (t601.length : Int) then (some ((t601.drop (1 : Int).toNat), bt604.2)) else (none)) else (some (t601, bt604.2))) else (if bt604.1 = 2 then (if (t601.length : Int) > 0 then ((spec_reader_pick.f k s0_0 bt604.2 (t601.length : Int)).bind fun bt612 => ((spec_reader_one.f k s0_0 bt612.2 (([(-1), a2, 0, 1] : List Int))).bind fun bt617 => (if 0 ≤ bt612.1 then (if bt612.1 < (t601.length : Int) then (some ((t601.set (bt612.1 : Int).toNat bt617.1), bt617.2)) else (none)) else (none)))) else (some (t601, bt604.2))) else (some (t601, bt604.2))))))) = some (r1, r2) := h
  clear h
  replace H := Option.bind_eq_some_iff.mp H
  obtain ⟨t601, A40, H⟩ := H
  replace H : ((spec_reader_pick.f k s0_0 s0_1 20).bind fun bt604 => (if bt604.1 = 0 then (if t601.length < 17592186044416 then (some ((t601 ++ [a2]), bt604.2)) else (none)) else (if bt604.1 = 1 then (if (t601.length : Int) > 0 then (if 1 ≤ (t601.length : Int) then (some ((t601.drop (1 : Int).toNat), bt604.2)) else (none)) else (some (t601, bt604.2))) else (if bt604.1 = 2 then (if (t601.length : Int) > 0 then ((spec_reader_pick.f k s0_0 bt604.2 (t601.length : Int)).bind fun bt612 => ((spec_reader_one.f k s0_0 bt612.2 (([(-1), a2, 0, 1] : List Int))).bind fun bt617 => (if 0 ≤ bt612.1 then (if bt612.1 < (t601.length : Int) then (some ((t601.set (bt612.1 : Int).toNat bt617.1), bt617.2)) else (none)) else (none)))) else (some (t601, bt604.2))) else (some (t601, bt604.2)))))) = some (r1, r2) := H
  have A4 := Aside0.mk A40
  clear A40
  replace H := Option.bind_eq_some_iff.mp H
  obtain ⟨⟨t604, t605⟩, A50, H⟩ := H
  replace H : (if t604 = 0 then (if t601.length < 17592186044416 then (some ((t601 ++ [a2]), t605)) else (none)) else (if t604 = 1 then (if (t601.length : Int) > 0 then (if 1 ≤ (t601.length : Int) then (some ((t601.drop (1 : Int).toNat), t605)) else (none)) else (some (t601, t605))) else (if t604 = 2 then (if (t601.length : Int) > 0 then ((spec_reader_pick.f k s0_0 t605 (t601.length : Int)).bind fun bt612 => ((spec_reader_one.f k s0_0 bt612.2 (([(-1), a2, 0, 1] : List Int))).bind fun bt617 => (if 0 ≤ bt612.1 then (if bt612.1 < (t601.length : Int) then (some ((t601.set (bt612.1 : Int).toNat bt617.1), bt617.2)) else (none)) else (none)))) else (some (t601, t605))) else (some (t601, t605))))) = some (r1, r2) := H
  have A5 := Aside0.mk A50
  clear A50
  by_cases c6 : t604 = 0
  · rw [if_pos c6] at H
    have c6b0 : (t604 == 0) = true := beq_iff_eq.mpr c6
    have c6b1 : (t604 != 0) = false := bne_eq_false_iff_eq.mpr c6
    clear c6
    by_cases c7 : t601.length < 17592186044416
    · rw [if_pos c7] at H
      have LMc7 := Aside0.mk c7
      clear c7
      obtain ⟨y606, hy606⟩ : ∃ y_ : List Int, y_ = (t601 ++ [a2]) := ⟨_, rfl⟩
      replace H : (some (y606, t605)) = some (r1, r2) := by first | (rw [hy606]; with_reducible exact H) | (have H2_ := (Option.bind_some _ _).symm.trans H; rw [hy606]; with_reducible exact H2_) | (have H2_ := (Option.bind_some _ _).symm.trans H; with_reducible exact H2_) | with_reducible exact H | (rw [hy606]; exact H) | exact H
      have Ny606 := Aside0.mk hy606
      clear hy606
      simp only [Option.some.injEq, Prod.mk.injEq] at H
      obtain ⟨rfl, rfl⟩ := H
      go_enter Try.func70, Try.ntmps70
      go_wp2_with (first | ((with_reducible refine gate_callee (f := 64) rfl ?_); refine goesL_ (some 9) rfl rfl Try.func64 (by kernel_rfl) rfl #[.slice A1 l1.length c1] rfl B.am ?_; (with_reducible refine (spec_copyInts.calls _ _ l1 t601 _ ?side1 ?side2 A4.out).mono ?_); (case side1 => exact Kd.C_keep 0 HR1.out (B.kk HK) hf1); (case side2 => exact HC1.out); rintro e w8 ⟨v602, rfl, ho0, hb⟩; refine ⟨_, rfl, ?_⟩; have n0_ := Aside0.mk (Kd.R_lower ho0 (keep_size (w := w) (g := g) (row := none) (B.kk HK))); have n1_ := Aside0.mk (IsS67.below (B.st HI0) hb); have n2_ := Aside0.mk (KeepBut.trans (B.kk HK) (KeepBut.of_below hb g none) (.inl rfl)); have n3_ := Aside0.mk (below_step (B.bs HB) hb); clear HI0 HK HB; have HO603 := n0_; have HI0 := n1_; have HK := n2_; have HB := n3_; clear n0_ n1_ n2_ n3_; (try clear hb); (try clear hb2); (try clear hk); (try clear hi); (try clear ho0)) | ((with_reducible refine gate_callee (f := 69) rfl ?_); refine goesL_ (some 11) rfl rfl Try.func69 (by kernel_rfl) rfl #[.pointer (some ⟨g, 0, none⟩), .int .i64 20] rfl B.am ?_; (with_reducible refine (spec_reader_pick.calls k g s0_0 s0_1 20 t604 t605 w0 _ ?side1 ?side2 A5.out).mono ?_); (case side1 => exact B.st HI0); (case side2 => exact B.bs HB); rintro e w9 ⟨rfl, hi, hb, hk⟩; refine ⟨_, rfl, ?_⟩; have n0_ := Aside0.mk (Kd.R_mono (Kd.R_keep (IsS67.apart (show IsS67 w0 _ g s0_0 s0_1 from B.st HI0) (B.kr HO603) (by decide)) hk (fun _ h => h.2)) (fun _ h => h.1)); have n1_ := Aside0.mk (KeepBut.trans (B.kk HK) hk (.inl rfl)); have n2_ := Aside0.mk (hb); have n3_ := Aside0.mk (hi); clear HO603 HK HB HI0; have HO603 := n0_; have HK := n1_; have HB := n2_; have HI0 := n3_; clear n0_ n1_ n2_ n3_; (try clear hb); (try clear hb2); (try clear hk); (try clear hi)) | ((with_reducible refine gate_builtin (b := .append) (xs := #[.tmp 14, .tmp 16]) rfl ?_); at_builtin; refine Kd.R_append (Kd.int .i64) w.heap.size rfl (.tmp 14) (.tmp 16) 22 3 (.int .i64 0) 8 rfl Try.underlying22 info3 rfl (by decide) (by omega) v602 t601 a2 [.int .i64 a2] (fun _ => True) (fun _ => False) rfl rfl ?aP (fun _ hk => hk.elim) ?aF ?aO (Below.refl _ _) ?aS ?aL ?_; (case aP => exact rfl); (case aF => exact (fun _ _ => trivial)); (case aO => exact (B.kr HO603)); (case aS => exact (keep_size (w := w) (g := g) (row := none) (B.kk HK))); (case aL => have := LMc7.out; omega); intro v607 w10 ho hb hg hat; rw [← Ny606.out] at ho; have n0_ := Aside0.mk (IsS67.grown (B.st HI0) hg (IsS67.own_ne HI0.out HO603.out (by decide))); have n1_ := Aside0.mk (below_weaken (B.bs HB) HL.out hb); have n2_ := Aside0.mk (KeepBut.trans (B.kk HK) (KeepBut.of_grown hg g) (Kd.R_base2 HO603.out)); have n3_ := Aside0.mk (ho); clear HI0 HB HK HO603; have HI0 := n0_; have HB := n1_; have HK := n2_; have HO608 := n3_; clear n0_ n1_ n2_ n3_; clear ho hb hg hat))
      go_ret
      exact ⟨_, by first | rfl | (simp [errW_none, errW_some] <;> rfl) | (simp [*, errW_none, errW_some] <;> rfl), Kd.Q_of_R (B.kr HO608), B.st HI0, B.bs HB, B.kk HK⟩
    rw [if_neg c7] at H
    exact absurd H (by simp)
  rw [if_neg c6] at H
  have c6b0 : (t604 == 0) = false := beq_eq_false_iff_ne.mpr c6
  have c6b1 : (t604 != 0) = true := bne_iff_ne.mpr c6
  by_cases c11 : t604 = 1
  · rw [if_pos c11] at H
    have c11b0 : (t604 == 1) = true := beq_iff_eq.mpr c11
    have c11b1 : (t604 != 1) = false := bne_eq_false_iff_eq.mpr c11
    clear c11
    by_cases c12 : (t601.length : Int) > 0
    · rw [if_pos c12] at H
      have c12b0 : decide (0 < (t601.length : Int)) = true := decide_eq_true c12
      have c12b1 : decide (0 < t601.length) = true := decide_eq_true (by omega)
      clear c12
      by_cases c13 : 1 ≤ (t601.length : Int)
      · rw [if_pos c13] at H
        have c13b0 := eq_true c13
        have c13b1 : decide (1 ≤ (t601.length : Int)) = true := decide_eq_true c13
        clear c13
        obtain ⟨y609, hy609⟩ : ∃ y_ : List Int, y_ = (t601.drop (1 : Int).toNat) := ⟨_, rfl⟩
        replace H : (some (y609, t605)) = some (r1, r2) := by first | (rw [hy609]; with_reducible exact H) | (have H2_ := (Option.bind_some _ _).symm.trans H; rw [hy609]; with_reducible exact H2_) | (have H2_ := (Option.bind_some _ _).symm.trans H; with_reducible exact H2_) | with_reducible exact H | (rw [hy609]; exact H) | exact H
        have Ny609 := Aside0.mk hy609
        clear hy609
        simp only [Option.some.injEq, Prod.mk.injEq] at H
        obtain ⟨rfl, rfl⟩ := H
        go_enter Try.func70, Try.ntmps70
        go_wp2_with (first | ((with_reducible refine gate_callee (f := 64) rfl ?_); refine goesL_ (some 9) rfl rfl Try.func64 (by kernel_rfl) rfl #[.slice A1 l1.length c1] rfl B.am ?_; (with_reducible refine (spec_copyInts.calls _ _ l1 t601 _ ?side1 ?side2 A4.out).mono ?_); (case side1 => exact Kd.C_keep 0 HR1.out (B.kk HK) hf1); (case side2 => exact HC1.out); rintro e w14 ⟨v602, rfl, ho0, hb⟩; refine ⟨_, rfl, ?_⟩; have n0_ := Aside0.mk (Kd.R_lower ho0 (keep_size (w := w) (g := g) (row := none) (B.kk HK))); have n1_ := Aside0.mk (IsS67.below (B.st HI0) hb); have n2_ := Aside0.mk (KeepBut.trans (B.kk HK) (KeepBut.of_below hb g none) (.inl rfl)); have n3_ := Aside0.mk (below_step (B.bs HB) hb); clear HI0 HK HB; have HO603 := n0_; have HI0 := n1_; have HK := n2_; have HB := n3_; clear n0_ n1_ n2_ n3_; (try clear hb); (try clear hb2); (try clear hk); (try clear hi); (try clear ho0)) | ((with_reducible refine gate_callee (f := 69) rfl ?_); refine goesL_ (some 11) rfl rfl Try.func69 (by kernel_rfl) rfl #[.pointer (some ⟨g, 0, none⟩), .int .i64 20] rfl B.am ?_; (with_reducible refine (spec_reader_pick.calls k g s0_0 s0_1 20 t604 t605 w0 _ ?side1 ?side2 A5.out).mono ?_); (case side1 => exact B.st HI0); (case side2 => exact B.bs HB); rintro e w15 ⟨rfl, hi, hb, hk⟩; refine ⟨_, rfl, ?_⟩; have n0_ := Aside0.mk (Kd.R_mono (Kd.R_keep (IsS67.apart (show IsS67 w0 _ g s0_0 s0_1 from B.st HI0) (B.kr HO603) (by decide)) hk (fun _ h => h.2)) (fun _ h => h.1)); have n1_ := Aside0.mk (KeepBut.trans (B.kk HK) hk (.inl rfl)); have n2_ := Aside0.mk (hb); have n3_ := Aside0.mk (hi); clear HO603 HK HB HI0; have HO603 := n0_; have HK := n1_; have HB := n2_; have HI0 := n3_; clear n0_ n1_ n2_ n3_; (try clear hb); (try clear hb2); (try clear hk); (try clear hi); obtain ⟨Ao16, co16, eo16⟩ := Kd.R_slice HO603.out; subst eo16; have q17 : (1 : Int) ≤ ((t601.length : Int) : Int) := of_decide_eq_true (by first | (with_reducible assumption) | assumption); obtain ⟨i017, hi017, _, hsz17, _⟩ := info_parts info3; have hcut17 := cut_from (P := Try.prog) 22 3 .i64 Try.underlying22 hi017 1 hsz17 Ao16 t601.length co16 1 (by omega) q17; have hr17 := Kd.Q_drop (k := (1 : Int).toNat) (Kd.Q_of_R HO603.out) (by omega); obtain ⟨A17, hA17⟩ : ∃ A1, A1 = (if co16 = (1 : Int).toNat then Ao16 else (Ao16 : Option Addr).map (·.add ((1 : Int).toNat * 1))) := ⟨_, rfl⟩; obtain ⟨c17, hc17⟩ : ∃ c1, c1 = co16 - (1 : Int).toNat := ⟨_, rfl⟩; have hy17 : y609.length = t601.length - (1 : Int).toNat := (by rw [Ny609.out, List.length_drop]); rw [← Ny609.out] at hr17; rw [← hy17, ← hA17, ← hc17] at hcut17; replace hr17 : Kd.Q (Kd.int .i64) 3 w15 w.heap.size (fun _ => True) (.slice A17 y609.length c17) y609 := (by rw [hA17, hc17, hy17]; exact hr17); have HE17 : Aside0 ((Value.slice A17 y609.length c17).ownBlock = (.slice Ao16 t601.length co16 : Value).ownBlock) := ⟨by rw [hA17]; split <;> (cases (Ao16 : Option Addr) <;> rfl)⟩; clear hy17 hi017 hsz17 HO603 hA17 hc17; have HO611 := Aside0.mk hr17; clear hr17; replace q17 := eq_true q17))
        go_ret
        exact ⟨_, by first | rfl | (simp [errW_none, errW_some] <;> rfl) | (simp [*, errW_none, errW_some] <;> rfl), by (with_reducible repeat (first | apply Kd.Q_alloc | apply Kd.Q_drewN | apply Kd.Q_drew)); exact HO611.out, B.st HI0, B.bs HB, B.kk HK⟩
      rw [if_neg c13] at H
      exact absurd H (by simp)
    rw [if_neg c12] at H
    have c12b0 : decide (0 < (t601.length : Int)) = false := decide_eq_false c12
    have c12b1 : decide (0 < t601.length) = false := decide_eq_false (by omega)
    clear c12
    simp only [Option.some.injEq, Prod.mk.injEq] at H
    obtain ⟨rfl, rfl⟩ := H
    go_enter Try.func70, Try.ntmps70
    go_wp2_with (first | ((with_reducible refine gate_callee (f := 64) rfl ?_); refine goesL_ (some 9) rfl rfl Try.func64 (by kernel_rfl) rfl #[.slice A1 l1.length c1] rfl B.am ?_; (with_reducible refine (spec_copyInts.calls _ _ l1 t601 _ ?side1 ?side2 A4.out).mono ?_); (case side1 => exact Kd.C_keep 0 HR1.out (B.kk HK) hf1); (case side2 => exact HC1.out); rintro e w18 ⟨v602, rfl, ho0, hb⟩; refine ⟨_, rfl, ?_⟩; have n0_ := Aside0.mk (Kd.R_lower ho0 (keep_size (w := w) (g := g) (row := none) (B.kk HK))); have n1_ := Aside0.mk (IsS67.below (B.st HI0) hb); have n2_ := Aside0.mk (KeepBut.trans (B.kk HK) (KeepBut.of_below hb g none) (.inl rfl)); have n3_ := Aside0.mk (below_step (B.bs HB) hb); clear HI0 HK HB; have HO603 := n0_; have HI0 := n1_; have HK := n2_; have HB := n3_; clear n0_ n1_ n2_ n3_; (try clear hb); (try clear hb2); (try clear hk); (try clear hi); (try clear ho0)) | ((with_reducible refine gate_callee (f := 69) rfl ?_); refine goesL_ (some 11) rfl rfl Try.func69 (by kernel_rfl) rfl #[.pointer (some ⟨g, 0, none⟩), .int .i64 20] rfl B.am ?_; (with_reducible refine (spec_reader_pick.calls k g s0_0 s0_1 20 t604 t605 w0 _ ?side1 ?side2 A5.out).mono ?_); (case side1 => exact B.st HI0); (case side2 => exact B.bs HB); rintro e w19 ⟨rfl, hi, hb, hk⟩; refine ⟨_, rfl, ?_⟩; have n0_ := Aside0.mk (Kd.R_mono (Kd.R_keep (IsS67.apart (show IsS67 w0 _ g s0_0 s0_1 from B.st HI0) (B.kr HO603) (by decide)) hk (fun _ h => h.2)) (fun _ h => h.1)); have n1_ := Aside0.mk (KeepBut.trans (B.kk HK) hk (.inl rfl)); have n2_ := Aside0.mk (hb); have n3_ := Aside0.mk (hi); clear HO603 HK HB HI0; have HO603 := n0_; have HK := n1_; have HB := n2_; have HI0 := n3_; clear n0_ n1_ n2_ n3_; (try clear hb); (try clear hb2); (try clear hk); (try clear hi); obtain ⟨Ao20, co20, eo20⟩ := Kd.R_slice HO603.out; subst eo20))
    go_ret
    exact ⟨_, by first | rfl | (simp [errW_none, errW_some] <;> rfl) | (simp [*, errW_none, errW_some] <;> rfl), Kd.Q_of_R (B.kr HO603), B.st HI0, B.bs HB, B.kk HK⟩
  rw [if_neg c11] at H
  have c11b0 : (t604 == 1) = false := beq_eq_false_iff_ne.mpr c11
  have c11b1 : (t604 != 1) = true := bne_iff_ne.mpr c11
  by_cases c21 : t604 = 2
  · rw [if_pos c21] at H
    have c21b0 : (t604 == 2) = true := beq_iff_eq.mpr c21
    have c21b1 : (t604 != 2) = false := bne_eq_false_iff_eq.mpr c21
    clear c21
    by_cases c22 : (t601.length : Int) > 0
    · rw [if_pos c22] at H
      have c22b0 : decide (0 < (t601.length : Int)) = true := decide_eq_true c22
      have c22b1 : decide (0 < t601.length) = true := decide_eq_true (by omega)
      clear c22
      replace H := Option.bind_eq_some_iff.mp H
      obtain ⟨⟨t612, t613⟩, A230, H⟩ := H
      replace H : ((spec_reader_one.f k s0_0 t613 (([(-1), a2, 0, 1] : List Int))).bind fun bt617 => (if 0 ≤ t612 then (if t612 < (t601.length : Int) then (some ((t601.set (t612 : Int).toNat bt617.1), bt617.2)) else (none)) else (none))) = some (r1, r2) := H
      have A23 := Aside0.mk A230
      clear A230
      obtain ⟨y614, hy614⟩ : ∃ y_ : List Int, y_ = (([(-1), a2, 0, 1] : List Int)) := ⟨_, rfl⟩
      replace H : ((spec_reader_one.f k s0_0 t613 y614).bind fun bt617 => (if 0 ≤ t612 then (if t612 < (t601.length : Int) then (some ((t601.set (t612 : Int).toNat bt617.1), bt617.2)) else (none)) else (none))) = some (r1, r2) := by first | (rw [hy614]; with_reducible exact H) | (have H2_ := (Option.bind_some _ _).symm.trans H; rw [hy614]; with_reducible exact H2_) | (have H2_ := (Option.bind_some _ _).symm.trans H; with_reducible exact H2_) | with_reducible exact H | (rw [hy614]; exact H) | exact H
      have Ny614 := Aside0.mk hy614
      clear hy614
      replace H := Option.bind_eq_some_iff.mp H
      obtain ⟨⟨t617, t618⟩, A240, H⟩ := H
      replace H : (if 0 ≤ t612 then (if t612 < (t601.length : Int) then (some ((t601.set (t612 : Int).toNat t617), t618)) else (none)) else (none)) = some (r1, r2) := H
      have A24 := Aside0.mk A240
      clear A240
      by_cases c25 : 0 ≤ t612
      · rw [if_pos c25] at H
        have c25b0 : decide (0 ≤ t612) = true := decide_eq_true c25
        clear c25
        by_cases c26 : t612 < (t601.length : Int)
        · rw [if_pos c26] at H
          have c26b0 : decide (t612 < (t601.length : Int)) = true := decide_eq_true c26
          clear c26
          obtain ⟨y619, hy619⟩ : ∃ y_ : List Int, y_ = (t601.set (t612 : Int).toNat t617) := ⟨_, rfl⟩
          replace H : (some (y619, t618)) = some (r1, r2) := by first | (rw [hy619]; with_reducible exact H) | (have H2_ := (Option.bind_some _ _).symm.trans H; rw [hy619]; with_reducible exact H2_) | (have H2_ := (Option.bind_some _ _).symm.trans H; with_reducible exact H2_) | with_reducible exact H | (rw [hy619]; exact H) | exact H
          have Ny619 := Aside0.mk hy619
          clear hy619
          simp only [Option.some.injEq, Prod.mk.injEq] at H
          obtain ⟨rfl, rfl⟩ := H
          go_enter Try.func70, Try.ntmps70
          go_wp2_with (first | ((with_reducible refine gate_callee (f := 64) rfl ?_); refine goesL_ (some 9) rfl rfl Try.func64 (by kernel_rfl) rfl #[.slice A1 l1.length c1] rfl B.am ?_; (with_reducible refine (spec_copyInts.calls _ _ l1 t601 _ ?side1 ?side2 A4.out).mono ?_); (case side1 => exact Kd.C_keep 0 HR1.out (B.kk HK) hf1); (case side2 => exact HC1.out); rintro e w28 ⟨v602, rfl, ho0, hb⟩; refine ⟨_, rfl, ?_⟩; have n0_ := Aside0.mk (Kd.R_lower ho0 (keep_size (w := w) (g := g) (row := none) (B.kk HK))); have n1_ := Aside0.mk (IsS67.below (B.st HI0) hb); have n2_ := Aside0.mk (KeepBut.trans (B.kk HK) (KeepBut.of_below hb g none) (.inl rfl)); have n3_ := Aside0.mk (below_step (B.bs HB) hb); clear HI0 HK HB; have HO603 := n0_; have HI0 := n1_; have HK := n2_; have HB := n3_; clear n0_ n1_ n2_ n3_; (try clear hb); (try clear hb2); (try clear hk); (try clear hi); (try clear ho0)) | ((with_reducible refine gate_callee (f := 69) rfl ?_); refine goesL_ (some 11) rfl rfl Try.func69 (by kernel_rfl) rfl #[.pointer (some ⟨g, 0, none⟩), .int .i64 20] rfl B.am ?_; (with_reducible refine (spec_reader_pick.calls k g s0_0 s0_1 20 t604 t605 w0 _ ?side1 ?side2 A5.out).mono ?_); (case side1 => exact B.st HI0); (case side2 => exact B.bs HB); rintro e w29 ⟨rfl, hi, hb, hk⟩; refine ⟨_, rfl, ?_⟩; have n0_ := Aside0.mk (Kd.R_mono (Kd.R_keep (IsS67.apart (show IsS67 w0 _ g s0_0 s0_1 from B.st HI0) (B.kr HO603) (by decide)) hk (fun _ h => h.2)) (fun _ h => h.1)); have n1_ := Aside0.mk (KeepBut.trans (B.kk HK) hk (.inl rfl)); have n2_ := Aside0.mk (hb); have n3_ := Aside0.mk (hi); clear HO603 HK HB HI0; have HO603 := n0_; have HK := n1_; have HB := n2_; have HI0 := n3_; clear n0_ n1_ n2_ n3_; (try clear hb); (try clear hb2); (try clear hk); (try clear hi); obtain ⟨Ao30, co30, eo30⟩ := Kd.R_slice HO603.out; subst eo30) | ((with_reducible refine gate_callee (f := 69) rfl ?_); refine goesL_ (some 34) rfl rfl Try.func69 (by kernel_rfl) rfl #[.pointer (some ⟨g, 0, none⟩), .int .i64 (t601.length : Int)] rfl B.am ?_; (with_reducible refine (spec_reader_pick.calls k g s0_0 t605 (t601.length : Int) t612 t613 w0 _ ?side1 ?side2 A23.out).mono ?_); (case side1 => exact B.st HI0); (case side2 => exact B.bs HB); rintro e w31 ⟨rfl, hi, hb, hk⟩; refine ⟨_, rfl, ?_⟩; have n0_ := Aside0.mk (Kd.R_mono (Kd.R_keep (IsS67.apart (show IsS67 w0 _ g s0_0 t605 from B.st HI0) (B.kr HO603) (by decide)) hk (fun _ h => h.2)) (fun _ h => h.1)); have n1_ := Aside0.mk (KeepBut.trans (B.kk HK) hk (.inl rfl)); have n2_ := Aside0.mk (hb); have n3_ := Aside0.mk (hi); clear HO603 HK HB HI0; have HO603 := n0_; have HK := n1_; have HB := n2_; have HI0 := n3_; clear n0_ n1_ n2_ n3_; (try clear hb); (try clear hb2); (try clear hk); (try clear hi)) | ((with_reducible refine gate_dst (N := 37) rfl ?_); refine Kd.R_lit (Kd.int .i64) _ 3 ?hg (N := 37) ?hd (xs := ([(-1), a2, 0, 1] : List Int)) (inner := [.int .i64 (-1), .int .i64 a2, .int .i64 0, .int .i64 1]) (ok := fun _ => True) (okp := fun _ => True) ?hr ?hp (fun _ hk => hk) trivial (Below.refl _ _) (Nat.le_refl _) (by simp) ?_; (case hd => rfl); (case hg => rfl); (case hr => first | (go_simp; done) | (go_simp; rfl)); (case hp => exact (Reps.one (show Kd.M (Kd.int .i64) _ _ _ (-1) [.int .i64 (-1)] from rfl) (Reps.one (show Kd.M (Kd.int .i64) _ _ _ a2 [.int .i64 a2] from rfl) (Reps.one (show Kd.M (Kd.int .i64) _ _ _ 0 [.int .i64 0] from rfl) (Reps.one (show Kd.M (Kd.int .i64) _ _ _ 1 [.int .i64 1] from rfl) (Reps.none _ _)))))); intro v615 w32 ho33 hb hg_ hnew_; clear hg_ hnew_; (first | rw [← Ny614.out] at ho33 | (simp only [Int.reduceToNat] at ho33; rw [← Ny614.out] at ho33)); have n0_ := Aside0.mk (Kd.R_elder' (B.kr HO603) (Kd.R_base ho33) hb); have n1_ := Aside0.mk (Kd.R_lower (Kd.R_new' ho33 (Kd.R_lt (B.kr HO603))) (keep_size (w := w) (g := g) (row := none) (B.kk HK))); have n2_ := Aside0.mk (IsS67.below (B.st HI0) hb); have n3_ := Aside0.mk (KeepBut.trans (B.kk HK) (KeepBut.of_below hb g none) (.inl rfl)); have n4_ := Aside0.mk (below_step (B.bs HB) hb); clear HO603 HI0 HK HB; have HO603 := n0_; have HO616 := n1_; have HI0 := n2_; have HK := n3_; have HB := n4_; clear n0_ n1_ n2_ n3_ n4_; clear hb ho33; obtain ⟨Ao34, co34, eo34⟩ := Kd.R_slice HO616.out; subst eo34) | ((with_reducible refine gate_callee (f := 52) rfl ?_); refine goesL_ (some 38) rfl rfl Try.func52 (by kernel_rfl) rfl #[.pointer (some ⟨g, 0, none⟩), .slice Ao34 y614.length co34] rfl B.am ?_; (with_reducible refine (spec_reader_one.calls k g s0_0 t613 _ _ y614 t617 t618 w0 _ ?side1 ?side2 ?side3 ?side4 ?side5 A24.out).mono ?_); (case side1 => exact B.st HI0); (case side2 => exact B.bs HB); (case side3 => exact B.kc ((Kd.R_reads' HO616.out).2.2)); (case side4 => exact (Kd.R_reads' HO616.out).2.1); (case side5 => exact far_slice (IsS67.own_ne HI0.out HO616.out (by decide))); rintro e w35 ⟨rfl, hi, hb, hk⟩; refine ⟨_, rfl, ?_⟩; have n0_ := Aside0.mk (Kd.R_mono (Kd.R_keep (IsS67.apart (show IsS67 w0 _ g s0_0 t613 from B.st HI0) (B.kr HO603) (by decide)) hk (fun _ h => h.2)) (fun _ h => h.1)); have n1_ := Aside0.mk (Kd.R_mono (Kd.R_keep (IsS67.apart (show IsS67 w0 _ g s0_0 t613 from B.st HI0) (B.kr HO616) (by decide)) hk (fun _ h => h.2)) (fun _ h => h.1)); have n2_ := Aside0.mk (KeepBut.trans (B.kk HK) hk (.inl rfl)); have n3_ := Aside0.mk (hb); have n4_ := Aside0.mk (hi); clear HO603 HO616 HK HB HI0; have HO603 := n0_; have HO616 := n1_; have HK := n2_; have HB := n3_; have HI0 := n4_; clear n0_ n1_ n2_ n3_ n4_; (try clear hb); (try clear hb2); (try clear hk); (try clear hi); have p27 : 0 ≤ (t612 : Int) := of_decide_eq_true (by first | (with_reducible assumption) | assumption); have q27 : (t612 : Int) < ((t601.length : Int) : Int) := of_decide_eq_true (by first | (with_reducible assumption) | assumption); obtain ⟨go27, co27, eo27, gb27, gl27, cl27, HG27⟩ := Kd.R_form HO603.out (by omega); (first | cases eo27 | (injection eo27 with ea_ en_ ec_; (first | subst ea_ | (injection ea_ with ea_; subst ea_)); subst ec_; clear en_)); have GB27 := Aside0.mk gb27; have GG27 := Aside0.mk HG27; clear gb27 gl27 HG27; obtain ⟨hx27_0, hf27_0⟩ := Kd.R_celln 0 HO603.out (t612 : Int) p27 q27; replace p27 := eq_true p27; replace q27 := eq_true q27; have n_ := Aside0.mk (Kd.R_mono (ok' := (fun k_ => some k_ ≠ (.slice Ao34 y614.length co34 : Value).ownBlock)) HO603.out (fun k_ hk => hk.2)); clear HO603; have HO603 := n_; clear n_; obtain ⟨hy36_, hz36_⟩ := Kd.R_celln 0 HO603.out (t612 : Int) (of_decide_eq_true (by first | (with_reducible assumption) | assumption)) (of_decide_eq_true (by first | (with_reducible assumption) | assumption)); have HP36 := Kd.R_putg HO603.out (t612 : Int) t617) | ((with_reducible refine gate_store (t := 3) (p := 39) rfl ?_); refine store_event (t := 3) (p := 39) (v := ?vo_w37) (w1 := (w35.setCell ⟨go27, (t612 : Int).toNat, none⟩ (.int .i64 t617))) ?hg ?ho ?hn ?hr ?_; (case ho => rfl); (case hg => rfl); (case hn => rfl); (case hr => first | (go_simp; done) | (go_simp; rfl)); intro w37 hw; have hg : w35.grownBy w37 (some go27) := (by rw [hw]; exact HP36.2); have hp_ : Kd.R (Kd.int .i64) 3 w37 w.heap.size (fun k_ => some k_ ≠ (.slice Ao34 y614.length co34 : Value).ownBlock) (.slice (some ⟨go27, 0, none⟩) t601.length co30) y619 := (by rw [hw, Ny619.out]; exact HP36.1); clear HP36; have n0_ := Aside0.mk (IsS67.grown (B.st HI0) hg (IsS67.own_ne HI0.out HO603.out (by decide))); have n1_ := Aside0.mk (hp_); have n2_ := Aside0.mk (Kd.R_after (v := (.slice (some ⟨go27, 0, none⟩) t601.length co30)) (v1 := (.slice (some ⟨go27, 0, none⟩) t601.length co30)) (ok := (fun _ => True)) (B.kr HO616) hg (.inl rfl)); have n3_ := Aside0.mk ((by rw [hw]; exact below_set (HB.out) (Nat.le_trans HL.out GB27.out) : Below w0.heap.size w0 w37)); have n4_ := Aside0.mk (KeepBut.trans (B.kk HK) (KeepBut.of_grown hg g) (Kd.R_base2 HO603.out)); clear HI0 HO603 HO616 HB HK; have HI0 := n0_; have HO603 := n1_; have HO616 := n2_; have HB := n3_; have HK := n4_; clear n0_ n1_ n2_ n3_ n4_; clear hg hw hp_))
          go_ret
          exact ⟨_, by first | rfl | (simp [errW_none, errW_some] <;> rfl) | (simp [*, errW_none, errW_some] <;> rfl), Kd.Q_of_R (B.kr0 (Kd.R_mono HO603.out (fun _ hk => trivial))), B.st HI0, B.bs HB, B.kk HK⟩
        rw [if_neg c26] at H
        exact absurd H (by simp)
      rw [if_neg c25] at H
      exact absurd H (by simp)
    rw [if_neg c22] at H
    have c22b0 : decide (0 < (t601.length : Int)) = false := decide_eq_false c22
    have c22b1 : decide (0 < t601.length) = false := decide_eq_false (by omega)
    clear c22
    simp only [Option.some.injEq, Prod.mk.injEq] at H
    obtain ⟨rfl, rfl⟩ := H
    go_enter Try.func70, Try.ntmps70
    go_wp2_with (first | ((with_reducible refine gate_callee (f := 64) rfl ?_); refine goesL_ (some 9) rfl rfl Try.func64 (by kernel_rfl) rfl #[.slice A1 l1.length c1] rfl B.am ?_; (with_reducible refine (spec_copyInts.calls _ _ l1 t601 _ ?side1 ?side2 A4.out).mono ?_); (case side1 => exact Kd.C_keep 0 HR1.out (B.kk HK) hf1); (case side2 => exact HC1.out); rintro e w38 ⟨v602, rfl, ho0, hb⟩; refine ⟨_, rfl, ?_⟩; have n0_ := Aside0.mk (Kd.R_lower ho0 (keep_size (w := w) (g := g) (row := none) (B.kk HK))); have n1_ := Aside0.mk (IsS67.below (B.st HI0) hb); have n2_ := Aside0.mk (KeepBut.trans (B.kk HK) (KeepBut.of_below hb g none) (.inl rfl)); have n3_ := Aside0.mk (below_step (B.bs HB) hb); clear HI0 HK HB; have HO603 := n0_; have HI0 := n1_; have HK := n2_; have HB := n3_; clear n0_ n1_ n2_ n3_; (try clear hb); (try clear hb2); (try clear hk); (try clear hi); (try clear ho0)) | ((with_reducible refine gate_callee (f := 69) rfl ?_); refine goesL_ (some 11) rfl rfl Try.func69 (by kernel_rfl) rfl #[.pointer (some ⟨g, 0, none⟩), .int .i64 20] rfl B.am ?_; (with_reducible refine (spec_reader_pick.calls k g s0_0 s0_1 20 t604 t605 w0 _ ?side1 ?side2 A5.out).mono ?_); (case side1 => exact B.st HI0); (case side2 => exact B.bs HB); rintro e w39 ⟨rfl, hi, hb, hk⟩; refine ⟨_, rfl, ?_⟩; have n0_ := Aside0.mk (Kd.R_mono (Kd.R_keep (IsS67.apart (show IsS67 w0 _ g s0_0 s0_1 from B.st HI0) (B.kr HO603) (by decide)) hk (fun _ h => h.2)) (fun _ h => h.1)); have n1_ := Aside0.mk (KeepBut.trans (B.kk HK) hk (.inl rfl)); have n2_ := Aside0.mk (hb); have n3_ := Aside0.mk (hi); clear HO603 HK HB HI0; have HO603 := n0_; have HK := n1_; have HB := n2_; have HI0 := n3_; clear n0_ n1_ n2_ n3_; (try clear hb); (try clear hb2); (try clear hk); (try clear hi); obtain ⟨Ao40, co40, eo40⟩ := Kd.R_slice HO603.out; subst eo40))
    go_ret
    exact ⟨_, by first | rfl | (simp [errW_none, errW_some] <;> rfl) | (simp [*, errW_none, errW_some] <;> rfl), Kd.Q_of_R (B.kr HO603), B.st HI0, B.bs HB, B.kk HK⟩
  rw [if_neg c21] at H
  have c21b0 : (t604 == 2) = false := beq_eq_false_iff_ne.mpr c21
  have c21b1 : (t604 != 2) = true := bne_iff_ne.mpr c21
  simp only [Option.some.injEq, Prod.mk.injEq] at H
  obtain ⟨rfl, rfl⟩ := H
  go_enter Try.func70, Try.ntmps70
  go_wp2_with (first | ((with_reducible refine gate_callee (f := 64) rfl ?_); refine goesL_ (some 9) rfl rfl Try.func64 (by kernel_rfl) rfl #[.slice A1 l1.length c1] rfl B.am ?_; (with_reducible refine (spec_copyInts.calls _ _ l1 t601 _ ?side1 ?side2 A4.out).mono ?_); (case side1 => exact Kd.C_keep 0 HR1.out (B.kk HK) hf1); (case side2 => exact HC1.out); rintro e w41 ⟨v602, rfl, ho0, hb⟩; refine ⟨_, rfl, ?_⟩; have n0_ := Aside0.mk (Kd.R_lower ho0 (keep_size (w := w) (g := g) (row := none) (B.kk HK))); have n1_ := Aside0.mk (IsS67.below (B.st HI0) hb); have n2_ := Aside0.mk (KeepBut.trans (B.kk HK) (KeepBut.of_below hb g none) (.inl rfl)); have n3_ := Aside0.mk (below_step (B.bs HB) hb); clear HI0 HK HB; have HO603 := n0_; have HI0 := n1_; have HK := n2_; have HB := n3_; clear n0_ n1_ n2_ n3_; (try clear hb); (try clear hb2); (try clear hk); (try clear hi); (try clear ho0)) | ((with_reducible refine gate_callee (f := 69) rfl ?_); refine goesL_ (some 11) rfl rfl Try.func69 (by kernel_rfl) rfl #[.pointer (some ⟨g, 0, none⟩), .int .i64 20] rfl B.am ?_; (with_reducible refine (spec_reader_pick.calls k g s0_0 s0_1 20 t604 t605 w0 _ ?side1 ?side2 A5.out).mono ?_); (case side1 => exact B.st HI0); (case side2 => exact B.bs HB); rintro e w42 ⟨rfl, hi, hb, hk⟩; refine ⟨_, rfl, ?_⟩; have n0_ := Aside0.mk (Kd.R_mono (Kd.R_keep (IsS67.apart (show IsS67 w0 _ g s0_0 s0_1 from B.st HI0) (B.kr HO603) (by decide)) hk (fun _ h => h.2)) (fun _ h => h.1)); have n1_ := Aside0.mk (KeepBut.trans (B.kk HK) hk (.inl rfl)); have n2_ := Aside0.mk (hb); have n3_ := Aside0.mk (hi); clear HO603 HK HB HI0; have HO603 := n0_; have HK := n1_; have HB := n2_; have HI0 := n3_; clear n0_ n1_ n2_ n3_; (try clear hb); (try clear hb2); (try clear hk); (try clear hi)))
  go_ret
  exact ⟨_, by first | rfl | (simp [errW_none, errW_some] <;> rfl) | (simp [*, errW_none, errW_some] <;> rfl), Kd.Q_of_R (B.kr HO603), B.st HI0, B.bs HB, B.kk HK⟩

/-! ### spec_anyPixel: function 56 -/
def spec_anyPixel.l0 : Nat → Int → List Int → Int → List Int → Int → Option (List Int × Int)
  | 0, _, _, _, _, _ => none
  | k + 1, x1, x5, x6, x1000, x1001 => if x6 < x1 then ((spec_reader_pick.f k x1000 x1001 256).bind fun bt623 => (if x5.length < 17592186044416 then (spec_anyPixel.l0 k x1 (x5 ++ [bt623.1]) (wrap64 (x6 + 1)) x1000 bt623.2) else (none))) else ((spec_reader_spoil.f k x1000 x1001 x5 256).bind fun bt628 => (some (bt628.1, bt628.2)))
def spec_anyPixel.f (k : Nat) (s0_0 : List Int) (s0_1 : Int) (a1 : Int) : Option (List Int × Int) := spec_anyPixel.l0 k a1 (([] : List Int)) 0 s0_0 s0_1
theorem spec_anyPixel.mono_l : ∀ k, (∀ y0 y1 y2 y3 y4, LeO (spec_anyPixel.l0 k y0 y1 y2 y3 y4) (spec_anyPixel.l0 (k + 1) y0 y1 y2 y3 y4))
  | 0 => fun _ _ _ _ _ r h => by simp [spec_anyPixel.l0] at h
  | k + 1 => by
    have ih0 := spec_anyPixel.mono_l k
    · intro y0 y1 y2 y3 y4
      unfold spec_anyPixel.l0
      repeat' first
      | (with_reducible exact ih0 _ _ _ _ _)
      | (with_reducible exact spec_reader_pick.mono _ _ _ _)
      | (with_reducible exact spec_reader_spoil.mono _ _ _ _ _)
      | (with_reducible exact LeO.refl _)
      | (with_reducible exact LeO.none _)
      | (with_reducible refine LeO.ite ?_ ?_)
      | (with_reducible refine LeO.bind ?_ (fun _ => ?_))
      | exact ih0 _ _ _ _ _
      | exact spec_reader_pick.mono _ _ _ _
      | exact spec_reader_spoil.mono _ _ _ _ _
      | exact LeO.none _
      | refine LeO.ite ?_ ?_
      | refine LeO.bind ?_ (fun _ => ?_)
theorem spec_anyPixel.mono : ∀ a0 a1 a2 k, LeO (spec_anyPixel.f k a0 a1 a2) (spec_anyPixel.f (k + 1) a0 a1 a2) := by
  intro a0 a1 a2 k
  have ih0 := spec_anyPixel.mono_l k
  unfold spec_anyPixel.f
  repeat' first
      | (with_reducible exact ih0 _ _ _ _ _)
      | (with_reducible exact spec_reader_pick.mono _ _ _ _)
      | (with_reducible exact spec_reader_spoil.mono _ _ _ _ _)
      | (with_reducible exact LeO.refl _)
      | (with_reducible exact LeO.none _)
      | (with_reducible refine LeO.ite ?_ ?_)
      | (with_reducible refine LeO.bind ?_ (fun _ => ?_))
      | exact ih0 _ _ _ _ _
      | exact spec_reader_pick.mono _ _ _ _
      | exact spec_reader_spoil.mono _ _ _ _ _
      | exact LeO.none _
      | refine LeO.ite ?_ ?_
      | refine LeO.bind ?_ (fun _ => ?_)
set_option maxHeartbeats 8000000 in
set_option maxRecDepth 100000 in
theorem spec_anyPixel.calls (k : Nat) (g : Nat) (s0_0 : List Int) (s0_1 : Int) (a1 : Int) (r1 : List Int) (r2 : Int) (w0 w : World) (hI : IsS67 w0 w g s0_0 s0_1) (hB : Below w0.heap.size w0 w) (h : spec_anyPixel.f k s0_0 s0_1 a1 = some (r1, r2)) :
    Calls Try.prog 56 #[.pointer (some ⟨g, 0, none⟩), .int .i64 a1] w fun e w' => ∃ v0_ : Value, e = .returned (v0_) ∧ Kd.Q (Kd.int .i64) 3 w' w.heap.size (fun _ => True) v0_ r1 ∧ IsS67 w0 w' g s0_0 r2 ∧ Below w0.heap.size w0 w' ∧ KeepBut w w' g none := by
  have HI0 := Aside0.mk hI
  have HK := Aside0.mk (KeepBut.refl w g none)
  have HL := Aside0.mk hB.size
  clear hI
  have HW0 := Aside0.mk hB.size
  have HB := Aside0.mk hB
  clear hB
  have H : (spec_anyPixel.l0 k a1 (([] : List Int)) 0 s0_0 s0_1) = some (r1, r2) := h
  clear h
  obtain ⟨y620, hy620⟩ : ∃ y_ : List Int, y_ = (([] : List Int)) := ⟨_, rfl⟩
  replace H : (spec_anyPixel.l0 k a1 y620 0 s0_0 s0_1) = some (r1, r2) := by first | (rw [hy620]; with_reducible exact H) | (have H2_ := (Option.bind_some _ _).symm.trans H; rw [hy620]; with_reducible exact H2_) | (have H2_ := (Option.bind_some _ _).symm.trans H; with_reducible exact H2_) | with_reducible exact H | (rw [hy620]; exact H) | exact H
  have Ny620 := Aside0.mk hy620
  clear hy620
  have H' := Aside0.mk H
  clear H
  go_enter Try.func56, Try.ntmps56
  go_wp2_with (first | ((with_reducible refine gate_dst (N := 7) rfl ?_); refine Kd.R_lit (Kd.int .i64) _ 3 ?hg (N := 7) ?hd (xs := ([] : List Int)) (inner := []) (ok := fun _ => True) (okp := fun _ => True) ?hr ?hp (fun _ hk => hk) trivial (Below.refl _ _) (Nat.le_refl _) (by simp) ?_; (case hd => rfl); (case hg => rfl); (case hr => first | (go_simp; done) | (go_simp; rfl)); (case hp => exact (Reps.none _ _)); intro v621 w3 ho4 hb hg_ hnew_; clear hg_ hnew_; (first | rw [← Ny620.out] at ho4 | (simp only [Int.reduceToNat] at ho4; rw [← Ny620.out] at ho4)); have n0_ := Aside0.mk (Kd.R_lower ho4 (keep_size (w := w) (g := g) (row := none) (B.kk HK))); have n1_ := Aside0.mk (IsS67.below (B.st HI0) hb); have n2_ := Aside0.mk (KeepBut.trans (B.kk HK) (KeepBut.of_below hb g none) (.inl rfl)); have n3_ := Aside0.mk (below_step (B.bs HB) hb); clear HI0 HK HB; have HO622 := n0_; have HI0 := n1_; have HK := n2_; have HB := n3_; clear n0_ n1_ n2_ n3_; clear hb ho4))
  go_loopg [5, 6] k (fun kq v5 v6 w' => ∃ (x5_1 : List Int) (x6_1 : Int) (x1001_1 : Int), v6 = .int .i64 x6_1 ∧ Aside0 (spec_anyPixel.l0 kq a1 x5_1 x6_1 s0_0 x1001_1 = some (r1, r2)) ∧ Aside0 (kq ≤ k) ∧ Aside0 (Kd.R (Kd.int .i64) 3 w' w.heap.size (fun _ => True) v5 x5_1) ∧ Aside0 (IsS67 w0 w' g s0_0 x1001_1) ∧ Aside0 (KeepBut w w' g none) ∧ Aside0 (Below w0.heap.size w0 w'))
  case atStart => exact ⟨(y620), (0), (s0_1), (by first | rfl | (simp; done) | (simp [*]; done)), H', ⟨Nat.le_refl _⟩, ⟨B.kr HO622⟩, ⟨B.st HI0⟩, ⟨B.kk HK⟩, ⟨B.bs HB⟩⟩
  case round =>
    clear H'
    try clear p2
    obtain ⟨x5_1, x6_1, x1001_1, rfl, HA, HK1, HO_5, HI0, HK, HB⟩ := hrel
    cases gk with
    | zero => exact absurd HA.out (by simp [spec_anyPixel.l0])
    | succ k1 =>
      have H := HA.out
      clear HA
      simp only [spec_anyPixel.l0] at H
      by_cases c5 : x6_1 < a1
      · rw [if_pos c5] at H
        have c5b0 : decide (x6_1 < a1) = true := decide_eq_true c5
        clear c5
        replace H := Option.bind_eq_some_iff.mp H
        obtain ⟨⟨t623, t624⟩, A60, H⟩ := H
        replace H : (if x5_1.length < 17592186044416 then (spec_anyPixel.l0 k1 a1 (x5_1 ++ [t623]) (wrap64 (x6_1 + 1)) s0_0 t624) else (none)) = some (r1, r2) := H
        have A6 := Aside0.mk A60
        clear A60
        by_cases c7 : x5_1.length < 17592186044416
        · rw [if_pos c7] at H
          have LMc7 := Aside0.mk c7
          clear c7
          obtain ⟨y625, hy625⟩ : ∃ y_ : List Int, y_ = (x5_1 ++ [t623]) := ⟨_, rfl⟩
          replace H : (spec_anyPixel.l0 k1 a1 y625 (wrap64 (x6_1 + 1)) s0_0 t624) = some (r1, r2) := by first | (rw [hy625]; with_reducible exact H) | (have H2_ := (Option.bind_some _ _).symm.trans H; rw [hy625]; with_reducible exact H2_) | (have H2_ := (Option.bind_some _ _).symm.trans H; with_reducible exact H2_) | with_reducible exact H | (rw [hy625]; exact H) | exact H
          have Ny625 := Aside0.mk hy625
          clear hy625
          have H' := Aside0.mk H
          clear H
          go_wp2_with (first | ((with_reducible refine gate_callee (f := 69) rfl ?_); refine goesL_ (some 15) rfl rfl Try.func69 (by kernel_rfl) rfl #[.pointer (some ⟨g, 0, none⟩), .int .i64 256] rfl B.am ?_; (with_reducible refine (spec_reader_pick.calls k1 g s0_0 x1001_1 256 t623 t624 w0 _ ?side1 ?side2 A6.out).mono ?_); (case side1 => exact B.st HI0); (case side2 => exact B.bs HB); rintro e w8 ⟨rfl, hi, hb, hk⟩; refine ⟨_, rfl, ?_⟩; have n0_ := Aside0.mk (Kd.R_mono (Kd.R_keep (IsS67.apart (show IsS67 w0 _ g s0_0 x1001_1 from B.st HI0) (B.kr HO_5) (by decide)) hk (fun _ h => h.2)) (fun _ h => h.1)); have n1_ := Aside0.mk (KeepBut.trans (B.kk HK) hk (.inl rfl)); have n2_ := Aside0.mk (hb); have n3_ := Aside0.mk (hi); clear HO_5 HK HB HI0; have HO_5 := n0_; have HK := n1_; have HB := n2_; have HI0 := n3_; clear n0_ n1_ n2_ n3_; (try clear hb); (try clear hb2); (try clear hk); (try clear hi)) | ((with_reducible refine gate_builtin (b := .append) (xs := #[.tmp 13, .tmp 16]) rfl ?_); at_builtin; refine Kd.R_append (Kd.int .i64) w.heap.size rfl (.tmp 13) (.tmp 16) 22 3 (.int .i64 0) 8 rfl Try.underlying22 info3 rfl (by decide) (by omega) u5 x5_1 t623 [.int .i64 t623] (fun _ => True) (fun _ => False) rfl rfl ?aP (fun _ hk => hk.elim) ?aF ?aO (Below.refl _ _) ?aS ?aL ?_; (case aP => exact rfl); (case aF => exact (fun _ _ => trivial)); (case aO => exact (B.kr HO_5)); (case aS => exact (keep_size (w := w) (g := g) (row := none) (B.kk HK))); (case aL => have := LMc7.out; omega); intro v626 w9 ho hb hg hat; rw [← Ny625.out] at ho; have n0_ := Aside0.mk (IsS67.grown (B.st HI0) hg (IsS67.own_ne HI0.out HO_5.out (by decide))); have n1_ := Aside0.mk (below_weaken (B.bs HB) HL.out hb); have n2_ := Aside0.mk (KeepBut.trans (B.kk HK) (KeepBut.of_grown hg g) (Kd.R_base2 HO_5.out)); have n3_ := Aside0.mk (ho); clear HI0 HB HK HO_5; have HI0 := n0_; have HB := n1_; have HK := n2_; have HO627 := n3_; clear n0_ n1_ n2_ n3_; clear ho hb hg hat))
          go_roundg k1
          case measure => have := HK1.out; omega
          case rel => exact ⟨(y625), (wrap64 (x6_1 + 1)), (t624), (by first | rfl | (simp; done) | (simp [*]; done)), H', ⟨by have := HK1.out; omega⟩, ⟨B.kr HO627⟩, ⟨B.st HI0⟩, ⟨B.kk HK⟩, ⟨B.bs HB⟩⟩
        rw [if_neg c7] at H
        exact absurd H (by simp)
      rw [if_neg c5] at H
      have c5b0 : decide (x6_1 < a1) = false := decide_eq_false c5
      clear c5
      replace H := Option.bind_eq_some_iff.mp H
      obtain ⟨⟨t628, t631⟩, A100, H⟩ := H
      replace H : (some (t628, t631)) = some (r1, r2) := H
      have A10 := Aside0.mk A100
      clear A100
      simp only [Option.some.injEq, Prod.mk.injEq] at H
      obtain ⟨rfl, rfl⟩ := H
      obtain ⟨Ao11, co11, eo11⟩ := Kd.R_slice HO_5.out
      subst eo11
      go_wp2_with (first | ((with_reducible refine gate_callee (f := 70) rfl ?_); refine goesL_ (some 20) rfl rfl Try.func70 (by kernel_rfl) rfl #[.pointer (some ⟨g, 0, none⟩), .slice Ao11 x5_1.length co11, .int .i64 256] rfl B.am ?_; (with_reducible refine (spec_reader_spoil.calls k1 g s0_0 x1001_1 _ _ x5_1 256 t628 t631 w0 _ ?side1 ?side2 ?side3 ?side4 ?side5 A10.out).mono ?_); (case side1 => exact B.st HI0); (case side2 => exact B.bs HB); (case side3 => exact B.kc ((Kd.R_reads' HO_5.out).2.2)); (case side4 => exact (Kd.R_reads' HO_5.out).2.1); (case side5 => exact far_slice (IsS67.own_ne HI0.out HO_5.out (by decide))); rintro e w12 ⟨v629, rfl, ho0, hi, hb, hk⟩; refine ⟨_, rfl, ?_⟩; have n0_ := Aside0.mk (Kd.R_mono (Kd.R_told (Kd.R_oldK (IsS67.apart (show IsS67 w0 _ g s0_0 x1001_1 from B.st HI0) (B.kr HO_5) (by decide)) hk) (Kd.Q_base ho0)) (fun _ h_ => h_.1)); have n1_ := Aside0.mk (Kd.Q_lower (Kd.Q_new' ho0 (Kd.R_lt (B.kr HO_5))) (keep_size (w := w) (g := g) (row := none) (B.kk HK))); have n2_ := Aside0.mk (KeepBut.trans (B.kk HK) hk (.inl rfl)); have n3_ := Aside0.mk (hb); have n4_ := Aside0.mk (hi); clear HO_5 HK HB HI0; have HO_5 := n0_; have HO630 := n1_; have HK := n2_; have HB := n3_; have HI0 := n4_; clear n0_ n1_ n2_ n3_ n4_; (try clear hb); (try clear hb2); (try clear hk); (try clear hi); (try clear ho0)))
      go_ret
      exact ⟨_, by first | rfl | (simp [errW_none, errW_some] <;> rfl) | (simp [*, errW_none, errW_some] <;> rfl), by (with_reducible repeat (first | apply Kd.Q_alloc | apply Kd.Q_drewN | apply Kd.Q_drew)); exact Kd.Q_mono HO630.out (fun _ hk => trivial), B.st HI0, B.bs HB, B.kk HK⟩

/-! ### spec_DrawFillImage: function 25 -/
def spec_DrawFillImage.f (k : Nat) (l0 : List Int) : Option (Int × Int × List Int) := (spec_newReader.f l0).bind fun bt632 => ((spec_reader_one.f k bt632.1 bt632.2 (([1, 3, 5, 16, 17, 0] : List Int))).bind fun bt638 => ((spec_reader_one.f k bt632.1 bt638.2 (([1, 3, 5, 16, 17, 0] : List Int))).bind fun bt643 => ((spec_reader_one.f k bt632.1 bt643.2 (([1, 3, 4, 2, 0, 5] : List Int))).bind fun bt648 => ((spec_anyPixel.f k bt632.1 bt648.2 bt648.1).bind fun bt650 => (some (bt638.1, bt643.1, bt650.1))))))
theorem spec_DrawFillImage.mono : ∀ a0 k, LeO (spec_DrawFillImage.f k a0) (spec_DrawFillImage.f (k + 1) a0) := by
  intro a0 k
  unfold spec_DrawFillImage.f
  repeat' first
      | (with_reducible exact spec_anyPixel.mono _ _ _ _)
      | (with_reducible exact spec_reader_one.mono _ _ _ _)
      | (with_reducible exact LeO.refl _)
      | (with_reducible exact LeO.none _)
      | (with_reducible refine LeO.ite ?_ ?_)
      | (with_reducible refine LeO.bind ?_ (fun _ => ?_))
      | exact spec_anyPixel.mono _ _ _ _
      | exact spec_reader_one.mono _ _ _ _
      | exact LeO.none _
      | refine LeO.ite ?_ ?_
      | refine LeO.bind ?_ (fun _ => ?_)
set_option maxHeartbeats 8000000 in
set_option maxRecDepth 100000 in
theorem spec_DrawFillImage.calls (k : Nat) (A0 : Option Addr) (c0 : Nat) (l0 : List Int) (r1 : Int) (r2 : Int) (r3 : List Int) (w : World) (hr0 : Kd.C (Kd.int .u8) w A0 l0.length l0) (hc0 : l0.length ≤ c0) (h : spec_DrawFillImage.f k l0 = some (r1, r2, r3)) :
    Calls Try.prog 25 #[.slice A0 l0.length c0] w fun e w' => ∃ v2_ : Value, e = .returned (.tuple #[.int .i64 r1, .int .i64 r2, v2_]) ∧ Kd.Q (Kd.int .i64) 3 w' w.heap.size (fun _ => True) v2_ r3 ∧ Below w.heap.size w w' := by
  have HR0 := Aside0.mk hr0
  have HC0 := Aside0.mk hc0
  clear hr0 hc0
  have HB := Aside0.mk (Below.refl w.heap.size w)
  have H : ((spec_newReader.f l0).bind fun bt632 => ((spec_reader_one.f k bt632.1 bt632.2 (([1, 3, 5, 16, 17, 0] : List Int))).bind fun bt638 => ((spec_reader_one.f k bt632.1 bt638.2 (([1, 3, 5, 16, 17, 0] : List Int))).bind fun bt643 => ((spec_reader_one.f k bt632.1 bt643.2 (([1, 3, 4, 2, 0, 5] : List Int))).bind fun bt648 => ((spec_anyPixel.f k bt632.1 bt648.2 bt648.1).bind fun bt650 => (some (bt638.1, bt643.1, bt650.1))))))) = some (r1, r2, r3) := h
  clear h
  replace H := Option.bind_eq_some_iff.mp H
  obtain ⟨⟨t632, t633⟩, A20, H⟩ := H
  replace H : ((spec_reader_one.f k t632 t633 (([1, 3, 5, 16, 17, 0] : List Int))).bind fun bt638 => ((spec_reader_one.f k t632 bt638.2 (([1, 3, 5, 16, 17, 0] : List Int))).bind fun bt643 => ((spec_reader_one.f k t632 bt643.2 (([1, 3, 4, 2, 0, 5] : List Int))).bind fun bt648 => ((spec_anyPixel.f k t632 bt648.2 bt648.1).bind fun bt650 => (some (bt638.1, bt643.1, bt650.1)))))) = some (r1, r2, r3) := H
  have A2 := Aside0.mk A20
  clear A20
  obtain ⟨y635, hy635⟩ : ∃ y_ : List Int, y_ = (([1, 3, 5, 16, 17, 0] : List Int)) := ⟨_, rfl⟩
  replace H : ((spec_reader_one.f k t632 t633 y635).bind fun bt638 => ((spec_reader_one.f k t632 bt638.2 (([1, 3, 5, 16, 17, 0] : List Int))).bind fun bt643 => ((spec_reader_one.f k t632 bt643.2 (([1, 3, 4, 2, 0, 5] : List Int))).bind fun bt648 => ((spec_anyPixel.f k t632 bt648.2 bt648.1).bind fun bt650 => (some (bt638.1, bt643.1, bt650.1)))))) = some (r1, r2, r3) := by first | (rw [hy635]; with_reducible exact H) | (have H2_ := (Option.bind_some _ _).symm.trans H; rw [hy635]; with_reducible exact H2_) | (have H2_ := (Option.bind_some _ _).symm.trans H; with_reducible exact H2_) | with_reducible exact H | (rw [hy635]; exact H) | exact H
  have Ny635 := Aside0.mk hy635
  clear hy635
  replace H := Option.bind_eq_some_iff.mp H
  obtain ⟨⟨t638, t639⟩, A30, H⟩ := H
  replace H : ((spec_reader_one.f k t632 t639 (([1, 3, 5, 16, 17, 0] : List Int))).bind fun bt643 => ((spec_reader_one.f k t632 bt643.2 (([1, 3, 4, 2, 0, 5] : List Int))).bind fun bt648 => ((spec_anyPixel.f k t632 bt648.2 bt648.1).bind fun bt650 => (some (t638, bt643.1, bt650.1))))) = some (r1, r2, r3) := H
  have A3 := Aside0.mk A30
  clear A30
  obtain ⟨y640, hy640⟩ : ∃ y_ : List Int, y_ = (([1, 3, 5, 16, 17, 0] : List Int)) := ⟨_, rfl⟩
  replace H : ((spec_reader_one.f k t632 t639 y640).bind fun bt643 => ((spec_reader_one.f k t632 bt643.2 (([1, 3, 4, 2, 0, 5] : List Int))).bind fun bt648 => ((spec_anyPixel.f k t632 bt648.2 bt648.1).bind fun bt650 => (some (t638, bt643.1, bt650.1))))) = some (r1, r2, r3) := by first | (rw [hy640]; with_reducible exact H) | (have H2_ := (Option.bind_some _ _).symm.trans H; rw [hy640]; with_reducible exact H2_) | (have H2_ := (Option.bind_some _ _).symm.trans H; with_reducible exact H2_) | with_reducible exact H | (rw [hy640]; exact H) | exact H
  have Ny640 := Aside0.mk hy640
  clear hy640
  replace H := Option.bind_eq_some_iff.mp H
  obtain ⟨⟨t643, t644⟩, A40, H⟩ := H
  replace H : ((spec_reader_one.f k t632 t644 (([1, 3, 4, 2, 0, 5] : List Int))).bind fun bt648 => ((spec_anyPixel.f k t632 bt648.2 bt648.1).bind fun bt650 => (some (t638, t643, bt650.1)))) = some (r1, r2, r3) := H
  have A4 := Aside0.mk A40
  clear A40
  obtain ⟨y645, hy645⟩ : ∃ y_ : List Int, y_ = (([1, 3, 4, 2, 0, 5] : List Int)) := ⟨_, rfl⟩
  replace H : ((spec_reader_one.f k t632 t644 y645).bind fun bt648 => ((spec_anyPixel.f k t632 bt648.2 bt648.1).bind fun bt650 => (some (t638, t643, bt650.1)))) = some (r1, r2, r3) := by first | (rw [hy645]; with_reducible exact H) | (have H2_ := (Option.bind_some _ _).symm.trans H; rw [hy645]; with_reducible exact H2_) | (have H2_ := (Option.bind_some _ _).symm.trans H; with_reducible exact H2_) | with_reducible exact H | (rw [hy645]; exact H) | exact H
  have Ny645 := Aside0.mk hy645
  clear hy645
  replace H := Option.bind_eq_some_iff.mp H
  obtain ⟨⟨t648, t649⟩, A50, H⟩ := H
  replace H : ((spec_anyPixel.f k t632 t649 t648).bind fun bt650 => (some (t638, t643, bt650.1))) = some (r1, r2, r3) := H
  have A5 := Aside0.mk A50
  clear A50
  replace H := Option.bind_eq_some_iff.mp H
  obtain ⟨⟨t650, t653⟩, A60, H⟩ := H
  replace H : (some (t638, t643, t650)) = some (r1, r2, r3) := H
  have A6 := Aside0.mk A60
  clear A60
  simp only [Option.some.injEq, Prod.mk.injEq] at H
  obtain ⟨rfl, rfl, rfl⟩ := H
  go_enter Try.func25, Try.ntmps25
  go_wp2_with (first | ((with_reducible refine gate_callee (f := 48) rfl ?_); refine goesL_ (some 9) rfl rfl Try.func48 (by kernel_rfl) rfl #[.slice A0 l0.length c0] rfl B.am ?_; (with_reducible refine (spec_newReader.calls _ _ l0 t632 t633 w _ ?side1 ?side2 ?side3 A2.out).mono ?_); (case side1 => exact B.bl HB); (case side2 => exact HR0.out); (case side3 => exact HC0.out); rintro e w7 ⟨g634, rfl, hi, hb, hb2⟩; refine ⟨_, rfl, ?_⟩; have n0_ := Aside0.mk (hb); have n1_ := Aside0.mk (hi); clear HB; have HB := n0_; have HI634 := n1_; clear n0_ n1_; (try clear hb); (try clear hb2); (try clear hk); (try clear hi)) | ((with_reducible refine gate_dst (N := 11) rfl ?_); refine Kd.R_lit (Kd.int .i64) _ 3 ?hg (N := 11) ?hd (xs := ([1, 3, 5, 16, 17, 0] : List Int)) (inner := [.int .i64 1, .int .i64 3, .int .i64 5, .int .i64 16, .int .i64 17, .int .i64 0]) (ok := fun _ => True) (okp := fun _ => True) ?hr ?hp (fun _ hk => hk) trivial (Below.refl _ _) (Nat.le_refl _) (by simp) ?_; (case hd => rfl); (case hg => rfl); (case hr => first | (go_simp; done) | (go_simp; rfl)); (case hp => exact (Reps.one (show Kd.M (Kd.int .i64) _ _ _ 1 [.int .i64 1] from rfl) (Reps.one (show Kd.M (Kd.int .i64) _ _ _ 3 [.int .i64 3] from rfl) (Reps.one (show Kd.M (Kd.int .i64) _ _ _ 5 [.int .i64 5] from rfl) (Reps.one (show Kd.M (Kd.int .i64) _ _ _ 16 [.int .i64 16] from rfl) (Reps.one (show Kd.M (Kd.int .i64) _ _ _ 17 [.int .i64 17] from rfl) (Reps.one (show Kd.M (Kd.int .i64) _ _ _ 0 [.int .i64 0] from rfl) (Reps.none _ _)))))))); intro v636 w8 ho9 hb hg_ hnew_; clear hg_ hnew_; (first | rw [← Ny635.out] at ho9 | (simp only [Int.reduceToNat] at ho9; rw [← Ny635.out] at ho9)); have n0_ := Aside0.mk (Kd.R_lower ho9 (below_size (B.bs HB))); have n1_ := Aside0.mk (IsS67.below (B.st HI634) hb); have n2_ := Aside0.mk (below_step (B.bs HB) hb); clear HI634 HB; have HO637 := n0_; have HI634 := n1_; have HB := n2_; clear n0_ n1_ n2_; clear hb ho9; obtain ⟨Ao10, co10, eo10⟩ := Kd.R_slice HO637.out; subst eo10) | ((with_reducible refine gate_callee (f := 52) rfl ?_); refine goesL_ (some 12) rfl rfl Try.func52 (by kernel_rfl) rfl #[.pointer (some ⟨g634, 0, none⟩), .slice Ao10 y635.length co10] rfl B.am ?_; (with_reducible refine (spec_reader_one.calls k g634 t632 t633 _ _ y635 t638 t639 w _ ?side1 ?side2 ?side3 ?side4 ?side5 A3.out).mono ?_); (case side1 => exact B.st HI634); (case side2 => exact B.bs HB); (case side3 => exact B.kc ((Kd.R_reads' HO637.out).2.2)); (case side4 => exact (Kd.R_reads' HO637.out).2.1); (case side5 => exact far_slice (IsS67.own_ne HI634.out HO637.out (by decide))); rintro e w11 ⟨rfl, hi, hb, hk⟩; refine ⟨_, rfl, ?_⟩; have n0_ := Aside0.mk (Kd.R_mono (Kd.R_keep (IsS67.apart (show IsS67 w _ g634 t632 t633 from B.st HI634) (B.kr HO637) (by decide)) hk (fun _ h => h.2)) (fun _ h => h.1)); have n1_ := Aside0.mk (hb); have n2_ := Aside0.mk (hi); clear HO637 HB HI634; have HO637 := n0_; have HB := n1_; have HI634 := n2_; clear n0_ n1_ n2_; (try clear hb); (try clear hb2); (try clear hk); (try clear hi)) | ((with_reducible refine gate_dst (N := 14) rfl ?_); refine Kd.R_lit (Kd.int .i64) _ 3 ?hg (N := 14) ?hd (xs := ([1, 3, 5, 16, 17, 0] : List Int)) (inner := [.int .i64 1, .int .i64 3, .int .i64 5, .int .i64 16, .int .i64 17, .int .i64 0]) (ok := fun _ => True) (okp := fun _ => True) ?hr ?hp (fun _ hk => hk) trivial (Below.refl _ _) (Nat.le_refl _) (by simp) ?_; (case hd => rfl); (case hg => rfl); (case hr => first | (go_simp; done) | (go_simp; rfl)); (case hp => exact (Reps.one (show Kd.M (Kd.int .i64) _ _ _ 1 [.int .i64 1] from rfl) (Reps.one (show Kd.M (Kd.int .i64) _ _ _ 3 [.int .i64 3] from rfl) (Reps.one (show Kd.M (Kd.int .i64) _ _ _ 5 [.int .i64 5] from rfl) (Reps.one (show Kd.M (Kd.int .i64) _ _ _ 16 [.int .i64 16] from rfl) (Reps.one (show Kd.M (Kd.int .i64) _ _ _ 17 [.int .i64 17] from rfl) (Reps.one (show Kd.M (Kd.int .i64) _ _ _ 0 [.int .i64 0] from rfl) (Reps.none _ _)))))))); intro v641 w12 ho13 hb hg_ hnew_; clear hg_ hnew_; (first | rw [← Ny640.out] at ho13 | (simp only [Int.reduceToNat] at ho13; rw [← Ny640.out] at ho13)); have n0_ := Aside0.mk (Kd.R_elder' (B.kr HO637) (Kd.R_base ho13) hb); have n1_ := Aside0.mk (Kd.R_lower (Kd.R_new' ho13 (Kd.R_lt (B.kr HO637))) (below_size (B.bs HB))); have n2_ := Aside0.mk (IsS67.below (B.st HI634) hb); have n3_ := Aside0.mk (below_step (B.bs HB) hb); clear HO637 HI634 HB; have HO637 := n0_; have HO642 := n1_; have HI634 := n2_; have HB := n3_; clear n0_ n1_ n2_ n3_; clear hb ho13; obtain ⟨Ao14, co14, eo14⟩ := Kd.R_slice HO642.out; subst eo14) | ((with_reducible refine gate_callee (f := 52) rfl ?_); refine goesL_ (some 15) rfl rfl Try.func52 (by kernel_rfl) rfl #[.pointer (some ⟨g634, 0, none⟩), .slice Ao14 y640.length co14] rfl B.am ?_; (with_reducible refine (spec_reader_one.calls k g634 t632 t639 _ _ y640 t643 t644 w _ ?side1 ?side2 ?side3 ?side4 ?side5 A4.out).mono ?_); (case side1 => exact B.st HI634); (case side2 => exact B.bs HB); (case side3 => exact B.kc ((Kd.R_reads' HO642.out).2.2)); (case side4 => exact (Kd.R_reads' HO642.out).2.1); (case side5 => exact far_slice (IsS67.own_ne HI634.out HO642.out (by decide))); rintro e w15 ⟨rfl, hi, hb, hk⟩; refine ⟨_, rfl, ?_⟩; have n0_ := Aside0.mk (Kd.R_mono (Kd.R_keep (IsS67.apart (show IsS67 w _ g634 t632 t639 from B.st HI634) (B.kr HO637) (by decide)) hk (fun _ h => h.2)) (fun _ h => h.1)); have n1_ := Aside0.mk (Kd.R_mono (Kd.R_keep (IsS67.apart (show IsS67 w _ g634 t632 t639 from B.st HI634) (B.kr HO642) (by decide)) hk (fun _ h => h.2)) (fun _ h => h.1)); have n2_ := Aside0.mk (hb); have n3_ := Aside0.mk (hi); clear HO637 HO642 HB HI634; have HO637 := n0_; have HO642 := n1_; have HB := n2_; have HI634 := n3_; clear n0_ n1_ n2_ n3_; (try clear hb); (try clear hb2); (try clear hk); (try clear hi)) | ((with_reducible refine gate_dst (N := 20) rfl ?_); refine Kd.R_lit (Kd.int .i64) _ 3 ?hg (N := 20) ?hd (xs := ([1, 3, 4, 2, 0, 5] : List Int)) (inner := [.int .i64 1, .int .i64 3, .int .i64 4, .int .i64 2, .int .i64 0, .int .i64 5]) (ok := fun _ => True) (okp := fun _ => True) ?hr ?hp (fun _ hk => hk) trivial (Below.refl _ _) (Nat.le_refl _) (by simp) ?_; (case hd => rfl); (case hg => rfl); (case hr => first | (go_simp; done) | (go_simp; rfl)); (case hp => exact (Reps.one (show Kd.M (Kd.int .i64) _ _ _ 1 [.int .i64 1] from rfl) (Reps.one (show Kd.M (Kd.int .i64) _ _ _ 3 [.int .i64 3] from rfl) (Reps.one (show Kd.M (Kd.int .i64) _ _ _ 4 [.int .i64 4] from rfl) (Reps.one (show Kd.M (Kd.int .i64) _ _ _ 2 [.int .i64 2] from rfl) (Reps.one (show Kd.M (Kd.int .i64) _ _ _ 0 [.int .i64 0] from rfl) (Reps.one (show Kd.M (Kd.int .i64) _ _ _ 5 [.int .i64 5] from rfl) (Reps.none _ _)))))))); intro v646 w16 ho17 hb hg_ hnew_; clear hg_ hnew_; (first | rw [← Ny645.out] at ho17 | (simp only [Int.reduceToNat] at ho17; rw [← Ny645.out] at ho17)); have n0_ := Aside0.mk (Kd.R_elder' (B.kr HO637) (Kd.R_base ho17) hb); have n1_ := Aside0.mk (Kd.R_elder' (B.kr HO642) (Kd.R_base ho17) hb); have n2_ := Aside0.mk (Kd.R_lower (Kd.R_new' (Kd.R_new' ho17 (Kd.R_lt (B.kr HO637))) (Kd.R_lt (B.kr HO642))) (below_size (B.bs HB))); have n3_ := Aside0.mk (IsS67.below (B.st HI634) hb); have n4_ := Aside0.mk (below_step (B.bs HB) hb); clear HO637 HO642 HI634 HB; have HO637 := n0_; have HO642 := n1_; have HO647 := n2_; have HI634 := n3_; have HB := n4_; clear n0_ n1_ n2_ n3_ n4_; clear hb ho17; obtain ⟨Ao18, co18, eo18⟩ := Kd.R_slice HO647.out; subst eo18) | ((with_reducible refine gate_callee (f := 52) rfl ?_); refine goesL_ (some 21) rfl rfl Try.func52 (by kernel_rfl) rfl #[.pointer (some ⟨g634, 0, none⟩), .slice Ao18 y645.length co18] rfl B.am ?_; (with_reducible refine (spec_reader_one.calls k g634 t632 t644 _ _ y645 t648 t649 w _ ?side1 ?side2 ?side3 ?side4 ?side5 A5.out).mono ?_); (case side1 => exact B.st HI634); (case side2 => exact B.bs HB); (case side3 => exact B.kc ((Kd.R_reads' HO647.out).2.2)); (case side4 => exact (Kd.R_reads' HO647.out).2.1); (case side5 => exact far_slice (IsS67.own_ne HI634.out HO647.out (by decide))); rintro e w19 ⟨rfl, hi, hb, hk⟩; refine ⟨_, rfl, ?_⟩; have n0_ := Aside0.mk (Kd.R_mono (Kd.R_keep (IsS67.apart (show IsS67 w _ g634 t632 t644 from B.st HI634) (B.kr HO637) (by decide)) hk (fun _ h => h.2)) (fun _ h => h.1)); have n1_ := Aside0.mk (Kd.R_mono (Kd.R_keep (IsS67.apart (show IsS67 w _ g634 t632 t644 from B.st HI634) (B.kr HO642) (by decide)) hk (fun _ h => h.2)) (fun _ h => h.1)); have n2_ := Aside0.mk (Kd.R_mono (Kd.R_keep (IsS67.apart (show IsS67 w _ g634 t632 t644 from B.st HI634) (B.kr HO647) (by decide)) hk (fun _ h => h.2)) (fun _ h => h.1)); have n3_ := Aside0.mk (hb); have n4_ := Aside0.mk (hi); clear HO637 HO642 HO647 HB HI634; have HO637 := n0_; have HO642 := n1_; have HO647 := n2_; have HB := n3_; have HI634 := n4_; clear n0_ n1_ n2_ n3_ n4_; (try clear hb); (try clear hb2); (try clear hk); (try clear hi)) | ((with_reducible refine gate_callee (f := 56) rfl ?_); refine goesL_ (some 22) rfl rfl Try.func56 (by kernel_rfl) rfl #[.pointer (some ⟨g634, 0, none⟩), .int .i64 t648] rfl B.am ?_; (with_reducible refine (spec_anyPixel.calls k g634 t632 t649 t648 t650 t653 w _ ?side1 ?side2 A6.out).mono ?_); (case side1 => exact B.st HI634); (case side2 => exact B.bs HB); rintro e w20 ⟨v651, rfl, ho0, hi, hb, hk⟩; refine ⟨_, rfl, ?_⟩; have n0_ := Aside0.mk (Kd.R_mono (Kd.R_told (Kd.R_oldK (IsS67.apart (show IsS67 w _ g634 t632 t649 from B.st HI634) (B.kr HO637) (by decide)) hk) (Kd.Q_base ho0)) (fun _ h_ => h_.1)); have n1_ := Aside0.mk (Kd.R_mono (Kd.R_told (Kd.R_oldK (IsS67.apart (show IsS67 w _ g634 t632 t649 from B.st HI634) (B.kr HO642) (by decide)) hk) (Kd.Q_base ho0)) (fun _ h_ => h_.1)); have n2_ := Aside0.mk (Kd.R_mono (Kd.R_told (Kd.R_oldK (IsS67.apart (show IsS67 w _ g634 t632 t649 from B.st HI634) (B.kr HO647) (by decide)) hk) (Kd.Q_base ho0)) (fun _ h_ => h_.1)); have n3_ := Aside0.mk (Kd.Q_lower (Kd.Q_new' (Kd.Q_new' (Kd.Q_new' ho0 (Kd.R_lt (B.kr HO637))) (Kd.R_lt (B.kr HO642))) (Kd.R_lt (B.kr HO647))) (below_size (B.bs HB))); have n4_ := Aside0.mk (hb); have n5_ := Aside0.mk (hi); clear HO637 HO642 HO647 HB HI634; have HO637 := n0_; have HO642 := n1_; have HO647 := n2_; have HO652 := n3_; have HB := n4_; have HI634 := n5_; clear n0_ n1_ n2_ n3_ n4_ n5_; (try clear hb); (try clear hb2); (try clear hk); (try clear hi); (try clear ho0)))
  go_ret3
  exact ⟨_, by first | rfl | (simp [errW_none, errW_some] <;> rfl) | (simp [*, errW_none, errW_some] <;> rfl), by (with_reducible repeat (first | apply Kd.Q_alloc | apply Kd.Q_drewN | apply Kd.Q_drew)); exact Kd.Q_mono HO652.out (fun _ hk => trivial), B.bs HB⟩

/-! ### impl_FillImage: function 26 -/
mutual
def impl_FillImage.j0 : Nat → Int → Int → List Int → Bool → Int → Int → Int → Option (Int × Int × Int × List Int)
  | 0, _, _, _, _, _, _, _ => none
  | k + 1, x0, x1, x2, x35, x656000, x656001, x656002 => if x35 = true then (some (0, 0, 0, ([] : List Int))) else (impl_FillImage.l0 k x2 (wrap64 (x0 * x1)) 0 x656000 x656001 x656002 ([] : List Int))
def impl_FillImage.l0 : Nat → List Int → Int → Int → Int → Int → Int → List Int → Option (Int × Int × Int × List Int)
  | 0, _, _, _, _, _, _, _ => none
  | k + 1, x2, x39, x40, x656000, x656001, x656002, x656003 => if x40 < x39 then (if x656003.length + x2.length < 17592186044416 then (impl_FillImage.l0 k x2 x39 (wrap64 (x40 + 1)) x656000 x656001 x656002 (x656003 ++ x2)) else (none)) else (some (x656000, x656001, x656002, x656003))
end
def impl_FillImage.f (k : Nat) (a0 : Int) (a1 : Int) (l2 : List Int) : Option (Int × Int × Int × List Int) := (impl_isSide.f a0).bind fun t656 => (if t656 = true then ((impl_isSide.f a1).bind fun t657 => (if t657 = true then (if (l2.length : Int) < 1 then (impl_FillImage.j0 k a0 a1 l2 true a0 a1 (l2.length : Int)) else (if (l2.length : Int) > 4 then (impl_FillImage.j0 k a0 a1 l2 true a0 a1 (l2.length : Int)) else ((impl_areBytes.f l2).bind fun t658 => (impl_FillImage.j0 k a0 a1 l2 (!t658) a0 a1 (l2.length : Int))))) else (impl_FillImage.j0 k a0 a1 l2 true a0 a1 (l2.length : Int)))) else (impl_FillImage.j0 k a0 a1 l2 true a0 a1 (l2.length : Int)))
theorem impl_FillImage.mono_l : ∀ k, (∀ y0 y1 y2 y3 y4 y5 y6, LeO (impl_FillImage.j0 k y0 y1 y2 y3 y4 y5 y6) (impl_FillImage.j0 (k + 1) y0 y1 y2 y3 y4 y5 y6)) ∧ (∀ y0 y1 y2 y3 y4 y5 y6, LeO (impl_FillImage.l0 k y0 y1 y2 y3 y4 y5 y6) (impl_FillImage.l0 (k + 1) y0 y1 y2 y3 y4 y5 y6))
  | 0 => ⟨fun _ _ _ _ _ _ _ r h => by simp [impl_FillImage.j0] at h, fun _ _ _ _ _ _ _ r h => by simp [impl_FillImage.l0] at h⟩
  | k + 1 => by
    obtain ⟨ih0, ih1⟩ := impl_FillImage.mono_l k
    refine ⟨?_, ?_⟩
    · intro y0 y1 y2 y3 y4 y5 y6
      unfold impl_FillImage.j0
      repeat' first
      | (with_reducible exact ih0 _ _ _ _ _ _ _)
      | (with_reducible exact ih1 _ _ _ _ _ _ _)
      | (with_reducible exact LeO.refl _)
      | (with_reducible exact LeO.none _)
      | (with_reducible refine LeO.ite ?_ ?_)
      | (with_reducible refine LeO.bind ?_ (fun _ => ?_))
      | exact ih0 _ _ _ _ _ _ _
      | exact ih1 _ _ _ _ _ _ _
      | exact LeO.none _
      | refine LeO.ite ?_ ?_
      | refine LeO.bind ?_ (fun _ => ?_)
    intro y0 y1 y2 y3 y4 y5 y6
    unfold impl_FillImage.l0
    repeat' first
    | (with_reducible exact ih0 _ _ _ _ _ _ _)
    | (with_reducible exact ih1 _ _ _ _ _ _ _)
    | (with_reducible exact LeO.refl _)
    | (with_reducible exact LeO.none _)
    | (with_reducible refine LeO.ite ?_ ?_)
    | (with_reducible refine LeO.bind ?_ (fun _ => ?_))
    | exact ih0 _ _ _ _ _ _ _
    | exact ih1 _ _ _ _ _ _ _
    | exact LeO.none _
    | refine LeO.ite ?_ ?_
    | refine LeO.bind ?_ (fun _ => ?_)
theorem impl_FillImage.mono : ∀ a0 a1 a2 k, LeO (impl_FillImage.f k a0 a1 a2) (impl_FillImage.f (k + 1) a0 a1 a2) := by
  intro a0 a1 a2 k
  obtain ⟨ih0, ih1⟩ := impl_FillImage.mono_l k
  unfold impl_FillImage.f
  repeat' first
      | (with_reducible exact ih0 _ _ _ _ _ _ _)
      | (with_reducible exact ih1 _ _ _ _ _ _ _)
      | (with_reducible exact LeO.refl _)
      | (with_reducible exact LeO.none _)
      | (with_reducible refine LeO.ite ?_ ?_)
      | (with_reducible refine LeO.bind ?_ (fun _ => ?_))
      | exact ih0 _ _ _ _ _ _ _
      | exact ih1 _ _ _ _ _ _ _
      | exact LeO.none _
      | refine LeO.ite ?_ ?_
      | refine LeO.bind ?_ (fun _ => ?_)
set_option maxHeartbeats 8000000 in
set_option maxRecDepth 100000 in
theorem impl_FillImage.calls (k : Nat) (a0 : Int) (a1 : Int) (A2 : Option Addr) (c2 : Nat) (l2 : List Int) (r1 : Int) (r2 : Int) (r3 : Int) (r4 : List Int) (w : World) (hr2 : Kd.C (Kd.int .i64) w A2 l2.length l2) (hc2 : l2.length ≤ c2) (h : impl_FillImage.f k a0 a1 l2 = some (r1, r2, r3, r4)) :
    Calls Try.prog 26 #[.int .i64 a0, .int .i64 a1, .slice A2 l2.length c2] w fun e w' => ∃ v3_ : Value, e = .returned (.agg #[.int .i64 r1, .int .i64 r2, .int .i64 r3, v3_]) ∧ Kd.R (Kd.int .i64) 3 w' w.heap.size (fun _ => True) v3_ r4 ∧ Below w.heap.size w w' := by
  have hu26 := Try.underlying26
  have HR2 := Aside0.mk hr2
  have HC2 := Aside0.mk hc2
  clear hr2 hc2
  have HB := Aside0.mk (Below.refl w.heap.size w)
  have H : ((impl_isSide.f a0).bind fun t656 => (if t656 = true then ((impl_isSide.f a1).bind fun t657 => (if t657 = true then (if (l2.length : Int) < 1 then (impl_FillImage.j0 k a0 a1 l2 true a0 a1 (l2.length : Int)) else (if (l2.length : Int) > 4 then (impl_FillImage.j0 k a0 a1 l2 true a0 a1 (l2.length : Int)) else ((impl_areBytes.f l2).bind fun t658 => (impl_FillImage.j0 k a0 a1 l2 (!t658) a0 a1 (l2.length : Int))))) else (impl_FillImage.j0 k a0 a1 l2 true a0 a1 (l2.length : Int)))) else (impl_FillImage.j0 k a0 a1 l2 true a0 a1 (l2.length : Int)))) = some (r1, r2, r3, r4) := h
  clear h
  have HC4 := Aside0.mk H
  clear H
  go_enter Try.func26, Try.ntmps26
  go_upto_region 2 with (first | ((with_reducible refine gate_dst (N := 6) rfl ?_); (try (refine gate_guard (by rfl) ?_; dsimp only)); refine box_event ?hg (N := 6) ?hd (cs := #[.int .i64 0, .int .i64 0, .int .i64 0, .slice none 0 0]) (t := 26) ?hr ?_; (case hd => rfl); (case hg => rfl); (case hr => first | (go_simp; done) | (go_simp; rfl)); intro gb654 hg w5 hbox hb; have n0_ := Aside0.mk (below_step (B.bl HB) hb); have n1_ := Aside0.mk (hbox); have n2_ := Aside0.mk (B.nle hg (below_size (B.bl HB))); have n3_ := Aside0.mk (B.nle hg (below_size (B.bl HB))); clear HB; have HB := n0_; have BK654 := n1_; have GW654 := n2_; have GE654 := n3_; clear n0_ n1_ n2_ n3_; clear hb hbox hg) | ((with_reducible refine gate_dst (N := 7) rfl ?_); (try (refine gate_guard (by rfl) ?_; dsimp only)); refine box_event ?hg (N := 7) ?hd (cs := #[.int .i64 0, .int .i64 0, .int .i64 0, .slice none 0 0]) (t := 26) ?hr ?_; (case hd => rfl); (case hg => rfl); (case hr => first | (go_simp; done) | (go_simp; rfl)); intro gb655 hg w6 hbox hb; have n0_ := Aside0.mk (blk_below (B.kb BK654) hb); have n1_ := Aside0.mk (below_step (B.bl HB) hb); have n2_ := Aside0.mk (hbox); have n3_ := Aside0.mk (B.nle hg (below_size (B.bl HB))); have n4_ := Aside0.mk (B.nle hg (below_size (B.bl HB))); have n5_ := Aside0.mk (B.nlt hg (blk_lt (B.kb BK654))); have n6_ := Aside0.mk (B.ngt hg (blk_lt (B.kb BK654))); clear BK654 HB; have BK654 := n0_; have HB := n1_; have BK655 := n2_; have GW655 := n3_; have GE655 := n4_; have NB654_655 := n5_; have NB655_654 := n6_; clear n0_ n1_ n2_ n3_ n4_ n5_ n6_; clear hb hbox hg; have hnb7 := NB655_654.out; have hnc7 := NB654_655.out; have hcz8_0 : w6.cell? ⟨gb655, 0, none⟩ = some (.int .i64 0) := B.bc BK655 0; have hcz8_1 : w6.cell? ⟨gb655, 1, none⟩ = some (.int .i64 0) := B.bc BK655 1; have hcz8_2 : w6.cell? ⟨gb655, 2, none⟩ = some (.int .i64 0) := B.bc BK655 2; have hcz8_3 : w6.cell? ⟨gb655, 3, none⟩ = some (.slice none 0 0) := B.bc BK655 3; have hfz8_0 := blk_frozen BK655.out 0; have hfz8_1 := blk_frozen BK655.out 1; have hfz8_2 := blk_frozen BK655.out 2; have hfz8_3 := blk_frozen BK655.out 3))
  (try simp only [Act.put, List.setIfInBounds_toArray, List.set_cons_zero, List.set_cons_succ])
  go_cut [35] (fun v35 wc => ∃ (kq : Nat) (x35_3 : Bool), v35 = .bool x35_3 ∧ Aside0 (impl_FillImage.j0 kq a0 a1 l2 x35_3 a0 a1 (l2.length : Int) = some (r1, r2, r3, r4)) ∧ Aside0 (kq ≤ k) ∧ Aside0 (wc.heap[gb654]? = some (.cells #[.int .i64 0, .int .i64 0, .int .i64 0, (.slice none 0 0)] 26 (0, 0))) ∧ Aside0 (wc.heap[gb655]? = some (.cells #[.int .i64 a0, .int .i64 a1, .int .i64 (l2.length : Int), (.slice none 0 0)] 26 (0, 0))) ∧ Aside0 (Below w.heap.size w wc))
  case first =>
    have H := HC4.out
    clear HC4
    replace H := Option.bind_eq_some_iff.mp H
    obtain ⟨t656, A90, H⟩ := H
    replace H : (if t656 = true then ((impl_isSide.f a1).bind fun t657 => (if t657 = true then (if (l2.length : Int) < 1 then (impl_FillImage.j0 k a0 a1 l2 true a0 a1 (l2.length : Int)) else (if (l2.length : Int) > 4 then (impl_FillImage.j0 k a0 a1 l2 true a0 a1 (l2.length : Int)) else ((impl_areBytes.f l2).bind fun t658 => (impl_FillImage.j0 k a0 a1 l2 (!t658) a0 a1 (l2.length : Int))))) else (impl_FillImage.j0 k a0 a1 l2 true a0 a1 (l2.length : Int)))) else (impl_FillImage.j0 k a0 a1 l2 true a0 a1 (l2.length : Int))) = some (r1, r2, r3, r4) := H
    have A9 := Aside0.mk A90
    clear A90
    by_cases c10 : t656 = true
    · subst c10
      have H1 : ((impl_isSide.f a1).bind fun t657 => (if t657 = true then (if (l2.length : Int) < 1 then (impl_FillImage.j0 k a0 a1 l2 true a0 a1 (l2.length : Int)) else (if (l2.length : Int) > 4 then (impl_FillImage.j0 k a0 a1 l2 true a0 a1 (l2.length : Int)) else ((impl_areBytes.f l2).bind fun t658 => (impl_FillImage.j0 k a0 a1 l2 (!t658) a0 a1 (l2.length : Int))))) else (impl_FillImage.j0 k a0 a1 l2 true a0 a1 (l2.length : Int)))) = some (r1, r2, r3, r4) := by rw [if_pos rfl] at H; exact H
      clear H
      have H := H1
      clear H1
      replace H := Option.bind_eq_some_iff.mp H
      obtain ⟨t657, A110, H⟩ := H
      replace H : (if t657 = true then (if (l2.length : Int) < 1 then (impl_FillImage.j0 k a0 a1 l2 true a0 a1 (l2.length : Int)) else (if (l2.length : Int) > 4 then (impl_FillImage.j0 k a0 a1 l2 true a0 a1 (l2.length : Int)) else ((impl_areBytes.f l2).bind fun t658 => (impl_FillImage.j0 k a0 a1 l2 (!t658) a0 a1 (l2.length : Int))))) else (impl_FillImage.j0 k a0 a1 l2 true a0 a1 (l2.length : Int))) = some (r1, r2, r3, r4) := H
      have A11 := Aside0.mk A110
      clear A110
      by_cases c12 : t657 = true
      · subst c12
        have H1 : (if (l2.length : Int) < 1 then (impl_FillImage.j0 k a0 a1 l2 true a0 a1 (l2.length : Int)) else (if (l2.length : Int) > 4 then (impl_FillImage.j0 k a0 a1 l2 true a0 a1 (l2.length : Int)) else ((impl_areBytes.f l2).bind fun t658 => (impl_FillImage.j0 k a0 a1 l2 (!t658) a0 a1 (l2.length : Int))))) = some (r1, r2, r3, r4) := by rw [if_pos rfl] at H; exact H
        clear H
        have H := H1
        clear H1
        by_cases c13 : (l2.length : Int) < 1
        · rw [if_pos c13] at H
          have c13b0 : decide ((l2.length : Int) < 1) = true := decide_eq_true c13
          have c13b1 : decide (l2.length < 1) = true := decide_eq_true (by omega)
          clear c13
          (first | rw [c13b0] | (simp only [i64_w, i32_w]; rw [c13b0]) | skip)
          have H' := Aside0.mk H
          clear H
          go_wp2_with (first | ((with_reducible refine gate_callee (f := 57) rfl ?_); refine goesL_ (some 14) rfl rfl Try.func57 (by kernel_rfl) rfl #[.int .i64 a0] rfl B.am ?_; (with_reducible refine (impl_isSide.calls a0 true _ A9.out).mono ?_); rintro e w' ⟨rfl, ⟨nd, rfl⟩⟩; refine ⟨_, rfl, ?_⟩) | (go_at_call 57; (with_reducible refine (impl_isSide.calls a1 true _ A11.out).mono ?_); rintro e w' ⟨rfl, ⟨nd, rfl⟩⟩))
          go_meet
          case rel => exact ⟨_, (true), (by first | rfl | (simp; done) | (simp [*]; done)), H', ⟨by first | omega | exact Nat.le_refl _⟩, ⟨B.kb0 (B.bf4 BK654 NB654_655)⟩, ⟨B.kb0 (B.bp4 BK655)⟩, ⟨B.bl HB⟩⟩
        rw [if_neg c13] at H
        have c13b0 : decide ((l2.length : Int) < 1) = false := decide_eq_false c13
        have c13b1 : decide (l2.length < 1) = false := decide_eq_false (by omega)
        clear c13
        (first | rw [c13b0] | (simp only [i64_w, i32_w]; rw [c13b0]) | skip)
        by_cases c14 : (l2.length : Int) > 4
        · rw [if_pos c14] at H
          have c14b0 : decide (4 < (l2.length : Int)) = true := decide_eq_true c14
          have c14b1 : decide (4 < l2.length) = true := decide_eq_true (by omega)
          clear c14
          have H' := Aside0.mk H
          clear H
          go_wp2_with (first | ((with_reducible refine gate_callee (f := 57) rfl ?_); refine goesL_ (some 14) rfl rfl Try.func57 (by kernel_rfl) rfl #[.int .i64 a0] rfl B.am ?_; (with_reducible refine (impl_isSide.calls a0 true _ A9.out).mono ?_); rintro e w' ⟨rfl, ⟨nd, rfl⟩⟩; refine ⟨_, rfl, ?_⟩) | (go_at_call 57; (with_reducible refine (impl_isSide.calls a1 true _ A11.out).mono ?_); rintro e w' ⟨rfl, ⟨nd, rfl⟩⟩))
          go_meet
          case rel => exact ⟨_, (true), (by first | rfl | (simp; done) | (simp [*]; done)), H', ⟨by first | omega | exact Nat.le_refl _⟩, ⟨B.kb0 (B.bf4 BK654 NB654_655)⟩, ⟨B.kb0 (B.bp4 BK655)⟩, ⟨B.bl HB⟩⟩
        rw [if_neg c14] at H
        have c14b0 : decide (4 < (l2.length : Int)) = false := decide_eq_false c14
        have c14b1 : decide (4 < l2.length) = false := decide_eq_false (by omega)
        clear c14
        replace H := Option.bind_eq_some_iff.mp H
        obtain ⟨t658, A150, H⟩ := H
        replace H : (impl_FillImage.j0 k a0 a1 l2 (!t658) a0 a1 (l2.length : Int)) = some (r1, r2, r3, r4) := H
        have A15 := Aside0.mk A150
        clear A150
        have H' := Aside0.mk H
        clear H
        go_wp2_with (first | ((with_reducible refine gate_callee (f := 57) rfl ?_); refine goesL_ (some 14) rfl rfl Try.func57 (by kernel_rfl) rfl #[.int .i64 a0] rfl B.am ?_; (with_reducible refine (impl_isSide.calls a0 true _ A9.out).mono ?_); rintro e w' ⟨rfl, ⟨nd, rfl⟩⟩; refine ⟨_, rfl, ?_⟩) | (go_at_call 57; (with_reducible refine (impl_isSide.calls a1 true _ A11.out).mono ?_); rintro e w' ⟨rfl, ⟨nd, rfl⟩⟩) | (go_at_call 58; (with_reducible refine (impl_areBytes.calls _ _ l2 t658 _ ?side1 ?side2 A15.out).mono ?_); (case side1 => exact Kd.C_below HR2.out (B.bl HB)); (case side2 => exact HC2.out); rintro e w' ⟨rfl, ⟨nd, rfl⟩⟩))
        go_meet
        case rel => exact ⟨_, (!t658), (by first | rfl | (simp; done) | (simp [*]; done)), H', ⟨by first | omega | exact Nat.le_refl _⟩, ⟨B.kb0 (B.bf4 BK654 NB654_655)⟩, ⟨B.kb0 (B.bp4 BK655)⟩, ⟨B.bl HB⟩⟩
      replace c12 := Bool.eq_false_iff.mpr c12
      subst c12
      have H1 : (impl_FillImage.j0 k a0 a1 l2 true a0 a1 (l2.length : Int)) = some (r1, r2, r3, r4) := by rw [if_neg (show ¬ (false = true) by decide)] at H; exact H
      clear H
      have H := H1
      clear H1
      have H' := Aside0.mk H
      clear H
      go_wp2_with (first | ((with_reducible refine gate_callee (f := 57) rfl ?_); refine goesL_ (some 14) rfl rfl Try.func57 (by kernel_rfl) rfl #[.int .i64 a0] rfl B.am ?_; (with_reducible refine (impl_isSide.calls a0 true _ A9.out).mono ?_); rintro e w' ⟨rfl, ⟨nd, rfl⟩⟩; refine ⟨_, rfl, ?_⟩) | (go_at_call 57; (with_reducible refine (impl_isSide.calls a1 false _ A11.out).mono ?_); rintro e w' ⟨rfl, ⟨nd, rfl⟩⟩))
      go_meet
      case rel => exact ⟨_, (true), (by first | rfl | (simp; done) | (simp [*]; done)), H', ⟨by first | omega | exact Nat.le_refl _⟩, ⟨B.kb0 (B.bf4 BK654 NB654_655)⟩, ⟨B.kb0 (B.bp4 BK655)⟩, ⟨B.bl HB⟩⟩
    replace c10 := Bool.eq_false_iff.mpr c10
    subst c10
    have H1 : (impl_FillImage.j0 k a0 a1 l2 true a0 a1 (l2.length : Int)) = some (r1, r2, r3, r4) := by rw [if_neg (show ¬ (false = true) by decide)] at H; exact H
    clear H
    have H := H1
    clear H1
    have H' := Aside0.mk H
    clear H
    go_wp2_with (first | ((with_reducible refine gate_callee (f := 57) rfl ?_); refine goesL_ (some 14) rfl rfl Try.func57 (by kernel_rfl) rfl #[.int .i64 a0] rfl B.am ?_; (with_reducible refine (impl_isSide.calls a0 false _ A9.out).mono ?_); rintro e w' ⟨rfl, ⟨nd, rfl⟩⟩; refine ⟨_, rfl, ?_⟩))
    go_meet
    case rel => exact ⟨_, (true), (by first | rfl | (simp; done) | (simp [*]; done)), H', ⟨by first | omega | exact Nat.le_refl _⟩, ⟨B.kb0 (B.bf4 BK654 NB654_655)⟩, ⟨B.kb0 (B.bp4 BK655)⟩, ⟨B.bl HB⟩⟩
  case rest =>
    clear HC4
    try clear c1
    try clear c2
    try clear p2
    try clear c5
    try clear c7
    try clear c10
    try clear c12
    try clear c13
    try clear c13b0
    try clear c13b1
    try clear c14
    try clear c14b0
    try clear c14b1
    try clear hcz8_0
    try clear hcz8_1
    try clear hcz8_2
    try clear hcz8_3
    try clear hfz8_0
    try clear hfz8_1
    try clear hfz8_2
    try clear hfz8_3
    obtain ⟨kq, x35_3, rfl, HA, HJ3, BK654, BK655, HB⟩ := hcut
    cases kq with
    | zero => exact absurd HA.out (by simp [impl_FillImage.j0])
    | succ kj3 =>
      have H := HA.out
      clear HA
      simp only [impl_FillImage.j0] at H
      by_cases c16 : x35_3 = true
      · subst c16
        have H1 : (some (0, 0, 0, ([] : List Int))) = some (r1, r2, r3, r4) := by rw [if_pos rfl] at H; exact H
        clear H
        have H := H1
        clear H1
        simp only [Option.some.injEq, Prod.mk.injEq] at H
        obtain ⟨rfl, rfl, rfl, rfl⟩ := H
        have hnb17 := NB654_655.out
        have hnc17 := NB655_654.out
        have hcz18_0 : wc.cell? ⟨gb654, 0, none⟩ = some (.int .i64 0) := B.bc BK654 0
        have hcz18_1 : wc.cell? ⟨gb654, 1, none⟩ = some (.int .i64 0) := B.bc BK654 1
        have hcz18_2 : wc.cell? ⟨gb654, 2, none⟩ = some (.int .i64 0) := B.bc BK654 2
        have hcz18_3 : wc.cell? ⟨gb654, 3, none⟩ = some (.slice none 0 0) := B.bc BK654 3
        have hfz18_0 := blk_frozen BK654.out 0
        have hfz18_1 := blk_frozen BK654.out 1
        have hfz18_2 := blk_frozen BK654.out 2
        have hfz18_3 := blk_frozen BK654.out 3
        go_wp2
        refine bodyPost_ret (results_cell_row rfl _ _ gb654 26 #[.int .i64 0, .int .i64 0, .int .i64 0, .slice none 0 0] (0, 0) _ rfl (B.kb0 (B.bp4 BK654)) Try.underlying26 rfl (by kernel_rfl)) rfl ?_
        exact ⟨_, by first | rfl | (simp [errW_none, errW_some] <;> rfl) | (simp [*, errW_none, errW_some] <;> rfl), by first | exact Kd.R_nil _ _ _ _ _ | exact Kd.N_nil _ _ _ _ _ | exact Kd.V_nil _ _ _ _ _ | exact Kd.Q_nil _ _ _ _ _ | exact Kd.S_nil _ _ _ _ _, B.bl HB⟩
      replace c16 := Bool.eq_false_iff.mpr c16
      subst c16
      have H1 : (impl_FillImage.l0 kj3 l2 (wrap64 (a0 * a1)) 0 a0 a1 (l2.length : Int) ([] : List Int)) = some (r1, r2, r3, r4) := by rw [if_neg (show ¬ (false = true) by decide)] at H; exact H
      clear H
      have H := H1
      clear H1
      have H' := Aside0.mk H
      clear H
      go_wp2
      go_loopg [40] kj3 (fun kq v40 w' => ∃ (x40_2 : Int) (x656003_2 : List Int) (u656003 : Value), v40 = .int .i64 x40_2 ∧ Aside0 (impl_FillImage.l0 kq l2 (wrap64 (a0 * a1)) x40_2 a0 a1 (l2.length : Int) x656003_2 = some (r1, r2, r3, r4)) ∧ Aside0 (kq ≤ kj3) ∧ Aside0 (Kd.R (Kd.int .i64) 3 w' w.heap.size (fun _ => True) u656003 x656003_2) ∧ Aside0 (w'.heap[gb654]? = some (.cells #[.int .i64 0, .int .i64 0, .int .i64 0, (.slice none 0 0)] 26 (0, 0))) ∧ Aside0 (w'.heap[gb655]? = some (.cells #[.int .i64 a0, .int .i64 a1, .int .i64 (l2.length : Int), u656003] 26 (0, 0))) ∧ Aside0 (Below w.heap.size w w'))
      case atStart => exact ⟨(0), (([] : List Int)), (.slice none 0 0), (by first | rfl | (simp; done) | (simp [*]; done)), H', ⟨Nat.le_refl _⟩, ⟨by first | exact Kd.R_nil _ _ _ _ _ | exact Kd.N_nil _ _ _ _ _ | exact Kd.V_nil _ _ _ _ _ | exact Kd.Q_nil _ _ _ _ _ | exact Kd.S_nil _ _ _ _ _⟩, ⟨B.kb BK654⟩, ⟨B.kb BK655⟩, ⟨B.bl HB⟩⟩
      case round =>
        clear H'
        try clear c1
        try clear c2
        try clear p2
        try clear c5
        try clear p6
        try clear c7
        try clear c10
        try clear c12
        try clear c13
        try clear c13b0
        try clear c13b1
        try clear c14
        try clear c14b0
        try clear c14b1
        try clear c16
        try clear c17
        try clear hcz18_0
        try clear hcz18_1
        try clear hcz18_2
        try clear hcz18_3
        try clear hcz8_0
        try clear hcz8_1
        try clear hcz8_2
        try clear hcz8_3
        try clear hfz18_0
        try clear hfz18_1
        try clear hfz18_2
        try clear hfz18_3
        try clear hfz8_0
        try clear hfz8_1
        try clear hfz8_2
        try clear hfz8_3
        try clear p2
        obtain ⟨x40_2, x656003_2, u656003, rfl, HA, HK2, HO_656003, BK654, BK655, HB⟩ := hrel
        cases gk with
        | zero => exact absurd HA.out (by simp [impl_FillImage.l0])
        | succ k2 =>
          have H := HA.out
          clear HA
          simp only [impl_FillImage.l0] at H
          by_cases c19 : x40_2 < (wrap64 (a0 * a1))
          · rw [if_pos c19] at H
            have c19b0 : decide (x40_2 < (wrap64 (a0 * a1))) = true := decide_eq_true c19
            clear c19
            by_cases c20 : x656003_2.length + l2.length < 17592186044416
            · rw [if_pos c20] at H
              have LMc20 := Aside0.mk c20
              clear c20
              obtain ⟨y659, hy659⟩ : ∃ y_ : List Int, y_ = (x656003_2 ++ l2) := ⟨_, rfl⟩
              replace H : (impl_FillImage.l0 k2 l2 (wrap64 (a0 * a1)) (wrap64 (x40_2 + 1)) a0 a1 (l2.length : Int) y659) = some (r1, r2, r3, r4) := by first | (rw [hy659]; with_reducible exact H) | (have H2_ := (Option.bind_some _ _).symm.trans H; rw [hy659]; with_reducible exact H2_) | (have H2_ := (Option.bind_some _ _).symm.trans H; with_reducible exact H2_) | with_reducible exact H | (rw [hy659]; exact H) | exact H
              have Ny659 := Aside0.mk hy659
              clear hy659
              have H' := Aside0.mk H
              clear H
              have hnb21 := NB655_654.out
              have hnc21 := NB654_655.out
              have hcz22_0 : wr.cell? ⟨gb655, 0, none⟩ = some (.int .i64 a0) := B.bc BK655 0
              have hcz22_1 : wr.cell? ⟨gb655, 1, none⟩ = some (.int .i64 a1) := B.bc BK655 1
              have hcz22_2 : wr.cell? ⟨gb655, 2, none⟩ = some (.int .i64 (l2.length : Int)) := B.bc BK655 2
              have hcz22_3 : wr.cell? ⟨gb655, 3, none⟩ = some (u656003) := B.bc BK655 3
              have hfz22_0 := blk_frozen BK655.out 0
              have hfz22_1 := blk_frozen BK655.out 1
              have hfz22_2 := blk_frozen BK655.out 2
              have hfz22_3 := blk_frozen BK655.out 3
              go_wp2_with (first | ((with_reducible refine gate_builtin (b := .append) (xs := #[.tmp 43, .tmp 44]) rfl ?_); (try (refine gate_guard (by rfl) ?_; dsimp only)); at_builtin; refine Kd.R_append_rows (Kd.int .i64) (w0 := w) w.heap.size rfl (.tmp 43) (.tmp 44) 22 3 (.int .i64 0) 8 rfl Try.underlying22 info3 rfl (by decide) (by omega) u656003 x656003_2 l2 _ _ _ (fun _ => True) (fun _ => False) rfl rfl ?aO ?aR (fun _ _ h => h) (fun _ h => h.elim) ?aF ?aB ?aS ?aL ?_; (case aR => exact B.kc (Kd.C_below HR2.out HB.out)); (case aB => exact (B.bl HB)); (case aF => exact (fun _ _ => trivial)); (case aO => exact (B.kr HO_656003)); (case aS => exact (below_size (B.bl HB))); (case aL => have := LMc20.out; omega); intro v660 w23 ho hb hg hat; rw [← Ny659.out] at ho; have n0_ := Aside0.mk (blk_grown (g := gb654) (o := .cells #[.int .i64 0, .int .i64 0, .int .i64 0, .slice none 0 0] 26 (0, 0)) (B.kb BK654) hg (Kd.R_ne HO_656003.out BK654.out (by decide))); have n1_ := Aside0.mk (blk_grown (g := gb655) (o := .cells #[.int .i64 a0, .int .i64 a1, .int .i64 (l2.length : Int), u656003] 26 (0, 0)) (B.kb BK655) hg (Kd.R_ne HO_656003.out BK655.out (by decide))); have n2_ := Aside0.mk (hb); have n3_ := Aside0.mk (ho); clear BK654 BK655 HB HO_656003; have BK654 := n0_; have BK655 := n1_; have HB := n2_; have HO661 := n3_; clear n0_ n1_ n2_ n3_; clear ho hb hg hat; obtain ⟨Ao24, co24, eo24⟩ := Kd.R_slice HO661.out; subst eo24; have hcz25_0 : w23.cell? ⟨gb655, 0, none⟩ = some (.int .i64 a0) := B.bc BK655 0; have hcz25_1 : w23.cell? ⟨gb655, 1, none⟩ = some (.int .i64 a1) := B.bc BK655 1; have hcz25_2 : w23.cell? ⟨gb655, 2, none⟩ = some (.int .i64 (l2.length : Int)) := B.bc BK655 2; have hcz25_3 : w23.cell? ⟨gb655, 3, none⟩ = some (u656003) := B.bc BK655 3; have hfz25_0 := blk_frozen BK655.out 0; have hfz25_1 := blk_frozen BK655.out 1; have hfz25_2 := blk_frozen BK655.out 2; have hfz25_3 := blk_frozen BK655.out 3))
              go_roundg k2
              case measure => have := HJ3.out; have := HK2.out; omega
              case rel => exact ⟨(wrap64 (x40_2 + 1)), (y659), (.slice Ao24 y659.length co24), (by first | rfl | (simp; done) | (simp [*]; done)), H', ⟨by have := HJ3.out; have := HK2.out; omega⟩, ⟨B.kr0 (Kd.R_mono (Kd.R_far (p := ⟨gb655, 3, none⟩) (Kd.R_types HO661.out BK655.out (by decide)) (fun _ hk => hk.2) (.slice Ao24 y659.length co24)) (fun _ hk => trivial))⟩, ⟨by (with_reducible repeat (first | refine blk_drewN ?_ _ | refine blk_drew ?_ | refine blk_alloc ?_ _)); refine blk_far ?_ NB654_655.out _; (with_reducible repeat (first | refine blk_drewN ?_ _ | refine blk_drew ?_ | refine blk_alloc ?_ _)); exact BK654.out⟩, ⟨by (with_reducible repeat (first | refine blk_drewN ?_ _ | refine blk_drew ?_ | refine blk_alloc ?_ _)); refine blk_put (cs := #[.int .i64 a0, .int .i64 a1, .int .i64 (l2.length : Int), u656003]) ?_ 3 _ rfl; (with_reducible repeat (first | refine blk_drewN ?_ _ | refine blk_drew ?_ | refine blk_alloc ?_ _)); exact BK655.out⟩, ⟨B.bl HB⟩⟩
            rw [if_neg c20] at H
            exact absurd H (by simp)
          rw [if_neg c19] at H
          have c19b0 : decide (x40_2 < (wrap64 (a0 * a1))) = false := decide_eq_false c19
          clear c19
          simp only [Option.some.injEq, Prod.mk.injEq] at H
          obtain ⟨rfl, rfl, rfl, rfl⟩ := H
          have hnb26 := NB655_654.out
          have hnc26 := NB654_655.out
          have hcz27_0 : wr.cell? ⟨gb655, 0, none⟩ = some (.int .i64 a0) := B.bc BK655 0
          have hcz27_1 : wr.cell? ⟨gb655, 1, none⟩ = some (.int .i64 a1) := B.bc BK655 1
          have hcz27_2 : wr.cell? ⟨gb655, 2, none⟩ = some (.int .i64 (l2.length : Int)) := B.bc BK655 2
          have hcz27_3 : wr.cell? ⟨gb655, 3, none⟩ = some (u656003) := B.bc BK655 3
          have hfz27_0 := blk_frozen BK655.out 0
          have hfz27_1 := blk_frozen BK655.out 1
          have hfz27_2 := blk_frozen BK655.out 2
          have hfz27_3 := blk_frozen BK655.out 3
          have hcz28_0 : wr.cell? ⟨gb654, 0, none⟩ = some (.int .i64 0) := B.bc BK654 0
          have hcz28_1 : wr.cell? ⟨gb654, 1, none⟩ = some (.int .i64 0) := B.bc BK654 1
          have hcz28_2 : wr.cell? ⟨gb654, 2, none⟩ = some (.int .i64 0) := B.bc BK654 2
          have hcz28_3 : wr.cell? ⟨gb654, 3, none⟩ = some (.slice none 0 0) := B.bc BK654 3
          have hfz28_0 := blk_frozen BK654.out 0
          have hfz28_1 := blk_frozen BK654.out 1
          have hfz28_2 := blk_frozen BK654.out 2
          have hfz28_3 := blk_frozen BK654.out 3
          obtain ⟨Ao29, co29, eo29⟩ := Kd.R_slice HO_656003.out
          subst eo29
          go_wp2
          refine bodyPost_ret (results_cell_row rfl _ _ gb654 26 #[.int .i64 a0, .int .i64 a1, .int .i64 (l2.length : Int), .slice Ao29 x656003_2.length co29] (0, 0) _ rfl (B.kb0 (B.bp4 BK654)) Try.underlying26 rfl (by kernel_rfl)) rfl ?_
          exact ⟨_, by first | rfl | (simp [errW_none, errW_some] <;> rfl) | (simp [*, errW_none, errW_some] <;> rfl), by (with_reducible repeat (first | apply Kd.R_alloc | apply Kd.R_drewN | apply Kd.R_drew)); exact Kd.R_mono (B.rf4 HO_656003 BK654) (fun _ hk => trivial), B.bl HB⟩

/-! ### spec_FillImage: function 27 -/
mutual
def spec_FillImage.j0 : Nat → Int → Int → List Int → Bool → Option (Int × Int × Int × List Int)
  | 0, _, _, _, _ => none
  | k + 1, x0, x1, x2, x19 => if x19 = true then (some (0, 0, 0, ([] : List Int))) else ((spec_newImage.f x0 x1 (x2.length : Int)).bind fun bt665 => (spec_FillImage.l0 k x2 0 bt665.1 bt665.2.1 bt665.2.2.1 bt665.2.2.2))
def spec_FillImage.l0 : Nat → List Int → Int → Int → Int → Int → List Int → Option (Int × Int × Int × List Int)
  | 0, _, _, _, _, _, _ => none
  | k + 1, x2, x8, x672000, x672001, x672002, x672003 => if x8 < (x672003.length : Int) then (if (x2.length : Int) = 0 then (none) else (if 0 ≤ (Int.tmod x8 (x2.length : Int)) then (if (Int.tmod x8 (x2.length : Int)) < (x2.length : Int) then (if 0 ≤ x8 then (spec_FillImage.l0 k x2 (wrap64 (x8 + 1)) x672000 x672001 x672002 (x672003.set (x8 : Int).toNat (rd x2 (Int.tmod x8 (x2.length : Int))))) else (none)) else (none)) else (none))) else (some (x672000, x672001, x672002, x672003))
end
def spec_FillImage.f (k : Nat) (a0 : Int) (a1 : Int) (l2 : List Int) : Option (Int × Int × Int × List Int) := (spec_validShape.f a0 a1 (l2.length : Int)).bind fun t663 => (if t663 = true then ((spec_allIn.f k l2 0 255).bind fun t664 => (spec_FillImage.j0 k a0 a1 l2 (!t664))) else (spec_FillImage.j0 k a0 a1 l2 true))
theorem spec_FillImage.mono_l : ∀ k, (∀ y0 y1 y2 y3, LeO (spec_FillImage.j0 k y0 y1 y2 y3) (spec_FillImage.j0 (k + 1) y0 y1 y2 y3)) ∧ (∀ y0 y1 y2 y3 y4 y5, LeO (spec_FillImage.l0 k y0 y1 y2 y3 y4 y5) (spec_FillImage.l0 (k + 1) y0 y1 y2 y3 y4 y5))
  | 0 => ⟨fun _ _ _ _ r h => by simp [spec_FillImage.j0] at h, fun _ _ _ _ _ _ r h => by simp [spec_FillImage.l0] at h⟩
  | k + 1 => by
    obtain ⟨ih0, ih1⟩ := spec_FillImage.mono_l k
    refine ⟨?_, ?_⟩
    · intro y0 y1 y2 y3
      unfold spec_FillImage.j0
      repeat' first
      | (with_reducible exact ih0 _ _ _ _)
      | (with_reducible exact ih1 _ _ _ _ _ _)
      | (with_reducible exact spec_allIn.mono _ _ _ _)
      | (with_reducible exact LeO.refl _)
      | (with_reducible exact LeO.none _)
      | (with_reducible refine LeO.ite ?_ ?_)
      | (with_reducible refine LeO.bind ?_ (fun _ => ?_))
      | exact ih0 _ _ _ _
      | exact ih1 _ _ _ _ _ _
      | exact spec_allIn.mono _ _ _ _
      | exact LeO.none _
      | refine LeO.ite ?_ ?_
      | refine LeO.bind ?_ (fun _ => ?_)
    intro y0 y1 y2 y3 y4 y5
    unfold spec_FillImage.l0
    repeat' first
    | (with_reducible exact ih0 _ _ _ _)
    | (with_reducible exact ih1 _ _ _ _ _ _)
    | (with_reducible exact spec_allIn.mono _ _ _ _)
    | (with_reducible exact LeO.refl _)
    | (with_reducible exact LeO.none _)
    | (with_reducible refine LeO.ite ?_ ?_)
    | (with_reducible refine LeO.bind ?_ (fun _ => ?_))
    | exact ih0 _ _ _ _
    | exact ih1 _ _ _ _ _ _
    | exact spec_allIn.mono _ _ _ _
    | exact LeO.none _
    | refine LeO.ite ?_ ?_
    | refine LeO.bind ?_ (fun _ => ?_)
theorem spec_FillImage.mono : ∀ a0 a1 a2 k, LeO (spec_FillImage.f k a0 a1 a2) (spec_FillImage.f (k + 1) a0 a1 a2) := by
  intro a0 a1 a2 k
  obtain ⟨ih0, ih1⟩ := spec_FillImage.mono_l k
  unfold spec_FillImage.f
  repeat' first
      | (with_reducible exact ih0 _ _ _ _)
      | (with_reducible exact ih1 _ _ _ _ _ _)
      | (with_reducible exact spec_allIn.mono _ _ _ _)
      | (with_reducible exact LeO.refl _)
      | (with_reducible exact LeO.none _)
      | (with_reducible refine LeO.ite ?_ ?_)
      | (with_reducible refine LeO.bind ?_ (fun _ => ?_))
      | exact ih0 _ _ _ _
      | exact ih1 _ _ _ _ _ _
      | exact spec_allIn.mono _ _ _ _
      | exact LeO.none _
      | refine LeO.ite ?_ ?_
      | refine LeO.bind ?_ (fun _ => ?_)
def spec_FillImage.T7 : Bool × List (List Nat × List Nat) := (true, [([], []), ([0], [0]), ([], []), ([], []), ([], []), ([], []), ([5], [5]), ([4, 6], [4, 6]), ([3, 7], [3, 7]), ([8], [8]), ([1, 2, 0, 1, 2, 3, 4, 5, 6, 7, 8, 9], [1, 2]), ([10, 9, 0, 1, 2, 3, 4, 5, 6, 7, 8, 9], [9, 10])])
def spec_FillImage.B7 : List Nat := [0, 1, 0, 0, 0, 0, 32, 112, 248, 504, 1023, 2047]
theorem spec_FillImage.tab7 : rtab .any (opsOf Try.f27 7) = spec_FillImage.T7 := by kernel_rfl
theorem spec_FillImage.bits7 : waitsOk spec_FillImage.T7.2 spec_FillImage.B7 = true := by kernel_rfl
set_option maxHeartbeats 8000000 in
set_option maxRecDepth 100000 in
theorem spec_FillImage.calls (k : Nat) (a0 : Int) (a1 : Int) (A2 : Option Addr) (c2 : Nat) (l2 : List Int) (r1 : Int) (r2 : Int) (r3 : Int) (r4 : List Int) (w : World) (hr2 : Kd.C (Kd.int .i64) w A2 l2.length l2) (hc2 : l2.length ≤ c2) (h : spec_FillImage.f k a0 a1 l2 = some (r1, r2, r3, r4)) :
    Calls Try.prog 27 #[.int .i64 a0, .int .i64 a1, .slice A2 l2.length c2] w fun e w' => ∃ v3_ : Value, e = .returned (.agg #[.int .i64 r1, .int .i64 r2, .int .i64 r3, v3_]) ∧ Kd.R (Kd.int .i64) 3 w' w.heap.size (fun _ => True) v3_ r4 ∧ Below w.heap.size w w' := by
  have hu26 := Try.underlying26
  have HR2 := Aside0.mk hr2
  have HC2 := Aside0.mk hc2
  clear hr2 hc2
  have HB := Aside0.mk (Below.refl w.heap.size w)
  have H : ((spec_validShape.f a0 a1 (l2.length : Int)).bind fun t663 => (if t663 = true then ((spec_allIn.f k l2 0 255).bind fun t664 => (spec_FillImage.j0 k a0 a1 l2 (!t664))) else (spec_FillImage.j0 k a0 a1 l2 true))) = some (r1, r2, r3, r4) := h
  clear h
  have HC4 := Aside0.mk H
  clear H
  go_enter Try.func27, Try.ntmps27
  go_upto_region 1 with (first | ((with_reducible refine gate_dst (N := 6) rfl ?_); refine box_event ?hg (N := 6) ?hd (cs := #[.int .i64 0, .int .i64 0, .int .i64 0, .slice none 0 0]) (t := 26) ?hr ?_; (case hd => rfl); (case hg => rfl); (case hr => first | (go_simp; done) | (go_simp; rfl)); intro gb662 hg w5 hbox hb; have n0_ := Aside0.mk (below_step (B.bl HB) hb); have n1_ := Aside0.mk (hbox); have n2_ := Aside0.mk (B.nle hg (below_size (B.bl HB))); have n3_ := Aside0.mk (B.nle hg (below_size (B.bl HB))); clear HB; have HB := n0_; have BK662 := n1_; have GW662 := n2_; have GE662 := n3_; clear n0_ n1_ n2_ n3_; clear hb hbox hg))
  (try simp only [Act.put, List.setIfInBounds_toArray, List.set_cons_zero, List.set_cons_succ])
  go_cut [19] (fun v19 wc => ∃ (kq : Nat) (x19_3 : Bool), v19 = .bool x19_3 ∧ Aside0 (spec_FillImage.j0 kq a0 a1 l2 x19_3 = some (r1, r2, r3, r4)) ∧ Aside0 (kq ≤ k) ∧ Aside0 (wc.heap[gb662]? = some (.cells #[.int .i64 0, .int .i64 0, .int .i64 0, (.slice none 0 0)] 26 (0, 0))) ∧ Aside0 (Below w.heap.size w wc))
  case first =>
    have H := HC4.out
    clear HC4
    replace H := Option.bind_eq_some_iff.mp H
    obtain ⟨t663, A60, H⟩ := H
    replace H : (if t663 = true then ((spec_allIn.f k l2 0 255).bind fun t664 => (spec_FillImage.j0 k a0 a1 l2 (!t664))) else (spec_FillImage.j0 k a0 a1 l2 true)) = some (r1, r2, r3, r4) := H
    have A6 := Aside0.mk A60
    clear A60
    by_cases c7 : t663 = true
    · subst c7
      have H1 : ((spec_allIn.f k l2 0 255).bind fun t664 => (spec_FillImage.j0 k a0 a1 l2 (!t664))) = some (r1, r2, r3, r4) := by rw [if_pos rfl] at H; exact H
      clear H
      have H := H1
      clear H1
      replace H := Option.bind_eq_some_iff.mp H
      obtain ⟨t664, A80, H⟩ := H
      replace H : (spec_FillImage.j0 k a0 a1 l2 (!t664)) = some (r1, r2, r3, r4) := H
      have A8 := Aside0.mk A80
      clear A80
      have H' := Aside0.mk H
      clear H
      go_wp2_with (first | ((with_reducible refine gate_callee (f := 59) rfl ?_); refine goesL_ (some 13) rfl rfl Try.func59 (by kernel_rfl) rfl #[.int .i64 a0, .int .i64 a1, .int .i64 (l2.length : Int)] rfl B.am ?_; (with_reducible refine (spec_validShape.calls a0 a1 (l2.length : Int) true _ A6.out).mono ?_); rintro e w' ⟨rfl, ⟨nd, rfl⟩⟩; refine ⟨_, rfl, ?_⟩) | (go_at_call 60; (with_reducible refine (spec_allIn.calls k _ _ l2 0 255 t664 _ ?side1 ?side2 A8.out).mono ?_); (case side1 => exact B.kc (Kd.C_below HR2.out (B.bl HB))); (case side2 => exact HC2.out); rintro e w' ⟨rfl, ⟨nd, rfl⟩⟩))
      go_meet
      case rel => exact ⟨_, (!t664), (by first | rfl | (simp; done) | (simp [*]; done)), H', ⟨by first | omega | exact Nat.le_refl _⟩, ⟨B.kb BK662⟩, ⟨B.bl HB⟩⟩
    replace c7 := Bool.eq_false_iff.mpr c7
    subst c7
    have H1 : (spec_FillImage.j0 k a0 a1 l2 true) = some (r1, r2, r3, r4) := by rw [if_neg (show ¬ (false = true) by decide)] at H; exact H
    clear H
    have H := H1
    clear H1
    have H' := Aside0.mk H
    clear H
    go_wp2_with (first | ((with_reducible refine gate_callee (f := 59) rfl ?_); refine goesL_ (some 13) rfl rfl Try.func59 (by kernel_rfl) rfl #[.int .i64 a0, .int .i64 a1, .int .i64 (l2.length : Int)] rfl B.am ?_; (with_reducible refine (spec_validShape.calls a0 a1 (l2.length : Int) false _ A6.out).mono ?_); rintro e w' ⟨rfl, ⟨nd, rfl⟩⟩; refine ⟨_, rfl, ?_⟩))
    go_meet
    case rel => exact ⟨_, (true), (by first | rfl | (simp; done) | (simp [*]; done)), H', ⟨by first | omega | exact Nat.le_refl _⟩, ⟨B.kb BK662⟩, ⟨B.bl HB⟩⟩
  case rest =>
    clear HC4
    try clear c2
    try clear p2
    try clear c5
    try clear c7
    obtain ⟨kq, x19_3, rfl, HA, HJ3, BK662, HB⟩ := hcut
    cases kq with
    | zero => exact absurd HA.out (by simp [spec_FillImage.j0])
    | succ kj3 =>
      have H := HA.out
      clear HA
      simp only [spec_FillImage.j0] at H
      by_cases c9 : x19_3 = true
      · subst c9
        have H1 : (some (0, 0, 0, ([] : List Int))) = some (r1, r2, r3, r4) := by rw [if_pos rfl] at H; exact H
        clear H
        have H := H1
        clear H1
        simp only [Option.some.injEq, Prod.mk.injEq] at H
        obtain ⟨rfl, rfl, rfl, rfl⟩ := H
        have hcz10_0 : wc.cell? ⟨gb662, 0, none⟩ = some (.int .i64 0) := B.bc BK662 0
        have hcz10_1 : wc.cell? ⟨gb662, 1, none⟩ = some (.int .i64 0) := B.bc BK662 1
        have hcz10_2 : wc.cell? ⟨gb662, 2, none⟩ = some (.int .i64 0) := B.bc BK662 2
        have hcz10_3 : wc.cell? ⟨gb662, 3, none⟩ = some (.slice none 0 0) := B.bc BK662 3
        have hfz10_0 := blk_frozen BK662.out 0
        have hfz10_1 := blk_frozen BK662.out 1
        have hfz10_2 := blk_frozen BK662.out 2
        have hfz10_3 := blk_frozen BK662.out 3
        go_wp2
        refine bodyPost_ret (results_cell_row rfl _ _ gb662 26 #[.int .i64 0, .int .i64 0, .int .i64 0, .slice none 0 0] (0, 0) _ rfl (B.kb0 (B.bp4 BK662)) Try.underlying26 rfl (by kernel_rfl)) rfl ?_
        exact ⟨_, by first | rfl | (simp [errW_none, errW_some] <;> rfl) | (simp [*, errW_none, errW_some] <;> rfl), by first | exact Kd.R_nil _ _ _ _ _ | exact Kd.N_nil _ _ _ _ _ | exact Kd.V_nil _ _ _ _ _ | exact Kd.Q_nil _ _ _ _ _ | exact Kd.S_nil _ _ _ _ _, B.bl HB⟩
      replace c9 := Bool.eq_false_iff.mpr c9
      subst c9
      have H1 : ((spec_newImage.f a0 a1 (l2.length : Int)).bind fun bt665 => (spec_FillImage.l0 kj3 l2 0 bt665.1 bt665.2.1 bt665.2.2.1 bt665.2.2.2)) = some (r1, r2, r3, r4) := by rw [if_neg (show ¬ (false = true) by decide)] at H; exact H
      clear H
      have H := H1
      clear H1
      replace H := Option.bind_eq_some_iff.mp H
      obtain ⟨⟨t665, t666, t667, t668⟩, A110, H⟩ := H
      replace H : (spec_FillImage.l0 kj3 l2 0 t665 t666 t667 t668) = some (r1, r2, r3, r4) := H
      have A11 := Aside0.mk A110
      clear A110
      have H' := Aside0.mk H
      clear H
      go_wp2_with (first | ((with_reducible refine gate_callee (f := 36) rfl ?_); refine goesL_ (some 25) rfl rfl Try.func36 (by kernel_rfl) rfl #[.int .i64 a0, .int .i64 a1, .int .i64 (l2.length : Int)] rfl B.am ?_; (with_reducible refine (spec_newImage.calls a0 a1 (l2.length : Int) t665 t666 t667 t668 _ A11.out).mono ?_); rintro e w12 ⟨v669, rfl, ho0, hb⟩; refine ⟨_, rfl, ?_⟩; have n0_ := Aside0.mk (Kd.R_lower ho0 (below_size (B.bl HB))); have n1_ := Aside0.mk (blk_below (B.kb BK662) hb); have n2_ := Aside0.mk (below_step (B.bl HB) hb); clear BK662 HB; have HO670 := n0_; have BK662 := n1_; have HB := n2_; clear n0_ n1_ n2_; (try clear hb); (try clear hb2); (try clear hk); (try clear hi); (try clear ho0)) | ((with_reducible refine gate_dst (N := 7) rfl ?_); refine box_event ?hg (N := 7) ?hd (cs := #[.int .i64 0, .int .i64 0, .int .i64 0, .slice none 0 0]) (t := 26) ?hr ?_; (case hd => rfl); (case hg => rfl); (case hr => first | (go_simp; done) | (go_simp; rfl)); intro gb671 hg w13 hbox hb; have n0_ := Aside0.mk (Kd.R_below (B.kr HO670) hb); have n1_ := Aside0.mk (blk_below (B.kb BK662) hb); have n2_ := Aside0.mk (below_step (B.bl HB) hb); have n3_ := Aside0.mk (hbox); have n4_ := Aside0.mk (B.nle hg (below_size (B.bl HB))); have n5_ := Aside0.mk (B.nle hg (below_size (B.bl HB))); have n6_ := Aside0.mk (B.nlt hg (blk_lt (B.kb BK662))); have n7_ := Aside0.mk (B.ngt hg (blk_lt (B.kb BK662))); clear HO670 BK662 HB; have HO670 := n0_; have BK662 := n1_; have HB := n2_; have BK671 := n3_; have GW671 := n4_; have GE671 := n5_; have NB662_671 := n6_; have NB671_662 := n7_; clear n0_ n1_ n2_ n3_ n4_ n5_ n6_ n7_; clear hb hbox hg; have hnb14 := NB671_662.out; have hnc14 := NB662_671.out; have hcz15_0 : w13.cell? ⟨gb671, 0, none⟩ = some (.int .i64 0) := B.bc BK671 0; have hcz15_1 : w13.cell? ⟨gb671, 1, none⟩ = some (.int .i64 0) := B.bc BK671 1; have hcz15_2 : w13.cell? ⟨gb671, 2, none⟩ = some (.int .i64 0) := B.bc BK671 2; have hcz15_3 : w13.cell? ⟨gb671, 3, none⟩ = some (.slice none 0 0) := B.bc BK671 3; have hfz15_0 := blk_frozen BK671.out 0; have hfz15_1 := blk_frozen BK671.out 1; have hfz15_2 := blk_frozen BK671.out 2; have hfz15_3 := blk_frozen BK671.out 3; obtain ⟨Ao16, co16, eo16⟩ := Kd.R_slice HO670.out; subst eo16))
      go_loopg [8] kj3 (fun kq v8 w' => ∃ (x8_2 : Int) (x672003_2 : List Int) (u672003 : Value), v8 = .int .i64 x8_2 ∧ Aside0 (spec_FillImage.l0 kq l2 x8_2 t665 t666 t667 x672003_2 = some (r1, r2, r3, r4)) ∧ Aside0 (kq ≤ kj3) ∧ Aside0 (Kd.R (Kd.int .i64) 3 w' w.heap.size (fun _ => True) u672003 x672003_2) ∧ Aside0 (w'.heap[gb662]? = some (.cells #[.int .i64 0, .int .i64 0, .int .i64 0, (.slice none 0 0)] 26 (0, 0))) ∧ Aside0 (w'.heap[gb671]? = some (.cells #[.int .i64 t665, .int .i64 t666, .int .i64 t667, u672003] 26 (0, 0))) ∧ Aside0 (Below w.heap.size w w'))
      case atStart => exact ⟨(0), (t668), (.slice Ao16 t668.length co16), (by first | rfl | (simp; done) | (simp [*]; done)), H', ⟨Nat.le_refl _⟩, ⟨B.kr0 (Kd.R_mono (B.rf4 HO670 BK671) (fun _ hk => trivial))⟩, ⟨B.kb0 (B.bf4 BK662 NB662_671)⟩, ⟨B.kb0 (B.bp4 BK671)⟩, ⟨B.bl HB⟩⟩
      case round =>
        clear H'
        try clear c1
        try clear c2
        try clear p2
        try clear c3
        try clear c5
        try clear c7
        try clear c9
        try clear c14
        try clear hcz10_0
        try clear hcz10_1
        try clear hcz10_2
        try clear hcz10_3
        try clear hcz15_0
        try clear hcz15_1
        try clear hcz15_2
        try clear hcz15_3
        try clear hfz10_0
        try clear hfz10_1
        try clear hfz10_2
        try clear hfz10_3
        try clear hfz15_0
        try clear hfz15_1
        try clear hfz15_2
        try clear hfz15_3
        try clear p2
        obtain ⟨x8_2, x672003_2, u672003, rfl, HA, HK2, HO_672003, BK662, BK671, HB⟩ := hrel
        cases gk with
        | zero => exact absurd HA.out (by simp [spec_FillImage.l0])
        | succ k2 =>
          have H := HA.out
          clear HA
          simp only [spec_FillImage.l0] at H
          by_cases c17 : x8_2 < (x672003_2.length : Int)
          · rw [if_pos c17] at H
            have c17b0 : decide (x8_2 < (x672003_2.length : Int)) = true := decide_eq_true c17
            clear c17
            by_cases c18 : (l2.length : Int) = 0
            · rw [if_pos c18] at H
              exact absurd H (by simp)
            rw [if_neg c18] at H
            have c18b0 : ((l2.length : Int) == 0) = false := beq_eq_false_iff_ne.mpr c18
            have c18b1 : ((l2.length : Int) != 0) = true := bne_iff_ne.mpr c18
            have c18b2 : ¬ (l2 = []) := fun h_ => c18 (by rw [h_]; rfl)
            obtain ⟨ji19, hji19⟩ : ∃ j_ : Int, (Int.tmod x8_2 (l2.length : Int)) = j_ := ⟨_, rfl⟩
            replace H : (if 0 ≤ (ji19) then (if (ji19) < (l2.length : Int) then (if 0 ≤ x8_2 then (spec_FillImage.l0 k2 l2 (wrap64 (x8_2 + 1)) t665 t666 t667 (x672003_2.set (x8_2 : Int).toNat (rd l2 (ji19)))) else (none)) else (none)) else (none)) = some (r1, r2, r3, r4) := by first | (rw [hji19] at H; exact H) | (simp only [hji19] at H ⊢; exact H)
            by_cases c20 : 0 ≤ (ji19)
            · rw [if_pos c20] at H
              have c20b0 : decide (0 ≤ (ji19)) = true := decide_eq_true c20
              clear c20
              by_cases c21 : (ji19) < (l2.length : Int)
              · rw [if_pos c21] at H
                have c21b0 : decide ((ji19) < (l2.length : Int)) = true := decide_eq_true c21
                clear c21
                by_cases c22 : 0 ≤ x8_2
                · rw [if_pos c22] at H
                  have c22b0 : decide (0 ≤ x8_2) = true := decide_eq_true c22
                  clear c22
                  obtain ⟨y673, hy673⟩ : ∃ y_ : List Int, y_ = (x672003_2.set (x8_2 : Int).toNat (rd l2 (ji19))) := ⟨_, rfl⟩
                  replace H : (spec_FillImage.l0 k2 l2 (wrap64 (x8_2 + 1)) t665 t666 t667 y673) = some (r1, r2, r3, r4) := by first | (rw [hy673]; with_reducible exact H) | (have H2_ := (Option.bind_some _ _).symm.trans H; rw [hy673]; with_reducible exact H2_) | (have H2_ := (Option.bind_some _ _).symm.trans H; with_reducible exact H2_) | with_reducible exact H | (rw [hy673]; exact H) | exact H
                  have Ny673 := Aside0.mk hy673
                  clear hy673
                  have H' := Aside0.mk H
                  clear H
                  have hnb24 := NB671_662.out
                  have hnc24 := NB662_671.out
                  have hcz25_0 : wr.cell? ⟨gb671, 0, none⟩ = some (.int .i64 t665) := B.bc BK671 0
                  have hcz25_1 : wr.cell? ⟨gb671, 1, none⟩ = some (.int .i64 t666) := B.bc BK671 1
                  have hcz25_2 : wr.cell? ⟨gb671, 2, none⟩ = some (.int .i64 t667) := B.bc BK671 2
                  have hcz25_3 : wr.cell? ⟨gb671, 3, none⟩ = some (u672003) := B.bc BK671 3
                  have hfz25_0 := blk_frozen BK671.out 0
                  have hfz25_1 := blk_frozen BK671.out 1
                  have hfz25_2 := blk_frozen BK671.out 2
                  have hfz25_3 := blk_frozen BK671.out 3
                  obtain ⟨Ao26, co26, eo26⟩ := Kd.R_slice HO_672003.out
                  subst eo26
                  try go_wp2
                  have n0_ := Aside0.mk (Kd.R_drew HO_672003.out)
                  have n1_ := Aside0.mk (blk_drew BK662.out)
                  have n2_ := Aside0.mk (blk_drew BK671.out)
                  have n3_ := Aside0.mk (below_drew1 HB.out)
                  clear HO_672003 BK662 BK671 HB
                  have HO_672003 := n0_
                  have BK662 := n1_
                  have BK671 := n2_
                  have HB := n3_
                  clear n0_ n1_ n2_ n3_
                  have p672 : 0 ≤ ((ji19) : Int) := of_decide_eq_true (by first | (with_reducible assumption) | assumption)
                  have q672 : (ji19) < (l2.length : Int) := of_decide_eq_true (by first | (with_reducible assumption) | assumption)
                  obtain ⟨ad672, e672, hx672_0⟩ := Kd.at_int HR2.out (ji19) p672 q672
                  have hw672_0 := hx672_0
                  cases e672
                  replace hx672_0 := (HB.out.cell (World.block_lt_of_cell? w _ hx672_0)).trans hx672_0
                  replace p672 := eq_true p672
                  replace q672 := eq_true q672
                  have p23 : 0 ≤ (x8_2 : Int) := of_decide_eq_true (by first | (with_reducible assumption) | assumption)
                  have q23 : (x8_2 : Int) < ((x672003_2.length : Int) : Int) := of_decide_eq_true (by first | (with_reducible assumption) | assumption)
                  obtain ⟨go23, co23, eo23, gb23, gl23, cl23, HG23⟩ := Kd.R_form HO_672003.out (by omega)
                  (first | cases eo23 | (injection eo23 with ea_ en_ ec_; (first | subst ea_ | (injection ea_ with ea_; subst ea_)); subst ec_; clear en_))
                  have GB23 := Aside0.mk gb23
                  have GG23 := Aside0.mk HG23
                  clear gb23 gl23 HG23
                  obtain ⟨hx23_0, hf23_0⟩ := Kd.R_celln 0 HO_672003.out (x8_2 : Int) p23 q23
                  replace p23 := eq_true p23
                  replace q23 := eq_true q23
                  have HP28 := Kd.R_putn HO_672003.out (x8_2 : Int) (rd l2 (ji19))
                  rw [← Ny673.out] at HP28
                  have HQ28 := Aside0.mk HP28
                  clear HP28
                  refine start_ (n := 12) (S := fun w' => w'.cell? ⟨gb671, 0, none⟩ = some (.int .i64 t665) ∧ w'.cell? ⟨gb671, 1, none⟩ = some (.int .i64 t666) ∧ w'.cell? ⟨gb671, 2, none⟩ = some (.int .i64 t667) ∧ w'.cell? ⟨gb671, 3, none⟩ = some (.slice (some ⟨go23, 0, none⟩) x672003_2.length co26) ∧ w'.cell? (ad672.add ((ji19)).toNat) = some (.int .i64 (rd l2 (ji19)))) (ds := [11]) #[false, false, false, false, false, false, false, false, false, false, false, false] (by kernel_rfl) rfl rfl ⟨B.bc BK671 0, B.bc BK671 1, B.bc BK671 2, B.bc BK671 3, ((HB.out.cell (World.block_lt_of_cell? w _ hw672_0)).trans hw672_0)⟩ (fun hHeld => ?_); refine with_tabW spec_FillImage.tab7 spec_FillImage.bits7 (fun HT_ HW_ => ?_)
                  generalize wr.drew = w27 at HO_672003 BK662 BK671 HB GG23 HQ28 hf23_0 hx23_0 hx672_0 hHeld ⊢
                  refine pure_ (i := 0) (N := some 33) (v := ?_) (a' := ?_) #[true, false, false, false, false, false, false, false, false, false, false, false] rfl rfl (any_of HT_.out (by kernel_rfl)) (fun _ _ _ h => h) (Or.inl ⟨by rfl, ?_⟩) ?_ ?_
                  rotate_left
                  · intro w'
                    go_simp
                    with_reducible rfl
                  rotate_left
                  · simp only [Act.put, List.setIfInBounds_toArray, List.set_cons_zero, List.set_cons_succ, i64_w, i32_w]
                    rfl
                  refine pure_ (i := 2) (N := some 35) (v := ?_) (a' := ?_) #[true, false, true, false, false, false, false, false, false, false, false, false] rfl rfl (any_of HT_.out (by kernel_rfl)) (fun _ _ _ h => h) (Or.inl ⟨by rfl, ?_⟩) ?_ ?_
                  rotate_left
                  · intro w'
                    go_simp
                    with_reducible rfl
                  rotate_left
                  · simp only [Act.put, List.setIfInBounds_toArray, List.set_cons_zero, List.set_cons_succ, i64_w, i32_w]
                    rfl
                  refine pure_ (i := 3) (N := some 36) (v := ?_) (a' := ?_) #[true, false, true, true, false, false, false, false, false, false, false, false] rfl rfl (any_of HT_.out (by kernel_rfl)) (fun _ _ _ h => h) (Or.inl ⟨by rfl, ?_⟩) ?_ ?_
                  rotate_left
                  · intro w'
                    go_simp
                    with_reducible rfl
                  rotate_left
                  · simp only [Act.put, List.setIfInBounds_toArray, List.set_cons_zero, List.set_cons_succ, i64_w, i32_w]
                    rfl
                  refine pure_ (i := 4) (N := some 37) (v := ?_) (a' := ?_) #[true, false, true, true, true, false, false, false, false, false, false, false] rfl rfl (any_of HT_.out (by kernel_rfl)) (fun _ _ _ h => h) (Or.inl ⟨by rfl, ?_⟩) ?_ ?_
                  rotate_left
                  · intro w'
                    go_simp
                    with_reducible rfl
                  rotate_left
                  · simp only [Act.put, List.setIfInBounds_toArray, List.set_cons_zero, List.set_cons_succ, i64_w, i32_w]
                    rfl
                  refine pure_ (i := 5) (N := some 38) (v := ?_) (a' := ?_) #[true, false, true, true, true, true, false, false, false, false, false, false] rfl rfl (any_of HT_.out (by kernel_rfl)) (fun _ _ _ h => h) (Or.inl ⟨by rfl, ?_⟩) ?_ ?_
                  rotate_left
                  · intro w'
                    go_simp
                    with_reducible rfl
                  rotate_left
                  · simp only [Act.put, List.setIfInBounds_toArray, List.set_cons_zero, List.set_cons_succ, i64_w, i32_w]
                    rfl
                  refine pure_ (i := 6) (N := some 39) (v := ?_) (a' := ?_) #[true, false, true, true, true, true, true, false, false, false, false, false] rfl rfl (any_of HT_.out (by kernel_rfl)) (fun _ _ _ h => h) (Or.inl ⟨by rfl, ?_⟩) ?_ ?_
                  rotate_left
                  · intro w'
                    go_simp
                    with_reducible rfl
                  rotate_left
                  · simp only [Act.put, List.setIfInBounds_toArray, List.set_cons_zero, List.set_cons_succ, i64_w, i32_w]
                    rfl
                  refine pure_ (i := 7) (N := some 40) (v := ?_) (a' := ?_) #[true, false, true, true, true, true, true, true, false, false, false, false] rfl rfl (any_of HT_.out (by kernel_rfl)) (fun _ _ _ h => h) (Or.inl ⟨by rfl, ?_⟩) ?_ ?_
                  rotate_left
                  · intro w'
                    go_simp
                    with_reducible rfl
                  rotate_left
                  · simp only [Act.put, List.setIfInBounds_toArray, List.set_cons_zero, List.set_cons_succ, i64_w, i32_w]
                    rfl
                  refine pure_ (i := 8) (N := some 41) (v := ?_) (a' := ?_) #[true, false, true, true, true, true, true, true, true, false, false, false] rfl rfl (any_of HT_.out (by kernel_rfl)) (fun _ _ _ h => h) (Or.inl ⟨by rfl, ?_⟩) ?_ ?_
                  rotate_left
                  · intro w'
                    go_simp
                    with_reducible rfl
                  rotate_left
                  · simp only [Act.put, List.setIfInBounds_toArray, List.set_cons_zero, List.set_cons_succ, i64_w, i32_w]
                    rfl
                  refine take_ (i := 1) (N := some 34) (v := ?_) (a' := ?_) #[true, true, true, true, true, true, true, true, true, false, false, false] rfl rfl (take_ofW HT_.out HW_.out (by kernel_rfl)) (fun _ _ _ h => h) (Or.inl ⟨by rfl, ?_⟩) hHeld ?_ ?_
                  rotate_left
                  · rintro w' ⟨s0, s1, s2, s3, s4⟩
                    go_simp
                    with_reducible rfl
                  rotate_left
                  · simp only [Act.put, List.setIfInBounds_toArray, List.set_cons_zero, List.set_cons_succ, i64_w, i32_w]
                    rfl
                  refine take_ (i := 9) (N := some 42) (v := ?_) (a' := ?_) #[true, true, true, true, true, true, true, true, true, true, false, false] rfl rfl (take_ofW HT_.out HW_.out (by kernel_rfl)) (fun _ _ _ h => h) (Or.inl ⟨by rfl, ?_⟩) hHeld ?_ ?_
                  rotate_left
                  · rintro w' ⟨s0, s1, s2, s3, s4⟩
                    go_simp
                    with_reducible rfl
                  rotate_left
                  · simp only [Act.put, List.setIfInBounds_toArray, List.set_cons_zero, List.set_cons_succ, i64_w, i32_w]
                    rfl
                  refine pure_ (i := 10) (N := some 43) (v := ?_) (a' := ?_) #[true, true, true, true, true, true, true, true, true, true, true, false] rfl rfl (any_of HT_.out (by kernel_rfl)) (fun _ _ _ h => h) (Or.inl ⟨by rfl, ?_⟩) ?_ ?_
                  rotate_left
                  · intro w'
                    go_simp
                    with_reducible rfl
                  rotate_left
                  · simp only [Act.put, List.setIfInBounds_toArray, List.set_cons_zero, List.set_cons_succ, i64_w, i32_w]
                    rfl
                  refine last_ (i := 11) (N := none) #[true, true, true, true, true, true, true, true, true, true, true, true] rfl rfl (one_of HT_.out (by kernel_rfl)) (by decide) (fun K hK => ?_)
                  refine skip_ (w1 := ?_) (by rfl) rfl ?_ ?_
                  rotate_left
                  · go_simp
                    rfl
                  refine hK.out _ _ ?_
                  clear hK K
                  refine done_ (done_of HT_.out (by kernel_rfl)) ?_
                  try go_wp2
                  go_roundg k2
                  case measure => have := HJ3.out; have := HK2.out; omega
                  case rel => exact ⟨(wrap64 (x8_2 + 1)), (y673), (.slice (some ⟨go23, 0, none⟩) x672003_2.length co26), (by first | rfl | (simp; done) | (simp [*]; done)), H', ⟨by have := HJ3.out; have := HK2.out; omega⟩, ⟨B.kr HQ28⟩, ⟨by (with_reducible repeat (first | refine blk_drewN ?_ _ | refine blk_drew ?_ | refine blk_alloc ?_ _)); refine blk_far ?_ (by have h_ := Kd.R_ne HO_672003.out BK662.out (by decide); intro e_; exact h_ (by rw [e_]; rfl)) _; (with_reducible repeat (first | refine blk_drewN ?_ _ | refine blk_drew ?_ | refine blk_alloc ?_ _)); exact BK662.out⟩, ⟨by (with_reducible repeat (first | refine blk_drewN ?_ _ | refine blk_drew ?_ | refine blk_alloc ?_ _)); refine blk_far ?_ (by have h_ := Kd.R_ne HO_672003.out BK671.out (by decide); intro e_; exact h_ (by rw [e_]; rfl)) _; (with_reducible repeat (first | refine blk_drewN ?_ _ | refine blk_drew ?_ | refine blk_alloc ?_ _)); exact BK671.out⟩, ⟨B.bl HB⟩⟩
                rw [if_neg c22] at H
                exact absurd H (by simp)
              rw [if_neg c21] at H
              exact absurd H (by simp)
            rw [if_neg c20] at H
            exact absurd H (by simp)
          rw [if_neg c17] at H
          have c17b0 : decide (x8_2 < (x672003_2.length : Int)) = false := decide_eq_false c17
          clear c17
          simp only [Option.some.injEq, Prod.mk.injEq] at H
          obtain ⟨rfl, rfl, rfl, rfl⟩ := H
          have hnb29 := NB671_662.out
          have hnc29 := NB662_671.out
          have hcz30_0 : wr.cell? ⟨gb671, 0, none⟩ = some (.int .i64 t665) := B.bc BK671 0
          have hcz30_1 : wr.cell? ⟨gb671, 1, none⟩ = some (.int .i64 t666) := B.bc BK671 1
          have hcz30_2 : wr.cell? ⟨gb671, 2, none⟩ = some (.int .i64 t667) := B.bc BK671 2
          have hcz30_3 : wr.cell? ⟨gb671, 3, none⟩ = some (u672003) := B.bc BK671 3
          have hfz30_0 := blk_frozen BK671.out 0
          have hfz30_1 := blk_frozen BK671.out 1
          have hfz30_2 := blk_frozen BK671.out 2
          have hfz30_3 := blk_frozen BK671.out 3
          obtain ⟨Ao31, co31, eo31⟩ := Kd.R_slice HO_672003.out
          subst eo31
          have hcz32_0 : wr.cell? ⟨gb662, 0, none⟩ = some (.int .i64 0) := B.bc BK662 0
          have hcz32_1 : wr.cell? ⟨gb662, 1, none⟩ = some (.int .i64 0) := B.bc BK662 1
          have hcz32_2 : wr.cell? ⟨gb662, 2, none⟩ = some (.int .i64 0) := B.bc BK662 2
          have hcz32_3 : wr.cell? ⟨gb662, 3, none⟩ = some (.slice none 0 0) := B.bc BK662 3
          have hfz32_0 := blk_frozen BK662.out 0
          have hfz32_1 := blk_frozen BK662.out 1
          have hfz32_2 := blk_frozen BK662.out 2
          have hfz32_3 := blk_frozen BK662.out 3
          go_wp2
          refine bodyPost_ret (results_cell_row rfl _ _ gb662 26 #[.int .i64 t665, .int .i64 t666, .int .i64 t667, .slice Ao31 x672003_2.length co31] (0, 0) _ rfl (B.kb0 (B.bp4 BK662)) Try.underlying26 rfl (by kernel_rfl)) rfl ?_
          exact ⟨_, by first | rfl | (simp [errW_none, errW_some] <;> rfl) | (simp [*, errW_none, errW_some] <;> rfl), by (with_reducible repeat (first | apply Kd.R_alloc | apply Kd.R_drewN | apply Kd.R_drew)); exact Kd.R_mono (B.rf4 HO_672003 BK662) (fun _ hk => trivial), B.bl HB⟩

end Go.Proofs.Ytibbkaoghbmncaa.Q
