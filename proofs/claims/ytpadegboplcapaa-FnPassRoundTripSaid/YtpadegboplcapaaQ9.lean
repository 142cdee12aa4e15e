-- Written by a program of this session (the kit's printer, with hand-proved contracts for the functions that it does not take).
import Derived.Test.YtpadegboplcapaaQ0
import Derived.Test.YtpadegboplcapaaQ4
import Derived.Test.YtpadegboplcapaaQ5
namespace Go.Proofs.Ytpadegboplcapaa.Q
open Go.RowKit Go.Proofs.YtpadegboplcapaaW.PrintWords Go.Proofs.YtpadegboplcapaaW.PrintLast Go.Proofs.YtpadegboplcapaaW.PrintMore
attribute [local go_sem] max2_int min2_int max_two min_two max_three min_three max_four min_four   -- for this text's walks alone
set_option linter.unusedVariables false
set_option linter.unusedSimpArgs false

/-! ### spec_reader_spoil: function 45 -/
def spec_reader_spoil.f (k : Nat) (s0_0 : List Int) (s0_1 : Int) (l1 : List Int) (a2 : Int) : Option (List Int × Int) := (spec_copyInts.f l1).bind fun t340 => ((spec_reader_pick.f k s0_0 s0_1 20).bind fun bt343 => (if bt343.1 = 0 then (if t340.length < 17592186044416 then (some ((t340 ++ [a2]), bt343.2)) else (none)) else (if bt343.1 = 1 then (if (t340.length : Int) > 0 then (if 1 ≤ (t340.length : Int) then (some ((t340.drop (1 : Int).toNat), bt343.2)) else (none)) else (some (t340, bt343.2))) else (if bt343.1 = 2 then (if (t340.length : Int) > 0 then ((spec_reader_pick.f k s0_0 bt343.2 (t340.length : Int)).bind fun bt351 => ((spec_reader_one.f k s0_0 bt351.2 (([(-1), a2, 0, 1] : List Int))).bind fun bt356 => (if 0 ≤ bt351.1 then (if bt351.1 < (t340.length : Int) then (some ((t340.set (bt351.1 : Int).toNat bt356.1), bt356.2)) else (none)) else (none)))) else (some (t340, bt343.2))) else (some (t340, bt343.2))))))
theorem spec_reader_spoil.mono : ∀ a0 a1 a2 a3 k, LeO (spec_reader_spoil.f k a0 a1 a2 a3) (spec_reader_spoil.f (k + 1) a0 a1 a2 a3) := by
  intro a0 a1 a2 a3 k
  unfold spec_reader_spoil.f
  repeat' first
      | (with_reducible exact spec_reader_one.mono _ _ _ _)
      | (with_reducible exact spec_reader_pick.mono _ _ _ _)
      | (with_reducible exact LeO.refl _)
      | (with_reducible exact LeO.none _)
      | (with_reducible refine LeO.ite ?_ ?_)
      | (with_reducible refine LeO.bind ?_ (fun _ => ?_))
      | exact spec_reader_one.mono _ _ _ _
      | exact spec_reader_pick.mono _ _ _ _
      | exact LeO.none _
      | refine LeO.ite ?_ ?_
      | refine LeO.bind ?_ (fun _ => ?_)
set_option maxHeartbeats 8000000 in
set_option maxRecDepth 100000 in
theorem spec_reader_spoil.calls (k : Nat) (g : Nat) (s0_0 : List Int) (s0_1 : Int) (A1 : Option Addr) (c1 : Nat) (l1 : List Int) (a2 : Int) (r1 : List Int) (r2 : Int) (w0 w : World) (hI : IsS74 w0 w g s0_0 s0_1) (hB : Below w0.heap.size w0 w) (hr1 : Kd.C (Kd.int .i64) w A1 l1.length l1) (hc1 : l1.length ≤ c1) (hf1 : ∀ ad, A1 = some ad → 0 < l1.length → ad.block ≠ g) (h : spec_reader_spoil.f k s0_0 s0_1 l1 a2 = some (r1, r2)) :
    Calls Try.prog 45 #[.pointer (some ⟨g, 0, none⟩), .slice A1 l1.length c1, .int .i64 a2] w fun e w' => ∃ v0_ : Value, e = .returned (v0_) ∧ Kd.Q (Kd.int .i64) 3 w' w.heap.size (fun _ => True) v0_ r1 ∧ IsS74 w0 w' g s0_0 r2 ∧ Below w0.heap.size w0 w' ∧ KeepBut w w' g none := by
  have HR1 := Aside0.mk hr1
  have HC1 := Aside0.mk hc1
  clear hr1 hc1
  have HI0 := Aside0.mk hI
  have HK := Aside0.mk (KeepBut.refl w g none)
  have HL := Aside0.mk hB.size
  clear hI
  have HW0 := Aside0.mk hB.size
  have HB := Aside0.mk hB
  clear hB
  have H : ((spec_copyInts.f l1).bind fun t340 => ((spec_reader_pick.f k s0_0 s0_1 20).bind fun bt343 => (if bt343.1 = 0 then (if t340.length < 17592186044416 then (some ((t340 ++ [a2]), bt343.2)) else (none)) else (if bt343.1 = 1 then (if (t340.length : Int) > 0 then (if 1 ≤ (t340.length : Int) then (some ((t340.drop (1 : Int).toNat), bt343.2)) else (none)) else (some (t340, bt343.2))) else (if bt343.1 = 2 then (if (t340.length : Int) > 0 then ((spec_reader_pick.f k s0_0 bt343.2 (t340.length : Int)).bind fun bt351 => ((spec_reader_one.f k s0_0 bt351.2 (([(-1), a2, 0, 1] : List Int))).bind fun bt356 => (if 0 ≤ bt351.1 then (if bt351.1 < (t340.length : Int) then (some ((t340.set (bt351.1 : Int).toNat bt356.1), bt356.2)) else (none)) else (none)))) else (some (t340, bt343.2))) else (some (t340, bt343.2))))))) = some (r1, r2) := h
  clear h
  replace H := Option.bind_eq_some_iff.mp H
  obtain ⟨t340, A40, H⟩ := H
  replace H : ((spec_reader_pick.f k s0_0 s0_1 20).bind fun bt343 => (if bt343.1 = 0 then (if t340.length < 17592186044416 then (some ((t340 ++ [a2]), bt343.2)) else (none)) else (if bt343.1 = 1 then (if (t340.length : Int) > 0 then (if 1 ≤ (t340.length : Int) then (some ((t340.drop (1 : Int).toNat), bt343.2)) else (none)) else (some (t340, bt343.2))) else (if bt343.1 = 2 then (if (t340.length : Int) > 0 then ((spec_reader_pick.f k s0_0 bt343.2 (t340.length : Int)).bind fun bt351 => ((spec_reader_one.f k s0_0 bt351.2 (([(-1), a2, 0, 1] : List Int))).bind fun bt356 => (if 0 ≤ bt351.1 then (if bt351.1 < (t340.length : Int) then (some ((t340.set (bt351.1 : Int).toNat bt356.1), bt356.2)) else (none)) else (none)))) else (some (t340, bt343.2))) else (some (t340, bt343.2)))))) = some (r1, r2) := H
  have A4 := Aside0.mk A40
  clear A40
  replace H := Option.bind_eq_some_iff.mp H
  obtain ⟨⟨t343, t344⟩, A50, H⟩ := H
  replace H : (if t343 = 0 then (if t340.length < 17592186044416 then (some ((t340 ++ [a2]), t344)) else (none)) else (if t343 = 1 then (if (t340.length : Int) > 0 then (if 1 ≤ (t340.length : Int) then (some ((t340.drop (1 : Int).toNat), t344)) else (none)) else (some (t340, t344))) else (if t343 = 2 then (if (t340.length : Int) > 0 then ((spec_reader_pick.f k s0_0 t344 (t340.length : Int)).bind fun bt351 => ((spec_reader_one.f k s0_0 bt351.2 (([(-1), a2, 0, 1] : List Int))).bind fun bt356 => (if 0 ≤ bt351.1 then (if bt351.1 < (t340.length : Int) then (some ((t340.set (bt351.1 : Int).toNat bt356.1), bt356.2)) else (none)) else (none)))) else (some (t340, t344))) else (some (t340, t344))))) = some (r1, r2) := H
  have A5 := Aside0.mk A50
  clear A50
  by_cases c6 : t343 = 0
  · rw [if_pos c6] at H
    have c6b0 : (t343 == 0) = true := beq_iff_eq.mpr c6
    have c6b1 : (t343 != 0) = false := bne_eq_false_iff_eq.mpr c6
    clear c6
    by_cases c7 : t340.length < 17592186044416
    · rw [if_pos c7] at H
      have LMc7 := Aside0.mk c7
      clear c7
      obtain ⟨y345, hy345⟩ : ∃ y_ : List Int, y_ = (t340 ++ [a2]) := ⟨_, rfl⟩
      replace H : (some (y345, t344)) = some (r1, r2) := by first | (rw [hy345]; with_reducible exact H) | (have H2_ := (Option.bind_some _ _).symm.trans H; rw [hy345]; with_reducible exact H2_) | (have H2_ := (Option.bind_some _ _).symm.trans H; with_reducible exact H2_) | with_reducible exact H | (rw [hy345]; exact H) | exact H
      have Ny345 := Aside0.mk hy345
      clear hy345
      simp only [Option.some.injEq, Prod.mk.injEq] at H
      obtain ⟨rfl, rfl⟩ := H
      go_enter Try.func45, Try.ntmps45
      go_wp2_with (first | ((with_reducible refine gate_callee (f := 61) rfl ?_); refine goesL_ (some 9) rfl rfl Try.func61 (by kernel_rfl) rfl #[.slice A1 l1.length c1] rfl B.am ?_; (with_reducible refine (spec_copyInts.calls _ _ l1 t340 _ ?side1 ?side2 A4.out).mono ?_); (case side1 => exact Kd.C_keep 0 HR1.out (B.kk HK) hf1); (case side2 => exact HC1.out); rintro e w8 ⟨v341, rfl, ho0, hb⟩; refine ⟨_, rfl, ?_⟩; have n0_ := Aside0.mk (Kd.R_lower ho0 (keep_size (w := w) (g := g) (row := none) (B.kk HK))); have n1_ := Aside0.mk (IsS74.below (B.st HI0) hb); have n2_ := Aside0.mk (KeepBut.trans (B.kk HK) (KeepBut.of_below hb g none) (.inl rfl)); have n3_ := Aside0.mk (below_step (B.bs HB) hb); clear HI0 HK HB; have HO342 := n0_; have HI0 := n1_; have HK := n2_; have HB := n3_; clear n0_ n1_ n2_ n3_; (try clear hb); (try clear hb2); (try clear hk); (try clear hi); (try clear ho0)) | ((with_reducible refine gate_callee (f := 43) rfl ?_); refine goesL_ (some 11) rfl rfl Try.func43 (by kernel_rfl) rfl #[.pointer (some ⟨g, 0, none⟩), .int .i64 20] rfl B.am ?_; (with_reducible refine (spec_reader_pick.calls k g s0_0 s0_1 20 t343 t344 w0 _ ?side1 ?side2 A5.out).mono ?_); (case side1 => exact B.st HI0); (case side2 => exact B.bs HB); rintro e w9 ⟨rfl, hi, hb, hk⟩; refine ⟨_, rfl, ?_⟩; have n0_ := Aside0.mk (Kd.R_mono (Kd.R_keep (IsS74.apart (show IsS74 w0 _ g s0_0 s0_1 from B.st HI0) (B.kr HO342) (by decide)) hk (fun _ h => h.2)) (fun _ h => h.1)); have n1_ := Aside0.mk (KeepBut.trans (B.kk HK) hk (.inl rfl)); have n2_ := Aside0.mk (hb); have n3_ := Aside0.mk (hi); clear HO342 HK HB HI0; have HO342 := n0_; have HK := n1_; have HB := n2_; have HI0 := n3_; clear n0_ n1_ n2_ n3_; (try clear hb); (try clear hb2); (try clear hk); (try clear hi)) | ((with_reducible refine gate_builtin (b := .append) (xs := #[.tmp 14, .tmp 16]) rfl ?_); at_builtin; refine Kd.R_append (Kd.int .i64) w.heap.size rfl (.tmp 14) (.tmp 16) 32 3 (.int .i64 0) 8 rfl Try.underlying32 info3 rfl (by decide) (by omega) v341 t340 a2 [.int .i64 a2] (fun _ => True) (fun _ => False) rfl rfl ?aP (fun _ hk => hk.elim) ?aF ?aO (Below.refl _ _) ?aS ?aL ?_; (case aP => exact rfl); (case aF => exact (fun _ _ => trivial)); (case aO => exact (B.kr HO342)); (case aS => exact (keep_size (w := w) (g := g) (row := none) (B.kk HK))); (case aL => have := LMc7.out; omega); intro v346 w10 ho hb hg hat; rw [← Ny345.out] at ho; have n0_ := Aside0.mk (IsS74.grown (B.st HI0) hg (IsS74.own_ne HI0.out HO342.out (by decide))); have n1_ := Aside0.mk (below_weaken (B.bs HB) HL.out hb); have n2_ := Aside0.mk (KeepBut.trans (B.kk HK) (KeepBut.of_grown hg g) (Kd.R_base2 HO342.out)); have n3_ := Aside0.mk (ho); clear HI0 HB HK HO342; have HI0 := n0_; have HB := n1_; have HK := n2_; have HO347 := n3_; clear n0_ n1_ n2_ n3_; clear ho hb hg hat))
      go_ret
      exact ⟨_, by first | rfl | (simp [errW_none, errW_some] <;> rfl) | (simp [*, errW_none, errW_some] <;> rfl), Kd.Q_of_R (B.kr HO347), B.st HI0, B.bs HB, B.kk HK⟩
    rw [if_neg c7] at H
    exact absurd H (by simp)
  rw [if_neg c6] at H
  have c6b0 : (t343 == 0) = false := beq_eq_false_iff_ne.mpr c6
  have c6b1 : (t343 != 0) = true := bne_iff_ne.mpr c6
  by_cases c11 : t343 = 1
  · rw [if_pos c11] at H
    have c11b0 : (t343 == 1) = true := beq_iff_eq.mpr c11
    have c11b1 : (t343 != 1) = false := bne_eq_false_iff_eq.mpr c11
    clear c11
    by_cases c12 : (t340.length : Int) > 0
    · rw [if_pos c12] at H
      have c12b0 : decide (0 < (t340.length : Int)) = true := decide_eq_true c12
      have c12b1 : decide (0 < t340.length) = true := decide_eq_true (by omega)
      clear c12
      by_cases c13 : 1 ≤ (t340.length : Int)
      · rw [if_pos c13] at H
        have c13b0 := eq_true c13
        have c13b1 : decide (1 ≤ (t340.length : Int)) = true := decide_eq_true c13
        clear c13
        obtain ⟨y348, hy348⟩ : ∃ y_ : List Int, y_ = (t340.drop (1 : Int).toNat) := ⟨_, rfl⟩
        replace H : (some (y348, t344)) = some (r1, r2) := by first | (rw [hy348]; with_reducible exact H) | (have H2_ := (Option.bind_some _ _).symm.trans H; rw [hy348]; with_reducible exact H2_) | (have H2_ := (Option.bind_some _ _).symm.trans H; with_reducible exact H2_) | with_reducible exact H | (rw [hy348]; exact H) | exact H
        have Ny348 := Aside0.mk hy348
        clear hy348
        simp only [Option.some.injEq, Prod.mk.injEq] at H
        obtain ⟨rfl, rfl⟩ := H
        go_enter Try.func45, Try.ntmps45
        go_wp2_with (first | ((with_reducible refine gate_callee (f := 61) rfl ?_); refine goesL_ (some 9) rfl rfl Try.func61 (by kernel_rfl) rfl #[.slice A1 l1.length c1] rfl B.am ?_; (with_reducible refine (spec_copyInts.calls _ _ l1 t340 _ ?side1 ?side2 A4.out).mono ?_); (case side1 => exact Kd.C_keep 0 HR1.out (B.kk HK) hf1); (case side2 => exact HC1.out); rintro e w14 ⟨v341, rfl, ho0, hb⟩; refine ⟨_, rfl, ?_⟩; have n0_ := Aside0.mk (Kd.R_lower ho0 (keep_size (w := w) (g := g) (row := none) (B.kk HK))); have n1_ := Aside0.mk (IsS74.below (B.st HI0) hb); have n2_ := Aside0.mk (KeepBut.trans (B.kk HK) (KeepBut.of_below hb g none) (.inl rfl)); have n3_ := Aside0.mk (below_step (B.bs HB) hb); clear HI0 HK HB; have HO342 := n0_; have HI0 := n1_; have HK := n2_; have HB := n3_; clear n0_ n1_ n2_ n3_; (try clear hb); (try clear hb2); (try clear hk); (try clear hi); (try clear ho0)) | ((with_reducible refine gate_callee (f := 43) rfl ?_); refine goesL_ (some 11) rfl rfl Try.func43 (by kernel_rfl) rfl #[.pointer (some ⟨g, 0, none⟩), .int .i64 20] rfl B.am ?_; (with_reducible refine (spec_reader_pick.calls k g s0_0 s0_1 20 t343 t344 w0 _ ?side1 ?side2 A5.out).mono ?_); (case side1 => exact B.st HI0); (case side2 => exact B.bs HB); rintro e w15 ⟨rfl, hi, hb, hk⟩; refine ⟨_, rfl, ?_⟩; have n0_ := Aside0.mk (Kd.R_mono (Kd.R_keep (IsS74.apart (show IsS74 w0 _ g s0_0 s0_1 from B.st HI0) (B.kr HO342) (by decide)) hk (fun _ h => h.2)) (fun _ h => h.1)); have n1_ := Aside0.mk (KeepBut.trans (B.kk HK) hk (.inl rfl)); have n2_ := Aside0.mk (hb); have n3_ := Aside0.mk (hi); clear HO342 HK HB HI0; have HO342 := n0_; have HK := n1_; have HB := n2_; have HI0 := n3_; clear n0_ n1_ n2_ n3_; (try clear hb); (try clear hb2); (try clear hk); (try clear hi); obtain ⟨Ao16, co16, eo16⟩ := Kd.R_slice HO342.out; subst eo16; have q17 : (1 : Int) ≤ ((t340.length : Int) : Int) := of_decide_eq_true (by first | (with_reducible assumption) | assumption); obtain ⟨i017, hi017, _, hsz17, _⟩ := info_parts info3; have hcut17 := cut_from (P := Try.prog) 32 3 .i64 Try.underlying32 hi017 1 hsz17 Ao16 t340.length co16 1 (by omega) q17; have hr17 := Kd.Q_drop (k := (1 : Int).toNat) (Kd.Q_of_R HO342.out) (by omega); obtain ⟨A17, hA17⟩ : ∃ A1, A1 = (if co16 = (1 : Int).toNat then Ao16 else (Ao16 : Option Addr).map (·.add ((1 : Int).toNat * 1))) := ⟨_, rfl⟩; obtain ⟨c17, hc17⟩ : ∃ c1, c1 = co16 - (1 : Int).toNat := ⟨_, rfl⟩; have hy17 : y348.length = t340.length - (1 : Int).toNat := (by rw [Ny348.out, List.length_drop]); rw [← Ny348.out] at hr17; rw [← hy17, ← hA17, ← hc17] at hcut17; replace hr17 : Kd.Q (Kd.int .i64) 3 w15 w.heap.size (fun _ => True) (.slice A17 y348.length c17) y348 := (by rw [hA17, hc17, hy17]; exact hr17); have HE17 : Aside0 ((Value.slice A17 y348.length c17).ownBlock = (.slice Ao16 t340.length co16 : Value).ownBlock) := ⟨by rw [hA17]; split <;> (cases (Ao16 : Option Addr) <;> rfl)⟩; clear hy17 hi017 hsz17 HO342 hA17 hc17; have HO350 := Aside0.mk hr17; clear hr17; replace q17 := eq_true q17))
        go_ret
        exact ⟨_, by first | rfl | (simp [errW_none, errW_some] <;> rfl) | (simp [*, errW_none, errW_some] <;> rfl), by (with_reducible repeat (first | apply Kd.Q_alloc | apply Kd.Q_drewN | apply Kd.Q_drew)); exact HO350.out, B.st HI0, B.bs HB, B.kk HK⟩
      rw [if_neg c13] at H
      exact absurd H (by simp)
    rw [if_neg c12] at H
    have c12b0 : decide (0 < (t340.length : Int)) = false := decide_eq_false c12
    have c12b1 : decide (0 < t340.length) = false := decide_eq_false (by omega)
    clear c12
    simp only [Option.some.injEq, Prod.mk.injEq] at H
    obtain ⟨rfl, rfl⟩ := H
    go_enter Try.func45, Try.ntmps45
    go_wp2_with (first | ((with_reducible refine gate_callee (f := 61) rfl ?_); refine goesL_ (some 9) rfl rfl Try.func61 (by kernel_rfl) rfl #[.slice A1 l1.length c1] rfl B.am ?_; (with_reducible refine (spec_copyInts.calls _ _ l1 t340 _ ?side1 ?side2 A4.out).mono ?_); (case side1 => exact Kd.C_keep 0 HR1.out (B.kk HK) hf1); (case side2 => exact HC1.out); rintro e w18 ⟨v341, rfl, ho0, hb⟩; refine ⟨_, rfl, ?_⟩; have n0_ := Aside0.mk (Kd.R_lower ho0 (keep_size (w := w) (g := g) (row := none) (B.kk HK))); have n1_ := Aside0.mk (IsS74.below (B.st HI0) hb); have n2_ := Aside0.mk (KeepBut.trans (B.kk HK) (KeepBut.of_below hb g none) (.inl rfl)); have n3_ := Aside0.mk (below_step (B.bs HB) hb); clear HI0 HK HB; have HO342 := n0_; have HI0 := n1_; have HK := n2_; have HB := n3_; clear n0_ n1_ n2_ n3_; (try clear hb); (try clear hb2); (try clear hk); (try clear hi); (try clear ho0)) | ((with_reducible refine gate_callee (f := 43) rfl ?_); refine goesL_ (some 11) rfl rfl Try.func43 (by kernel_rfl) rfl #[.pointer (some ⟨g, 0, none⟩), .int .i64 20] rfl B.am ?_; (with_reducible refine (spec_reader_pick.calls k g s0_0 s0_1 20 t343 t344 w0 _ ?side1 ?side2 A5.out).mono ?_); (case side1 => exact B.st HI0); (case side2 => exact B.bs HB); rintro e w19 ⟨rfl, hi, hb, hk⟩; refine ⟨_, rfl, ?_⟩; have n0_ := Aside0.mk (Kd.R_mono (Kd.R_keep (IsS74.apart (show IsS74 w0 _ g s0_0 s0_1 from B.st HI0) (B.kr HO342) (by decide)) hk (fun _ h => h.2)) (fun _ h => h.1)); have n1_ := Aside0.mk (KeepBut.trans (B.kk HK) hk (.inl rfl)); have n2_ := Aside0.mk (hb); have n3_ := Aside0.mk (hi); clear HO342 HK HB HI0; have HO342 := n0_; have HK := n1_; have HB := n2_; have HI0 := n3_; clear n0_ n1_ n2_ n3_; (try clear hb); (try clear hb2); (try clear hk); (try clear hi); obtain ⟨Ao20, co20, eo20⟩ := Kd.R_slice HO342.out; subst eo20))
    go_ret
    exact ⟨_, by first | rfl | (simp [errW_none, errW_some] <;> rfl) | (simp [*, errW_none, errW_some] <;> rfl), Kd.Q_of_R (B.kr HO342), B.st HI0, B.bs HB, B.kk HK⟩
  rw [if_neg c11] at H
  have c11b0 : (t343 == 1) = false := beq_eq_false_iff_ne.mpr c11
  have c11b1 : (t343 != 1) = true := bne_iff_ne.mpr c11
  by_cases c21 : t343 = 2
  · rw [if_pos c21] at H
    have c21b0 : (t343 == 2) = true := beq_iff_eq.mpr c21
    have c21b1 : (t343 != 2) = false := bne_eq_false_iff_eq.mpr c21
    clear c21
    by_cases c22 : (t340.length : Int) > 0
    · rw [if_pos c22] at H
      have c22b0 : decide (0 < (t340.length : Int)) = true := decide_eq_true c22
      have c22b1 : decide (0 < t340.length) = true := decide_eq_true (by omega)
      clear c22
      replace H := Option.bind_eq_some_iff.mp H
      obtain ⟨⟨t351, t352⟩, A230, H⟩ := H
      replace H : ((spec_reader_one.f k s0_0 t352 (([(-1), a2, 0, 1] : List Int))).bind fun bt356 => (if 0 ≤ t351 then (if t351 < (t340.length : Int) then (some ((t340.set (t351 : Int).toNat bt356.1), bt356.2)) else (none)) else (none))) = some (r1, r2) := H
      have A23 := Aside0.mk A230
      clear A230
      obtain ⟨y353, hy353⟩ : ∃ y_ : List Int, y_ = (([(-1), a2, 0, 1] : List Int)) := ⟨_, rfl⟩
      replace H : ((spec_reader_one.f k s0_0 t352 y353).bind fun bt356 => (if 0 ≤ t351 then (if t351 < (t340.length : Int) then (some ((t340.set (t351 : Int).toNat bt356.1), bt356.2)) else (none)) else (none))) = some (r1, r2) := by first | (rw [hy353]; with_reducible exact H) | (have H2_ := (Option.bind_some _ _).symm.trans H; rw [hy353]; with_reducible exact H2_) | (have H2_ := (Option.bind_some _ _).symm.trans H; with_reducible exact H2_) | with_reducible exact H | (rw [hy353]; exact H) | exact H
      have Ny353 := Aside0.mk hy353
      clear hy353
      replace H := Option.bind_eq_some_iff.mp H
      obtain ⟨⟨t356, t357⟩, A240, H⟩ := H
      replace H : (if 0 ≤ t351 then (if t351 < (t340.length : Int) then (some ((t340.set (t351 : Int).toNat t356), t357)) else (none)) else (none)) = some (r1, r2) := H
      have A24 := Aside0.mk A240
      clear A240
      by_cases c25 : 0 ≤ t351
      · rw [if_pos c25] at H
        have c25b0 : decide (0 ≤ t351) = true := decide_eq_true c25
        clear c25
        by_cases c26 : t351 < (t340.length : Int)
        · rw [if_pos c26] at H
          have c26b0 : decide (t351 < (t340.length : Int)) = true := decide_eq_true c26
          clear c26
          obtain ⟨y358, hy358⟩ : ∃ y_ : List Int, y_ = (t340.set (t351 : Int).toNat t356) := ⟨_, rfl⟩
          replace H : (some (y358, t357)) = some (r1, r2) := by first | (rw [hy358]; with_reducible exact H) | (have H2_ := (Option.bind_some _ _).symm.trans H; rw [hy358]; with_reducible exact H2_) | (have H2_ := (Option.bind_some _ _).symm.trans H; with_reducible exact H2_) | with_reducible exact H | (rw [hy358]; exact H) | exact H
          have Ny358 := Aside0.mk hy358
          clear hy358
          simp only [Option.some.injEq, Prod.mk.injEq] at H
          obtain ⟨rfl, rfl⟩ := H
          go_enter Try.func45, Try.ntmps45
          go_wp2_with (first | ((with_reducible refine gate_callee (f := 61) rfl ?_); refine goesL_ (some 9) rfl rfl Try.func61 (by kernel_rfl) rfl #[.slice A1 l1.length c1] rfl B.am ?_; (with_reducible refine (spec_copyInts.calls _ _ l1 t340 _ ?side1 ?side2 A4.out).mono ?_); (case side1 => exact Kd.C_keep 0 HR1.out (B.kk HK) hf1); (case side2 => exact HC1.out); rintro e w28 ⟨v341, rfl, ho0, hb⟩; refine ⟨_, rfl, ?_⟩; have n0_ := Aside0.mk (Kd.R_lower ho0 (keep_size (w := w) (g := g) (row := none) (B.kk HK))); have n1_ := Aside0.mk (IsS74.below (B.st HI0) hb); have n2_ := Aside0.mk (KeepBut.trans (B.kk HK) (KeepBut.of_below hb g none) (.inl rfl)); have n3_ := Aside0.mk (below_step (B.bs HB) hb); clear HI0 HK HB; have HO342 := n0_; have HI0 := n1_; have HK := n2_; have HB := n3_; clear n0_ n1_ n2_ n3_; (try clear hb); (try clear hb2); (try clear hk); (try clear hi); (try clear ho0)) | ((with_reducible refine gate_callee (f := 43) rfl ?_); refine goesL_ (some 11) rfl rfl Try.func43 (by kernel_rfl) rfl #[.pointer (some ⟨g, 0, none⟩), .int .i64 20] rfl B.am ?_; (with_reducible refine (spec_reader_pick.calls k g s0_0 s0_1 20 t343 t344 w0 _ ?side1 ?side2 A5.out).mono ?_); (case side1 => exact B.st HI0); (case side2 => exact B.bs HB); rintro e w29 ⟨rfl, hi, hb, hk⟩; refine ⟨_, rfl, ?_⟩; have n0_ := Aside0.mk (Kd.R_mono (Kd.R_keep (IsS74.apart (show IsS74 w0 _ g s0_0 s0_1 from B.st HI0) (B.kr HO342) (by decide)) hk (fun _ h => h.2)) (fun _ h => h.1)); have n1_ := Aside0.mk (KeepBut.trans (B.kk HK) hk (.inl rfl)); have n2_ := Aside0.mk (hb); have n3_ := Aside0.mk (hi); clear HO342 HK HB HI0; have HO342 := n0_; have HK := n1_; have HB := n2_; have HI0 := n3_; clear n0_ n1_ n2_ n3_; (try clear hb); (try clear hb2); (try clear hk); (try clear hi); obtain ⟨Ao30, co30, eo30⟩ := Kd.R_slice HO342.out; subst eo30) | ((with_reducible refine gate_callee (f := 43) rfl ?_); refine goesL_ (some 34) rfl rfl Try.func43 (by kernel_rfl) rfl #[.pointer (some ⟨g, 0, none⟩), .int .i64 (t340.length : Int)] rfl B.am ?_; (with_reducible refine (spec_reader_pick.calls k g s0_0 t344 (t340.length : Int) t351 t352 w0 _ ?side1 ?side2 A23.out).mono ?_); (case side1 => exact B.st HI0); (case side2 => exact B.bs HB); rintro e w31 ⟨rfl, hi, hb, hk⟩; refine ⟨_, rfl, ?_⟩; have n0_ := Aside0.mk (Kd.R_mono (Kd.R_keep (IsS74.apart (show IsS74 w0 _ g s0_0 t344 from B.st HI0) (B.kr HO342) (by decide)) hk (fun _ h => h.2)) (fun _ h => h.1)); have n1_ := Aside0.mk (KeepBut.trans (B.kk HK) hk (.inl rfl)); have n2_ := Aside0.mk (hb); have n3_ := Aside0.mk (hi); clear HO342 HK HB HI0; have HO342 := n0_; have HK := n1_; have HB := n2_; have HI0 := n3_; clear n0_ n1_ n2_ n3_; (try clear hb); (try clear hb2); (try clear hk); (try clear hi)) | ((with_reducible refine gate_dst (N := 37) rfl ?_); refine Kd.R_lit (Kd.int .i64) _ 3 ?hg (N := 37) ?hd (xs := ([(-1), a2, 0, 1] : List Int)) (inner := [.int .i64 (-1), .int .i64 a2, .int .i64 0, .int .i64 1]) (ok := fun _ => True) (okp := fun _ => True) ?hr ?hp (fun _ hk => hk) trivial (Below.refl _ _) (Nat.le_refl _) (by simp) ?_; (case hd => rfl); (case hg => rfl); (case hr => first | (go_simp; done) | (go_simp; rfl)); (case hp => exact (Reps.one (show Kd.M (Kd.int .i64) _ _ _ (-1) [.int .i64 (-1)] from rfl) (Reps.one (show Kd.M (Kd.int .i64) _ _ _ a2 [.int .i64 a2] from rfl) (Reps.one (show Kd.M (Kd.int .i64) _ _ _ 0 [.int .i64 0] from rfl) (Reps.one (show Kd.M (Kd.int .i64) _ _ _ 1 [.int .i64 1] from rfl) (Reps.none _ _)))))); intro v354 w32 ho33 hb hg_ hnew_; clear hg_ hnew_; (first | rw [← Ny353.out] at ho33 | (simp only [Int.reduceToNat] at ho33; rw [← Ny353.out] at ho33)); have n0_ := Aside0.mk (Kd.R_elder' (B.kr HO342) (Kd.R_base ho33) hb); have n1_ := Aside0.mk (Kd.R_lower (Kd.R_new' ho33 (Kd.R_lt (B.kr HO342))) (keep_size (w := w) (g := g) (row := none) (B.kk HK))); have n2_ := Aside0.mk (IsS74.below (B.st HI0) hb); have n3_ := Aside0.mk (KeepBut.trans (B.kk HK) (KeepBut.of_below hb g none) (.inl rfl)); have n4_ := Aside0.mk (below_step (B.bs HB) hb); clear HO342 HI0 HK HB; have HO342 := n0_; have HO355 := n1_; have HI0 := n2_; have HK := n3_; have HB := n4_; clear n0_ n1_ n2_ n3_ n4_; clear hb ho33; obtain ⟨Ao34, co34, eo34⟩ := Kd.R_slice HO355.out; subst eo34) | ((with_reducible refine gate_callee (f := 62) rfl ?_); refine goesL_ (some 38) rfl rfl Try.func62 (by kernel_rfl) rfl #[.pointer (some ⟨g, 0, none⟩), .slice Ao34 y353.length co34] rfl B.am ?_; (with_reducible refine (spec_reader_one.calls k g s0_0 t352 _ _ y353 t356 t357 w0 _ ?side1 ?side2 ?side3 ?side4 ?side5 A24.out).mono ?_); (case side1 => exact B.st HI0); (case side2 => exact B.bs HB); (case side3 => exact B.kc ((Kd.R_reads' HO355.out).2.2)); (case side4 => exact (Kd.R_reads' HO355.out).2.1); (case side5 => exact far_slice (IsS74.own_ne HI0.out HO355.out (by decide))); rintro e w35 ⟨rfl, hi, hb, hk⟩; refine ⟨_, rfl, ?_⟩; have n0_ := Aside0.mk (Kd.R_mono (Kd.R_keep (IsS74.apart (show IsS74 w0 _ g s0_0 t352 from B.st HI0) (B.kr HO342) (by decide)) hk (fun _ h => h.2)) (fun _ h => h.1)); have n1_ := Aside0.mk (Kd.R_mono (Kd.R_keep (IsS74.apart (show IsS74 w0 _ g s0_0 t352 from B.st HI0) (B.kr HO355) (by decide)) hk (fun _ h => h.2)) (fun _ h => h.1)); have n2_ := Aside0.mk (KeepBut.trans (B.kk HK) hk (.inl rfl)); have n3_ := Aside0.mk (hb); have n4_ := Aside0.mk (hi); clear HO342 HO355 HK HB HI0; have HO342 := n0_; have HO355 := n1_; have HK := n2_; have HB := n3_; have HI0 := n4_; clear n0_ n1_ n2_ n3_ n4_; (try clear hb); (try clear hb2); (try clear hk); (try clear hi); have p27 : 0 ≤ (t351 : Int) := of_decide_eq_true (by first | (with_reducible assumption) | assumption); have q27 : (t351 : Int) < ((t340.length : Int) : Int) := of_decide_eq_true (by first | (with_reducible assumption) | assumption); obtain ⟨go27, co27, eo27, gb27, gl27, cl27, HG27⟩ := Kd.R_form HO342.out (by omega); (first | cases eo27 | (injection eo27 with ea_ en_ ec_; (first | subst ea_ | (injection ea_ with ea_; subst ea_)); subst ec_; clear en_)); have GB27 := Aside0.mk gb27; have GG27 := Aside0.mk HG27; clear gb27 gl27 HG27; obtain ⟨hx27_0, hf27_0⟩ := Kd.R_celln 0 HO342.out (t351 : Int) p27 q27; replace p27 := eq_true p27; replace q27 := eq_true q27; have n_ := Aside0.mk (Kd.R_mono (ok' := (fun k_ => some k_ ≠ (.slice Ao34 y353.length co34 : Value).ownBlock)) HO342.out (fun k_ hk => hk.2)); clear HO342; have HO342 := n_; clear n_; obtain ⟨hy36_, hz36_⟩ := Kd.R_celln 0 HO342.out (t351 : Int) (of_decide_eq_true (by first | (with_reducible assumption) | assumption)) (of_decide_eq_true (by first | (with_reducible assumption) | assumption)); have HP36 := Kd.R_putg HO342.out (t351 : Int) t356) | ((with_reducible refine gate_store (t := 3) (p := 39) rfl ?_); refine store_event (t := 3) (p := 39) (v := ?vo_w37) (w1 := (w35.setCell ⟨go27, (t351 : Int).toNat, none⟩ (.int .i64 t356))) ?hg ?ho ?hn ?hr ?_; (case ho => rfl); (case hg => rfl); (case hn => rfl); (case hr => first | (go_simp; done) | (go_simp; rfl)); intro w37 hw; have hg : w35.grownBy w37 (some go27) := (by rw [hw]; exact HP36.2); have hp_ : Kd.R (Kd.int .i64) 3 w37 w.heap.size (fun k_ => some k_ ≠ (.slice Ao34 y353.length co34 : Value).ownBlock) (.slice (some ⟨go27, 0, none⟩) t340.length co30) y358 := (by rw [hw, Ny358.out]; exact HP36.1); clear HP36; have n0_ := Aside0.mk (IsS74.grown (B.st HI0) hg (IsS74.own_ne HI0.out HO342.out (by decide))); have n1_ := Aside0.mk (hp_); have n2_ := Aside0.mk (Kd.R_after (v := (.slice (some ⟨go27, 0, none⟩) t340.length co30)) (v1 := (.slice (some ⟨go27, 0, none⟩) t340.length co30)) (ok := (fun _ => True)) (B.kr HO355) hg (.inl rfl)); have n3_ := Aside0.mk ((by rw [hw]; exact below_set (HB.out) (Nat.le_trans HL.out GB27.out) : Below w0.heap.size w0 w37)); have n4_ := Aside0.mk (KeepBut.trans (B.kk HK) (KeepBut.of_grown hg g) (Kd.R_base2 HO342.out)); clear HI0 HO342 HO355 HB HK; have HI0 := n0_; have HO342 := n1_; have HO355 := n2_; have HB := n3_; have HK := n4_; clear n0_ n1_ n2_ n3_ n4_; clear hg hw hp_))
          go_ret
          exact ⟨_, by first | rfl | (simp [errW_none, errW_some] <;> rfl) | (simp [*, errW_none, errW_some] <;> rfl), Kd.Q_of_R (B.kr0 (Kd.R_mono HO342.out (fun _ hk => trivial))), B.st HI0, B.bs HB, B.kk HK⟩
        rw [if_neg c26] at H
        exact absurd H (by simp)
      rw [if_neg c25] at H
      exact absurd H (by simp)
    rw [if_neg c22] at H
    have c22b0 : decide (0 < (t340.length : Int)) = false := decide_eq_false c22
    have c22b1 : decide (0 < t340.length) = false := decide_eq_false (by omega)
    clear c22
    simp only [Option.some.injEq, Prod.mk.injEq] at H
    obtain ⟨rfl, rfl⟩ := H
    go_enter Try.func45, Try.ntmps45
    go_wp2_with (first | ((with_reducible refine gate_callee (f := 61) rfl ?_); refine goesL_ (some 9) rfl rfl Try.func61 (by kernel_rfl) rfl #[.slice A1 l1.length c1] rfl B.am ?_; (with_reducible refine (spec_copyInts.calls _ _ l1 t340 _ ?side1 ?side2 A4.out).mono ?_); (case side1 => exact Kd.C_keep 0 HR1.out (B.kk HK) hf1); (case side2 => exact HC1.out); rintro e w38 ⟨v341, rfl, ho0, hb⟩; refine ⟨_, rfl, ?_⟩; have n0_ := Aside0.mk (Kd.R_lower ho0 (keep_size (w := w) (g := g) (row := none) (B.kk HK))); have n1_ := Aside0.mk (IsS74.below (B.st HI0) hb); have n2_ := Aside0.mk (KeepBut.trans (B.kk HK) (KeepBut.of_below hb g none) (.inl rfl)); have n3_ := Aside0.mk (below_step (B.bs HB) hb); clear HI0 HK HB; have HO342 := n0_; have HI0 := n1_; have HK := n2_; have HB := n3_; clear n0_ n1_ n2_ n3_; (try clear hb); (try clear hb2); (try clear hk); (try clear hi); (try clear ho0)) | ((with_reducible refine gate_callee (f := 43) rfl ?_); refine goesL_ (some 11) rfl rfl Try.func43 (by kernel_rfl) rfl #[.pointer (some ⟨g, 0, none⟩), .int .i64 20] rfl B.am ?_; (with_reducible refine (spec_reader_pick.calls k g s0_0 s0_1 20 t343 t344 w0 _ ?side1 ?side2 A5.out).mono ?_); (case side1 => exact B.st HI0); (case side2 => exact B.bs HB); rintro e w39 ⟨rfl, hi, hb, hk⟩; refine ⟨_, rfl, ?_⟩; have n0_ := Aside0.mk (Kd.R_mono (Kd.R_keep (IsS74.apart (show IsS74 w0 _ g s0_0 s0_1 from B.st HI0) (B.kr HO342) (by decide)) hk (fun _ h => h.2)) (fun _ h => h.1)); have n1_ := Aside0.mk (KeepBut.trans (B.kk HK) hk (.inl rfl)); have n2_ := Aside0.mk (hb); have n3_ := Aside0.mk (hi); clear HO342 HK HB HI0; have HO342 := n0_; have HK := n1_; have HB := n2_; have HI0 := n3_; clear n0_ n1_ n2_ n3_; (try clear hb); (try clear hb2); (try clear hk); (try clear hi); obtain ⟨Ao40, co40, eo40⟩ := Kd.R_slice HO342.out; subst eo40))
    go_ret
    exact ⟨_, by first | rfl | (simp [errW_none, errW_some] <;> rfl) | (simp [*, errW_none, errW_some] <;> rfl), Kd.Q_of_R (B.kr HO342), B.st HI0, B.bs HB, B.kk HK⟩
  rw [if_neg c21] at H
  have c21b0 : (t343 == 2) = false := beq_eq_false_iff_ne.mpr c21
  have c21b1 : (t343 != 2) = true := bne_iff_ne.mpr c21
  simp only [Option.some.injEq, Prod.mk.injEq] at H
  obtain ⟨rfl, rfl⟩ := H
  go_enter Try.func45, Try.ntmps45
  go_wp2_with (first | ((with_reducible refine gate_callee (f := 61) rfl ?_); refine goesL_ (some 9) rfl rfl Try.func61 (by kernel_rfl) rfl #[.slice A1 l1.length c1] rfl B.am ?_; (with_reducible refine (spec_copyInts.calls _ _ l1 t340 _ ?side1 ?side2 A4.out).mono ?_); (case side1 => exact Kd.C_keep 0 HR1.out (B.kk HK) hf1); (case side2 => exact HC1.out); rintro e w41 ⟨v341, rfl, ho0, hb⟩; refine ⟨_, rfl, ?_⟩; have n0_ := Aside0.mk (Kd.R_lower ho0 (keep_size (w := w) (g := g) (row := none) (B.kk HK))); have n1_ := Aside0.mk (IsS74.below (B.st HI0) hb); have n2_ := Aside0.mk (KeepBut.trans (B.kk HK) (KeepBut.of_below hb g none) (.inl rfl)); have n3_ := Aside0.mk (below_step (B.bs HB) hb); clear HI0 HK HB; have HO342 := n0_; have HI0 := n1_; have HK := n2_; have HB := n3_; clear n0_ n1_ n2_ n3_; (try clear hb); (try clear hb2); (try clear hk); (try clear hi); (try clear ho0)) | ((with_reducible refine gate_callee (f := 43) rfl ?_); refine goesL_ (some 11) rfl rfl Try.func43 (by kernel_rfl) rfl #[.pointer (some ⟨g, 0, none⟩), .int .i64 20] rfl B.am ?_; (with_reducible refine (spec_reader_pick.calls k g s0_0 s0_1 20 t343 t344 w0 _ ?side1 ?side2 A5.out).mono ?_); (case side1 => exact B.st HI0); (case side2 => exact B.bs HB); rintro e w42 ⟨rfl, hi, hb, hk⟩; refine ⟨_, rfl, ?_⟩; have n0_ := Aside0.mk (Kd.R_mono (Kd.R_keep (IsS74.apart (show IsS74 w0 _ g s0_0 s0_1 from B.st HI0) (B.kr HO342) (by decide)) hk (fun _ h => h.2)) (fun _ h => h.1)); have n1_ := Aside0.mk (KeepBut.trans (B.kk HK) hk (.inl rfl)); have n2_ := Aside0.mk (hb); have n3_ := Aside0.mk (hi); clear HO342 HK HB HI0; have HO342 := n0_; have HK := n1_; have HB := n2_; have HI0 := n3_; clear n0_ n1_ n2_ n3_; (try clear hb); (try clear hb2); (try clear hk); (try clear hi)))
  go_ret
  exact ⟨_, by first | rfl | (simp [errW_none, errW_some] <;> rfl) | (simp [*, errW_none, errW_some] <;> rfl), Kd.Q_of_R (B.kr HO342), B.st HI0, B.bs HB, B.kk HK⟩

end Go.Proofs.Ytpadegboplcapaa.Q
