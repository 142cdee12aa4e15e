-- Written by a program of this session (the kit's printer, with hand-proved contracts for the functions that it does not take).
import Derived.Test.YtmljcnhecjlinaaQ0
import Derived.Test.YtmljcnhecjlinaaQ1
namespace Go.Proofs.Ytmljcnhecjlinaa.Q
open Go.RowKit Go.Proofs.YtmljcnhecjlinaaW.PrintWords Go.Proofs.YtmljcnhecjlinaaW.PrintLast Go.Proofs.YtmljcnhecjlinaaW.PrintMore
attribute [local go_sem] max2_int min2_int max_two min_two max_three min_three max_four min_four   -- for this text's walks alone
set_option linter.unusedVariables false
set_option linter.unusedSimpArgs false

/-! ### spec_copyImage: function 41 -/
def spec_copyImage.f (a0_0 : Int) (a0_1 : Int) (a0_2 : Int) (l0_3 : List Int) : Option (Int × Int × Int × List Int) := (spec_copyInts.f l0_3).bind fun t491 => (some (a0_0, a0_1, a0_2, t491))
def spec_copyImage.T1 : Bool × List (List Nat × List Nat) := (true, [([], []), ([0], [0]), ([], []), ([2], [2]), ([], []), ([4], [4]), ([], []), ([6], [6]), ([7], [7]), ([1, 3, 5, 8], [1, 3, 5, 8]), ([9, 8, 0, 1, 2, 3, 4, 5, 6, 7, 8, 9], [9])])
def spec_copyImage.B1 : List Nat := [0, 1, 0, 4, 0, 16, 0, 64, 192, 511, 1023]
theorem spec_copyImage.tab1 : rtab .any (opsOf Try.f41 1) = spec_copyImage.T1 := by kernel_rfl
theorem spec_copyImage.bits1 : waitsOk spec_copyImage.T1.2 spec_copyImage.B1 = true := by kernel_rfl
set_option maxHeartbeats 8000000 in
set_option maxRecDepth 100000 in
theorem spec_copyImage.calls (a0_0 : Int) (a0_1 : Int) (a0_2 : Int) (A0_3 : Option Addr) (c0_3 : Nat) (l0_3 : List Int) (r1 : Int) (r2 : Int) (r3 : Int) (r4 : List Int) (w : World) (hr0_3 : Kd.C (Kd.int .i64) w A0_3 l0_3.length l0_3) (hc0_3 : l0_3.length ≤ c0_3) (h : spec_copyImage.f a0_0 a0_1 a0_2 l0_3 = some (r1, r2, r3, r4)) :
    Calls Try.prog 41 #[.agg #[.int .i64 a0_0, .int .i64 a0_1, .int .i64 a0_2, .slice A0_3 l0_3.length c0_3]] w fun e w' => ∃ v3_ : Value, e = .returned (.agg #[.int .i64 r1, .int .i64 r2, .int .i64 r3, v3_]) ∧ Kd.R (Kd.int .i64) 3 w' w.heap.size (fun _ => True) v3_ r4 ∧ Below w.heap.size w w' := by
  have hu28 := Try.underlying28
  have HR0_3 := Aside0.mk hr0_3
  have HC0_3 := Aside0.mk hc0_3
  clear hr0_3 hc0_3
  have HB := Aside0.mk (Below.refl w.heap.size w)
  have H : ((spec_copyInts.f l0_3).bind fun t491 => (some (a0_0, a0_1, a0_2, t491))) = some (r1, r2, r3, r4) := h
  clear h
  replace H := Option.bind_eq_some_iff.mp H
  obtain ⟨t491, A20, H⟩ := H
  replace H : (some (a0_0, a0_1, a0_2, t491)) = some (r1, r2, r3, r4) := H
  have A2 := Aside0.mk A20
  clear A20
  simp only [Option.some.injEq, Prod.mk.injEq] at H
  obtain ⟨rfl, rfl, rfl, rfl⟩ := H
  go_enter Try.func41, Try.ntmps41
  try go_wp2_with (first | ((with_reducible refine gate_dst (N := 1) rfl ?_); refine box_event ?hg (N := 1) ?hd (cs := #[.int .i64 a0_0, .int .i64 a0_1, .int .i64 a0_2, .slice A0_3 l0_3.length c0_3]) (t := 28) ?hr ?_; (case hd => rfl); (case hg => rfl); (case hr => first | (go_simp; done) | (go_simp; rfl)); intro gb489 hg w3 hbox hb; have n0_ := Aside0.mk (below_step (B.bl HB) hb); have n1_ := Aside0.mk (hbox); have n2_ := Aside0.mk (B.nle hg (below_size (B.bl HB))); have n3_ := Aside0.mk (B.nle hg (below_size (B.bl HB))); clear HB; have HB := n0_; have BK489 := n1_; have GW489 := n2_; have GE489 := n3_; clear n0_ n1_ n2_ n3_; clear hb hbox hg) | ((with_reducible refine gate_dst (N := 2) rfl ?_); refine box_event ?hg (N := 2) ?hd (cs := #[.int .i64 0, .int .i64 0, .int .i64 0, .slice none 0 0]) (t := 28) ?hr ?_; (case hd => rfl); (case hg => rfl); (case hr => first | (go_simp; done) | (go_simp; rfl)); intro gb490 hg w4 hbox hb; have n0_ := Aside0.mk (blk_below (B.kb BK489) hb); have n1_ := Aside0.mk (below_step (B.bl HB) hb); have n2_ := Aside0.mk (hbox); have n3_ := Aside0.mk (B.nle hg (below_size (B.bl HB))); have n4_ := Aside0.mk (B.nle hg (below_size (B.bl HB))); have n5_ := Aside0.mk (B.nlt hg (blk_lt (B.kb BK489))); have n6_ := Aside0.mk (B.ngt hg (blk_lt (B.kb BK489))); clear BK489 HB; have BK489 := n0_; have HB := n1_; have BK490 := n2_; have GW490 := n3_; have GE490 := n4_; have NB489_490 := n5_; have NB490_489 := n6_; clear n0_ n1_ n2_ n3_ n4_ n5_ n6_; clear hb hbox hg))
  have n0_ := Aside0.mk (blk_drew BK489.out)
  have n1_ := Aside0.mk (blk_drew BK490.out)
  have n2_ := Aside0.mk (below_drew1 HB.out)
  clear BK489 BK490 HB
  have BK489 := n0_
  have BK490 := n1_
  have HB := n2_
  clear n0_ n1_ n2_
  refine start_ (n := 11) (S := fun w' => w'.cell? ⟨gb489, 0, none⟩ = some (.int .i64 a0_0) ∧ w'.cell? ⟨gb489, 1, none⟩ = some (.int .i64 a0_1) ∧ w'.cell? ⟨gb489, 2, none⟩ = some (.int .i64 a0_2) ∧ w'.cell? ⟨gb489, 3, none⟩ = some (.slice A0_3 l0_3.length c0_3)) (ds := []) #[false, false, false, false, false, false, false, false, false, false, false] (by kernel_rfl) rfl rfl ⟨B.bc BK489 0, B.bc BK489 1, B.bc BK489 2, B.bc BK489 3⟩ (fun hHeld => ?_); refine with_tabW spec_copyImage.tab1 spec_copyImage.bits1 (fun HT_ HW_ => ?_)
  generalize w4.drew = w5 at BK489 BK490 HB hHeld ⊢
  refine pure_ (i := 0) (N := some 3) (v := ?_) (a' := ?_) #[true, false, false, false, false, false, false, false, false, false, false] rfl rfl (any_of HT_.out (by kernel_rfl)) (fun _ _ _ h => h) (Or.inl ⟨by rfl, ?_⟩) ?_ ?_
  rotate_left
  · intro w'
    go_simp
    with_reducible rfl
  rotate_left
  · simp only [Act.put, List.setIfInBounds_toArray, List.set_cons_zero, List.set_cons_succ, i64_w, i32_w]
    rfl
  refine pure_ (i := 2) (N := some 5) (v := ?_) (a' := ?_) #[true, false, true, false, false, false, false, false, false, false, false] rfl rfl (any_of HT_.out (by kernel_rfl)) (fun _ _ _ h => h) (Or.inl ⟨by rfl, ?_⟩) ?_ ?_
  rotate_left
  · intro w'
    go_simp
    with_reducible rfl
  rotate_left
  · simp only [Act.put, List.setIfInBounds_toArray, List.set_cons_zero, List.set_cons_succ, i64_w, i32_w]
    rfl
  refine pure_ (i := 4) (N := some 7) (v := ?_) (a' := ?_) #[true, false, true, false, true, false, false, false, false, false, false] rfl rfl (any_of HT_.out (by kernel_rfl)) (fun _ _ _ h => h) (Or.inl ⟨by rfl, ?_⟩) ?_ ?_
  rotate_left
  · intro w'
    go_simp
    with_reducible rfl
  rotate_left
  · simp only [Act.put, List.setIfInBounds_toArray, List.set_cons_zero, List.set_cons_succ, i64_w, i32_w]
    rfl
  refine pure_ (i := 6) (N := some 9) (v := ?_) (a' := ?_) #[true, false, true, false, true, false, true, false, false, false, false] rfl rfl (any_of HT_.out (by kernel_rfl)) (fun _ _ _ h => h) (Or.inl ⟨by rfl, ?_⟩) ?_ ?_
  rotate_left
  · intro w'
    go_simp
    with_reducible rfl
  rotate_left
  · simp only [Act.put, List.setIfInBounds_toArray, List.set_cons_zero, List.set_cons_succ, i64_w, i32_w]
    rfl
  refine take_ (i := 1) (N := some 4) (v := ?_) (a' := ?_) #[true, true, true, false, true, false, true, false, false, false, false] rfl rfl (take_ofW HT_.out HW_.out (by kernel_rfl)) (fun _ _ _ h => h) (Or.inl ⟨by rfl, ?_⟩) hHeld ?_ ?_
  rotate_left
  · rintro w' ⟨s0, s1, s2, s3⟩
    go_simp
    with_reducible rfl
  rotate_left
  · simp only [Act.put, List.setIfInBounds_toArray, List.set_cons_zero, List.set_cons_succ, i64_w, i32_w]
    rfl
  refine take_ (i := 3) (N := some 6) (v := ?_) (a' := ?_) #[true, true, true, true, true, false, true, false, false, false, false] rfl rfl (take_ofW HT_.out HW_.out (by kernel_rfl)) (fun _ _ _ h => h) (Or.inl ⟨by rfl, ?_⟩) hHeld ?_ ?_
  rotate_left
  · rintro w' ⟨s0, s1, s2, s3⟩
    go_simp
    with_reducible rfl
  rotate_left
  · simp only [Act.put, List.setIfInBounds_toArray, List.set_cons_zero, List.set_cons_succ, i64_w, i32_w]
    rfl
  refine take_ (i := 5) (N := some 8) (v := ?_) (a' := ?_) #[true, true, true, true, true, true, true, false, false, false, false] rfl rfl (take_ofW HT_.out HW_.out (by kernel_rfl)) (fun _ _ _ h => h) (Or.inl ⟨by rfl, ?_⟩) hHeld ?_ ?_
  rotate_left
  · rintro w' ⟨s0, s1, s2, s3⟩
    go_simp
    with_reducible rfl
  rotate_left
  · simp only [Act.put, List.setIfInBounds_toArray, List.set_cons_zero, List.set_cons_succ, i64_w, i32_w]
    rfl
  refine take_ (i := 7) (N := some 10) (v := ?_) (a' := ?_) #[true, true, true, true, true, true, true, true, false, false, false] rfl rfl (take_ofW HT_.out HW_.out (by kernel_rfl)) (fun _ _ _ h => h) (Or.inl ⟨by rfl, ?_⟩) hHeld ?_ ?_
  rotate_left
  · rintro w' ⟨s0, s1, s2, s3⟩
    go_simp
    with_reducible rfl
  rotate_left
  · simp only [Act.put, List.setIfInBounds_toArray, List.set_cons_zero, List.set_cons_succ, i64_w, i32_w]
    rfl
  refine one_ (i := 8) (N := some 11) #[true, true, true, true, true, true, true, true, true, false, false] rfl rfl (one_of HT_.out (by kernel_rfl)) (by decide) (fun K hK => ?_)
  refine goes_ Try.func55 (by kernel_rfl) rfl #[.slice A0_3 l0_3.length c0_3] (by rfl) rfl rfl B.am ?_
  with_reducible refine (spec_copyInts.calls _ _ l0_3 t491 _ ?side1 ?side2 A2.out).mono ?_
  (case side1 => exact B.kc (Kd.C_below HR0_3.out HB.out))
  (case side2 => exact HC0_3.out)
  rintro e w6 ⟨v492, rfl, ho0, hb⟩
  refine ⟨_, rfl, ?_⟩
  have n0_ := Aside0.mk (Kd.R_lower ho0 (below_size (B.bl HB)))
  have n1_ := Aside0.mk (blk_below (B.kb BK489) hb)
  have n2_ := Aside0.mk (blk_below (B.kb BK490) hb)
  have n3_ := Aside0.mk (below_step (B.bl HB) hb)
  clear BK489 BK490 HB
  have HO493 := n0_
  have BK489 := n1_
  have BK490 := n2_
  have HB := n3_
  clear n0_ n1_ n2_ n3_
  (try clear hb)
  (try clear hb2)
  (try clear hk)
  (try clear hi)
  (try clear ho0)
  obtain ⟨Ao7, co7, eo7⟩ := Kd.R_slice HO493.out
  (first | subst eo7 | (injection eo7 with f1_ f2_ f3_; have f4_ := f1_.symm; have f5_ := f3_.symm; clear f1_ f2_ f3_; subst f4_; subst f5_))
  refine hK.out _ _ ⟨B.bc BK489 0, B.bc BK489 1, B.bc BK489 2, B.bc BK489 3⟩ (fun hHeld => ?_)
  clear hK K
  refine norm_ (a' := ?_) ?_ ?_
  rotate_left
  · show Act.put _ (some 11) _ = _
    simp only [Act.put, List.setIfInBounds_toArray, List.set_cons_zero, List.set_cons_succ, i64_w, i32_w]
    rfl
  refine pure_ (i := 9) (N := some 12) (v := ?_) (a' := ?_) #[true, true, true, true, true, true, true, true, true, true, false] rfl rfl (any_of HT_.out (by kernel_rfl)) (fun _ _ _ h => h) (Or.inl ⟨by rfl, ?_⟩) ?_ ?_
  rotate_left
  · intro w'
    go_simp
    with_reducible rfl
  rotate_left
  · simp only [Act.put, List.setIfInBounds_toArray, List.set_cons_zero, List.set_cons_succ, i64_w, i32_w]
    rfl
  refine one_ (i := 10) (N := none) #[true, true, true, true, true, true, true, true, true, true, true] rfl rfl (one_of HT_.out (by kernel_rfl)) (by decide) (fun K hK => ?_)
  have hs8 : w6.cell? ⟨gb490, 0, none⟩ = some (.int .i64 0) := B.bc BK490 0
  have hfs8 := blk_frozen BK490.out 0
  have hns8_0 := NB489_490.out
  have hms8_0 := NB490_489.out
  have hs9 : w6.cell? ⟨gb490, 1, none⟩ = some (.int .i64 0) := B.bc BK490 1
  have hfs9 := blk_frozen BK490.out 1
  have hns9_0 := NB489_490.out
  have hms9_0 := NB490_489.out
  have hs10 : w6.cell? ⟨gb490, 2, none⟩ = some (.int .i64 0) := B.bc BK490 2
  have hfs10 := blk_frozen BK490.out 2
  have hns10_0 := NB489_490.out
  have hms10_0 := NB490_489.out
  have hs11 : w6.cell? ⟨gb490, 3, none⟩ = some (.slice none 0 0) := B.bc BK490 3
  have hfs11 := blk_frozen BK490.out 3
  have hns11_0 := NB489_490.out
  have hms11_0 := NB490_489.out
  refine skip_ (w1 := ?_) (by rfl) rfl ?_ ?_
  rotate_left
  · go_simp
    rfl
  refine hK.out _ _ ⟨(B.cf4 NB489_490 hHeld.1), (B.cf4 NB489_490 hHeld.2.1), (B.cf4 NB489_490 hHeld.2.2.1), (B.cf4 NB489_490 hHeld.2.2.2)⟩ (fun hHeld => ?_)
  clear hK K
  refine done_ (done_of HT_.out (by kernel_rfl)) ?_
  try go_wp2
  refine bodyPost_ret (results_cell_row rfl _ _ gb490 28 #[.int .i64 a0_0, .int .i64 a0_1, .int .i64 a0_2, .slice Ao7 t491.length co7] (0, 0) _ rfl (B.kb0 (B.bp4 BK490)) Try.underlying28 rfl (by kernel_rfl)) rfl ?_
  exact ⟨_, by first | rfl | (simp [errW_none, errW_some] <;> rfl) | (simp [*, errW_none, errW_some] <;> rfl), by (with_reducible repeat (first | apply Kd.R_alloc | apply Kd.R_drewN | apply Kd.R_drew)); exact Kd.R_mono (B.rf4 HO493 BK490) (fun _ hk => trivial), B.bl HB⟩

/-! ### spec_onImage: function 56 -/
def spec_onImage.f (a0_0 : Int) (a0_1 : Int) (a0_2 : Int) (l0_3 : List Int) (a1 : Int) (a2 : Int) : Option (Bool) := (spec_inRange.f a1 0 (wrap64 (a0_0 - 1))).bind fun t495 => (if t495 = true then ((spec_inRange.f a2 0 (wrap64 (a0_1 - 1))).bind fun t496 => (some t496)) else (some false))
set_option maxHeartbeats 8000000 in
set_option maxRecDepth 100000 in
theorem spec_onImage.calls (a0_0 : Int) (a0_1 : Int) (a0_2 : Int) (A0_3 : Option Addr) (c0_3 : Nat) (l0_3 : List Int) (a1 : Int) (a2 : Int) (r : Bool) (w : World) (hr0_3 : Kd.C (Kd.int .i64) w A0_3 l0_3.length l0_3) (hc0_3 : l0_3.length ≤ c0_3) (h : spec_onImage.f a0_0 a0_1 a0_2 l0_3 a1 a2 = some r) :
    Calls Try.prog 56 #[.agg #[.int .i64 a0_0, .int .i64 a0_1, .int .i64 a0_2, .slice A0_3 l0_3.length c0_3], .int .i64 a1, .int .i64 a2] w fun e w' => e = .returned (.bool r) ∧ Below w.heap.size w w' := by
  have hu28 := Try.underlying28
  have HR0_3 := Aside0.mk hr0_3
  have HC0_3 := Aside0.mk hc0_3
  clear hr0_3 hc0_3
  have HB := Aside0.mk (Below.refl w.heap.size w)
  have H : ((spec_inRange.f a1 0 (wrap64 (a0_0 - 1))).bind fun t495 => (if t495 = true then ((spec_inRange.f a2 0 (wrap64 (a0_1 - 1))).bind fun t496 => (some t496)) else (some false))) = some r := h
  clear h
  replace H := Option.bind_eq_some_iff.mp H
  obtain ⟨t495, A40, H⟩ := H
  replace H : (if t495 = true then ((spec_inRange.f a2 0 (wrap64 (a0_1 - 1))).bind fun t496 => (some t496)) else (some false)) = some r := H
  have A4 := Aside0.mk A40
  clear A40
  by_cases c5 : t495 = true
  · subst c5
    have H1 : ((spec_inRange.f a2 0 (wrap64 (a0_1 - 1))).bind fun t496 => (some t496)) = some r := by rw [if_pos rfl] at H; exact H
    clear H
    have H := H1
    clear H1
    replace H := Option.bind_eq_some_iff.mp H
    obtain ⟨t496, A60, H⟩ := H
    replace H : (some t496) = some r := H
    have A6 := Aside0.mk A60
    clear A60
    obtain rfl := Option.some.inj H
    simp only [Option.some.injEq, Prod.mk.injEq] at H
    obtain ⟨rfl⟩ := H
    go_enter Try.func56, Try.ntmps56
    go_wp2_with (first | ((with_reducible refine gate_dst (N := 3) rfl ?_); refine box_event ?hg (N := 3) ?hd (cs := #[.int .i64 a0_0, .int .i64 a0_1, .int .i64 a0_2, .slice A0_3 l0_3.length c0_3]) (t := 28) ?hr ?_; (case hd => rfl); (case hg => rfl); (case hr => first | (go_simp; done) | (go_simp; rfl)); intro gb494 hg w7 hbox hb; have n0_ := Aside0.mk (below_step (B.bl HB) hb); have n1_ := Aside0.mk (hbox); have n2_ := Aside0.mk (B.nle hg (below_size (B.bl HB))); have n3_ := Aside0.mk (B.nle hg (below_size (B.bl HB))); clear HB; have HB := n0_; have BK494 := n1_; have GW494 := n2_; have GE494 := n3_; clear n0_ n1_ n2_ n3_; clear hb hbox hg; have hcz8_0 : w7.cell? ⟨gb494, 0, none⟩ = some (.int .i64 a0_0) := B.bc BK494 0; have hcz8_1 : w7.cell? ⟨gb494, 1, none⟩ = some (.int .i64 a0_1) := B.bc BK494 1; have hcz8_2 : w7.cell? ⟨gb494, 2, none⟩ = some (.int .i64 a0_2) := B.bc BK494 2; have hcz8_3 : w7.cell? ⟨gb494, 3, none⟩ = some (.slice A0_3 l0_3.length c0_3) := B.bc BK494 3; have hfz8_0 := blk_frozen BK494.out 0; have hfz8_1 := blk_frozen BK494.out 1; have hfz8_2 := blk_frozen BK494.out 2; have hfz8_3 := blk_frozen BK494.out 3) | ((with_reducible refine gate_callee (f := 40) rfl ?_); refine goesL_ (some 11) rfl rfl Try.func40 (by kernel_rfl) rfl #[.int .i64 a1, .int .i64 0, .int .i64 (wrap64 (a0_0 - 1))] rfl B.am ?_; (with_reducible refine (spec_inRange.calls a1 0 (wrap64 (a0_0 - 1)) true _ A4.out).mono ?_); rintro e w' ⟨rfl, ⟨nd, rfl⟩⟩; refine ⟨_, rfl, ?_⟩) | (go_at_call 40; (with_reducible refine (spec_inRange.calls a2 0 (wrap64 (a0_1 - 1)) t496 _ A6.out).mono ?_); rintro e w' ⟨rfl, ⟨nd, rfl⟩⟩))
    go_ret
    exact ⟨by first | rfl | (simp [errW_none, errW_some] <;> rfl) | (simp [*, errW_none, errW_some] <;> rfl), B.bl HB⟩
  replace c5 := Bool.eq_false_iff.mpr c5
  subst c5
  have H1 : (some false) = some r := by rw [if_neg (show ¬ (false = true) by decide)] at H; exact H
  clear H
  have H := H1
  clear H1
  obtain rfl := Option.some.inj H
  simp only [Option.some.injEq, Prod.mk.injEq] at H
  obtain ⟨rfl⟩ := H
  go_enter Try.func56, Try.ntmps56
  go_wp2_with (first | ((with_reducible refine gate_dst (N := 3) rfl ?_); refine box_event ?hg (N := 3) ?hd (cs := #[.int .i64 a0_0, .int .i64 a0_1, .int .i64 a0_2, .slice A0_3 l0_3.length c0_3]) (t := 28) ?hr ?_; (case hd => rfl); (case hg => rfl); (case hr => first | (go_simp; done) | (go_simp; rfl)); intro gb494 hg w9 hbox hb; have n0_ := Aside0.mk (below_step (B.bl HB) hb); have n1_ := Aside0.mk (hbox); have n2_ := Aside0.mk (B.nle hg (below_size (B.bl HB))); have n3_ := Aside0.mk (B.nle hg (below_size (B.bl HB))); clear HB; have HB := n0_; have BK494 := n1_; have GW494 := n2_; have GE494 := n3_; clear n0_ n1_ n2_ n3_; clear hb hbox hg; have hcz10_0 : w9.cell? ⟨gb494, 0, none⟩ = some (.int .i64 a0_0) := B.bc BK494 0; have hcz10_1 : w9.cell? ⟨gb494, 1, none⟩ = some (.int .i64 a0_1) := B.bc BK494 1; have hcz10_2 : w9.cell? ⟨gb494, 2, none⟩ = some (.int .i64 a0_2) := B.bc BK494 2; have hcz10_3 : w9.cell? ⟨gb494, 3, none⟩ = some (.slice A0_3 l0_3.length c0_3) := B.bc BK494 3; have hfz10_0 := blk_frozen BK494.out 0; have hfz10_1 := blk_frozen BK494.out 1; have hfz10_2 := blk_frozen BK494.out 2; have hfz10_3 := blk_frozen BK494.out 3) | ((with_reducible refine gate_callee (f := 40) rfl ?_); refine goesL_ (some 11) rfl rfl Try.func40 (by kernel_rfl) rfl #[.int .i64 a1, .int .i64 0, .int .i64 (wrap64 (a0_0 - 1))] rfl B.am ?_; (with_reducible refine (spec_inRange.calls a1 0 (wrap64 (a0_0 - 1)) false _ A4.out).mono ?_); rintro e w' ⟨rfl, ⟨nd, rfl⟩⟩; refine ⟨_, rfl, ?_⟩))
  go_ret
  exact ⟨by first | rfl | (simp [errW_none, errW_some] <;> rfl) | (simp [*, errW_none, errW_some] <;> rfl), B.bl HB⟩

/-! ### spec_paste: function 42 -/
mutual
def spec_paste.l0 : Nat → Int → Int → Int → Int → Int → Int → List Int → Int → Int → Int → List Int → Option (List Int)
  | 0, _, _, _, _, _, _, _, _, _, _, _ => none
  | k + 1, x1, x2, x8, x498000, x498001, x498002, x498003, x499000, x499001, x499002, x499003 => if x8 < x499001 then (spec_paste.l1 k x1 x2 x8 0 x498000 x498001 x498002 x498003 x499000 x499001 x499002 x499003) else (some x498003)
def spec_paste.l1 : Nat → Int → Int → Int → Int → Int → Int → Int → List Int → Int → Int → Int → List Int → Option (List Int)
  | 0, _, _, _, _, _, _, _, _, _, _, _, _ => none
  | k + 1, x1, x2, x8, x9, x498000, x498001, x498002, x498003, x499000, x499001, x499002, x499003 => if x9 < x499000 then ((spec_onImage.f x498000 x498001 x498002 x498003 (wrap64 (x1 + x9)) (wrap64 (x2 + x8))).bind fun t499 => (if t499 = true then ((spec_pixelAt.f x499000 x499001 x499002 x499003 x9 x8).bind fun t500 => ((spec_setPixel.f k x498000 x498001 x498002 x498003 (wrap64 (x1 + x9)) (wrap64 (x2 + x8)) t500).bind fun t503 => (spec_paste.l1 k x1 x2 x8 (wrap64 (x9 + 1)) x498000 x498001 x498002 t503 x499000 x499001 x499002 x499003))) else (spec_paste.l1 k x1 x2 x8 (wrap64 (x9 + 1)) x498000 x498001 x498002 x498003 x499000 x499001 x499002 x499003))) else (spec_paste.l0 k x1 x2 (wrap64 (x8 + 1)) x498000 x498001 x498002 x498003 x499000 x499001 x499002 x499003)
end
def spec_paste.f (k : Nat) (a0_0 : Int) (a0_1 : Int) (a0_2 : Int) (l0_3 : List Int) (a1 : Int) (a2 : Int) (a3_0 : Int) (a3_1 : Int) (a3_2 : Int) (l3_3 : List Int) : Option (List Int) := spec_paste.l0 k a1 a2 0 a0_0 a0_1 a0_2 l0_3 a3_0 a3_1 a3_2 l3_3
theorem spec_paste.mono_l : ∀ k, (∀ y0 y1 y2 y3 y4 y5 y6 y7 y8 y9 y10, LeO (spec_paste.l0 k y0 y1 y2 y3 y4 y5 y6 y7 y8 y9 y10) (spec_paste.l0 (k + 1) y0 y1 y2 y3 y4 y5 y6 y7 y8 y9 y10)) ∧ (∀ y0 y1 y2 y3 y4 y5 y6 y7 y8 y9 y10 y11, LeO (spec_paste.l1 k y0 y1 y2 y3 y4 y5 y6 y7 y8 y9 y10 y11) (spec_paste.l1 (k + 1) y0 y1 y2 y3 y4 y5 y6 y7 y8 y9 y10 y11))
  | 0 => ⟨fun _ _ _ _ _ _ _ _ _ _ _ r h => by simp [spec_paste.l0] at h, fun _ _ _ _ _ _ _ _ _ _ _ _ r h => by simp [spec_paste.l1] at h⟩
  | k + 1 => by
    obtain ⟨ih0, ih1⟩ := spec_paste.mono_l k
    refine ⟨?_, ?_⟩
    · intro y0 y1 y2 y3 y4 y5 y6 y7 y8 y9 y10
      unfold spec_paste.l0
      repeat' first
      | (with_reducible exact ih0 _ _ _ _ _ _ _ _ _ _ _)
      | (with_reducible exact ih1 _ _ _ _ _ _ _ _ _ _ _ _)
      | (with_reducible exact spec_setPixel.mono _ _ _ _ _ _ _ _)
      | (with_reducible exact LeO.refl _)
      | (with_reducible exact LeO.none _)
      | (with_reducible refine LeO.ite ?_ ?_)
      | (with_reducible refine LeO.bind ?_ (fun _ => ?_))
      | exact ih0 _ _ _ _ _ _ _ _ _ _ _
      | exact ih1 _ _ _ _ _ _ _ _ _ _ _ _
      | exact spec_setPixel.mono _ _ _ _ _ _ _ _
      | exact LeO.none _
      | refine LeO.ite ?_ ?_
      | refine LeO.bind ?_ (fun _ => ?_)
    intro y0 y1 y2 y3 y4 y5 y6 y7 y8 y9 y10 y11
    unfold spec_paste.l1
    repeat' first
    | (with_reducible exact ih0 _ _ _ _ _ _ _ _ _ _ _)
    | (with_reducible exact ih1 _ _ _ _ _ _ _ _ _ _ _ _)
    | (with_reducible exact spec_setPixel.mono _ _ _ _ _ _ _ _)
    | (with_reducible exact LeO.refl _)
    | (with_reducible exact LeO.none _)
    | (with_reducible refine LeO.ite ?_ ?_)
    | (with_reducible refine LeO.bind ?_ (fun _ => ?_))
    | exact ih0 _ _ _ _ _ _ _ _ _ _ _
    | exact ih1 _ _ _ _ _ _ _ _ _ _ _ _
    | exact spec_setPixel.mono _ _ _ _ _ _ _ _
    | exact LeO.none _
    | refine LeO.ite ?_ ?_
    | refine LeO.bind ?_ (fun _ => ?_)
theorem spec_paste.mono : ∀ a0 a1 a2 a3 a4 a5 a6 a7 a8 a9 k, LeO (spec_paste.f k a0 a1 a2 a3 a4 a5 a6 a7 a8 a9) (spec_paste.f (k + 1) a0 a1 a2 a3 a4 a5 a6 a7 a8 a9) := by
  intro a0 a1 a2 a3 a4 a5 a6 a7 a8 a9 k
  obtain ⟨ih0, ih1⟩ := spec_paste.mono_l k
  unfold spec_paste.f
  repeat' first
      | (with_reducible exact ih0 _ _ _ _ _ _ _ _ _ _ _)
      | (with_reducible exact ih1 _ _ _ _ _ _ _ _ _ _ _ _)
      | (with_reducible exact spec_setPixel.mono _ _ _ _ _ _ _ _)
      | (with_reducible exact LeO.refl _)
      | (with_reducible exact LeO.none _)
      | (with_reducible refine LeO.ite ?_ ?_)
      | (with_reducible refine LeO.bind ?_ (fun _ => ?_))
      | exact ih0 _ _ _ _ _ _ _ _ _ _ _
      | exact ih1 _ _ _ _ _ _ _ _ _ _ _ _
      | exact spec_setPixel.mono _ _ _ _ _ _ _ _
      | exact LeO.none _
      | refine LeO.ite ?_ ?_
      | refine LeO.bind ?_ (fun _ => ?_)
def spec_paste.T8 : Bool × List (List Nat × List Nat) := (true, [([], []), ([], []), ([], []), ([1, 2], [1, 2]), ([], []), ([], []), ([4, 5], [4, 5]), ([], []), ([], []), ([], []), ([7, 8, 9], [7, 8, 9]), ([0, 3, 6, 10, 10], [0, 3, 6, 10])])
def spec_paste.B8 : List Nat := [0, 0, 0, 6, 0, 0, 48, 0, 0, 0, 896, 2047]
theorem spec_paste.tab8 : rtab .any (opsOf Try.f42 8) = spec_paste.T8 := by kernel_rfl
theorem spec_paste.bits8 : waitsOk spec_paste.T8.2 spec_paste.B8 = true := by kernel_rfl
set_option maxHeartbeats 8000000 in
set_option maxRecDepth 100000 in
theorem spec_paste.calls (k : Nat) (a0_0 : Int) (a0_1 : Int) (a0_2 : Int) (P0_3_ : Nat → Prop) (u9000_ : Value) (l0_3 : List Int) (a1 : Int) (a2 : Int) (a3_0 : Int) (a3_1 : Int) (a3_2 : Int) (A3_3 : Option Addr) (c3_3 : Nat) (l3_3 : List Int) (r : List Int) (w0 w : World) (hB : Below w0.heap.size w0 w) (ho0_3 : Kd.R (Kd.int .i64) 3 w w0.heap.size P0_3_ u9000_ l0_3) (hr3_3 : ∀ W_, Kept w W_ (fun k_ => P0_3_ k_) → Kd.C (Kd.int .i64) W_ A3_3 l3_3.length l3_3) (hc3_3 : l3_3.length ≤ c3_3) (h : spec_paste.f k a0_0 a0_1 a0_2 l0_3 a1 a2 a3_0 a3_1 a3_2 l3_3 = some r) :
    Calls Try.prog 42 #[.agg #[.int .i64 a0_0, .int .i64 a0_1, .int .i64 a0_2, u9000_], .int .i64 a1, .int .i64 a2, .agg #[.int .i64 a3_0, .int .i64 a3_1, .int .i64 a3_2, .slice A3_3 l3_3.length c3_3]] w fun e w' => e = .returned (.tuple #[]) ∧ Kd.R (Kd.int .i64) 3 w' w0.heap.size (fun k_ => (P0_3_ k_ ∨ w.heap.size ≤ k_)) u9000_ r ∧ Below w0.heap.size w0 w' ∧ Kept w w' (fun k_ => P0_3_ k_) := by
  have hu28 := Try.underlying28
  have HO0_3 := Aside0.mk (show Kd.R (Kd.int .i64) 3 w w0.heap.size (fun k_ => (P0_3_ k_ ∨ w.heap.size ≤ k_)) u9000_ l0_3 from Kd.R_mono ho0_3 (fun k_ hk => (.inl hk)))
  have HR3_3 := Aside0.mk hr3_3
  have HC3_3 := Aside0.mk hc3_3
  clear hr3_3 hc3_3
  have HK := Aside0.mk (Kept.refl w (fun k_ => P0_3_ k_))
  have HW0 := Aside0.mk hB.size
  have HB := Aside0.mk hB
  clear hB
  have H : (spec_paste.l0 k a1 a2 0 a0_0 a0_1 a0_2 l0_3 a3_0 a3_1 a3_2 l3_3) = some r := h
  clear h
  have H' := Aside0.mk H
  clear H
  obtain ⟨Ao5, co5, eo5⟩ := Kd.R_slice HO0_3.out
  subst eo5
  go_enter Try.func42, Try.ntmps42
  go_wp2_with (first | ((with_reducible refine gate_dst (N := 4) rfl ?_); refine box_event ?hg (N := 4) ?hd (cs := #[.int .i64 a0_0, .int .i64 a0_1, .int .i64 a0_2, .slice Ao5 l0_3.length co5]) (t := 28) ?hr ?_; (case hd => rfl); (case hg => rfl); (case hr => first | (go_simp; done) | (go_simp; rfl)); intro gb497 hg w6 hbox hb; have n0_ := Aside0.mk (Kd.R_below (B.kr HO0_3) hb); have n1_ := Aside0.mk (Kept.below (S := (fun k_ => P0_3_ k_)) (by repeat (first | (with_reducible first | exact HK.out | apply Kept.alloc | apply Kept.drewN | apply Kept.drew) | exact HK.out)) hb); have n2_ := Aside0.mk (below_step (B.bl HB) hb); have n3_ := Aside0.mk (hbox); have n4_ := Aside0.mk ((by rw [hg]; exact (by first | exact HK.out.1 | exact (show Kept w _ (fun k_ => P0_3_ k_) from by repeat (first | (with_reducible first | exact HK.out | apply Kept.alloc | apply Kept.drewN | apply Kept.drew) | exact HK.out)).1) : w.heap.size ≤ gb497)); have n5_ := Aside0.mk ((by rw [hg]; exact (below_size (B.bl HB)) : w0.heap.size ≤ gb497)); clear HO0_3 HK HB; have HO0_3 := n0_; have HK := n1_; have HB := n2_; have BK497 := n3_; have GW497 := n4_; have GE497 := n5_; clear n0_ n1_ n2_ n3_ n4_ n5_; clear hb hbox hg) | ((with_reducible refine gate_dst (N := 7) rfl ?_); refine box_event ?hg (N := 7) ?hd (cs := #[.int .i64 a3_0, .int .i64 a3_1, .int .i64 a3_2, .slice A3_3 l3_3.length c3_3]) (t := 28) ?hr ?_; (case hd => rfl); (case hg => rfl); (case hr => first | (go_simp; done) | (go_simp; rfl)); intro gb498 hg w7 hbox hb; have n0_ := Aside0.mk (Kd.R_below (B.kr HO0_3) hb); have n1_ := Aside0.mk (blk_below (B.kb BK497) hb); have n2_ := Aside0.mk (Kept.below (S := (fun k_ => P0_3_ k_)) (by repeat (first | (with_reducible first | exact HK.out | apply Kept.alloc | apply Kept.drewN | apply Kept.drew | refine Kept.setCell ?_ (.inr GW497.out) _) | exact HK.out)) hb); have n3_ := Aside0.mk (below_step (B.bl HB) hb); have n4_ := Aside0.mk (hbox); have n5_ := Aside0.mk ((by rw [hg]; exact (by first | exact HK.out.1 | exact (show Kept w _ (fun k_ => P0_3_ k_) from by repeat (first | (with_reducible first | exact HK.out | apply Kept.alloc | apply Kept.drewN | apply Kept.drew | refine Kept.setCell ?_ (.inr GW497.out) _) | exact HK.out)).1) : w.heap.size ≤ gb498)); have n6_ := Aside0.mk ((by rw [hg]; exact (below_size (B.bl HB)) : w0.heap.size ≤ gb498)); have n7_ := Aside0.mk (B.nlt hg (blk_lt (B.kb BK497))); have n8_ := Aside0.mk (B.ngt hg (blk_lt (B.kb BK497))); clear HO0_3 BK497 HK HB; have HO0_3 := n0_; have BK497 := n1_; have HK := n2_; have HB := n3_; have BK498 := n4_; have GW498 := n5_; have GE498 := n6_; have NB497_498 := n7_; have NB498_497 := n8_; clear n0_ n1_ n2_ n3_ n4_ n5_ n6_ n7_ n8_; clear hb hbox hg))
  go_loopg [8] k (fun kq v8 w' => ∃ (x8_1 : Int) (x498003_1 : List Int), v8 = .int .i64 x8_1 ∧ Aside0 (spec_paste.l0 kq a1 a2 x8_1 a0_0 a0_1 a0_2 x498003_1 a3_0 a3_1 a3_2 l3_3 = some r) ∧ Aside0 (kq ≤ k) ∧ Aside0 (Kd.R (Kd.int .i64) 3 w' w0.heap.size (fun k_ => (P0_3_ k_ ∨ w.heap.size ≤ k_)) (.slice Ao5 l0_3.length co5) x498003_1) ∧ Aside0 (w'.heap[gb497]? = some (.cells #[.int .i64 a0_0, .int .i64 a0_1, .int .i64 a0_2, (.slice Ao5 l0_3.length co5)] 28 (0, 0))) ∧ Aside0 (w'.heap[gb498]? = some (.cells #[.int .i64 a3_0, .int .i64 a3_1, .int .i64 a3_2, (.slice A3_3 l3_3.length c3_3)] 28 (0, 0))) ∧ Aside0 (Kept w w' (fun k_ => P0_3_ k_)) ∧ Aside0 (Below w0.heap.size w0 w'))
  case atStart => exact ⟨(0), (l0_3), (by first | rfl | (simp; done) | (simp [*]; done)), H', ⟨Nat.le_refl _⟩, ⟨B.kr HO0_3⟩, ⟨B.kb BK497⟩, ⟨B.kb BK498⟩, ⟨by repeat (first | (with_reducible first | exact HK.out | apply Kept.alloc | apply Kept.drewN | apply Kept.drew | refine Kept.setCell ?_ (.inr GW497.out) _ | refine Kept.setCell ?_ (.inr GW498.out) _) | exact HK.out)⟩, ⟨B.bl HB⟩⟩
  case round =>
    clear H'
    try clear p2
    try clear c3
    try clear c4
    obtain ⟨x8_1, x498003_1, rfl, HA, HK1, HO_498003, BK497, BK498, HK, HB⟩ := hrel
    have hl498003_1 := (Kd.R_reads' HO_498003.out).1
    rw [hl498003_1] at HO_498003
    (try simp only [hl498003_1])
    (try simp only [hl498003_1] at BK497)
    (try simp only [hl498003_1] at BK498)
    cases gk with
    | zero => exact absurd HA.out (by simp [spec_paste.l0])
    | succ k1 =>
      have H := HA.out
      clear HA
      simp only [spec_paste.l0] at H
      by_cases c8 : x8_1 < a3_1
      · rw [if_pos c8] at H
        have c8b0 : decide (x8_1 < a3_1) = true := decide_eq_true c8
        clear c8
        have H' := Aside0.mk H
        clear H
        have hnb9 := NB498_497.out
        have hnc9 := NB497_498.out
        have hcz10_0 : wr.cell? ⟨gb498, 0, none⟩ = some (.int .i64 a3_0) := B.bc BK498 0
        have hcz10_1 : wr.cell? ⟨gb498, 1, none⟩ = some (.int .i64 a3_1) := B.bc BK498 1
        have hcz10_2 : wr.cell? ⟨gb498, 2, none⟩ = some (.int .i64 a3_2) := B.bc BK498 2
        have hcz10_3 : wr.cell? ⟨gb498, 3, none⟩ = some (.slice A3_3 l3_3.length c3_3) := B.bc BK498 3
        have hfz10_0 := blk_frozen BK498.out 0
        have hfz10_1 := blk_frozen BK498.out 1
        have hfz10_2 := blk_frozen BK498.out 2
        have hfz10_3 := blk_frozen BK498.out 3
        go_wp2
        go_loopg [9] k1 (fun kq v9 w' => ∃ (x9_2 : Int) (x498003_2 : List Int), v9 = .int .i64 x9_2 ∧ Aside0 (spec_paste.l1 kq a1 a2 x8_1 x9_2 a0_0 a0_1 a0_2 x498003_2 a3_0 a3_1 a3_2 l3_3 = some r) ∧ Aside0 (kq ≤ k1) ∧ Aside0 (Kd.R (Kd.int .i64) 3 w' w0.heap.size (fun k_ => (P0_3_ k_ ∨ w.heap.size ≤ k_)) (.slice Ao5 x498003_1.length co5) x498003_2) ∧ Aside0 (w'.heap[gb497]? = some (.cells #[.int .i64 a0_0, .int .i64 a0_1, .int .i64 a0_2, (.slice Ao5 x498003_1.length co5)] 28 (0, 0))) ∧ Aside0 (w'.heap[gb498]? = some (.cells #[.int .i64 a3_0, .int .i64 a3_1, .int .i64 a3_2, (.slice A3_3 l3_3.length c3_3)] 28 (0, 0))) ∧ Aside0 (Kept w w' (fun k_ => P0_3_ k_)) ∧ Aside0 (Below w0.heap.size w0 w'))
        case atStart => exact ⟨(0), (x498003_1), (by first | rfl | (simp; done) | (simp [*]; done)), H', ⟨Nat.le_refl _⟩, ⟨by (try simp only [hl498003_1]); (with_reducible repeat (first | apply Kd.R_alloc | apply Kd.R_drewN | apply Kd.R_drew)); exact HO_498003.out⟩, ⟨by (try simp only [hl498003_1]); (with_reducible repeat (first | refine blk_drewN ?_ _ | refine blk_drew ?_ | refine blk_alloc ?_ _)); exact BK497.out⟩, ⟨by (try simp only [hl498003_1]); (with_reducible repeat (first | refine blk_drewN ?_ _ | refine blk_drew ?_ | refine blk_alloc ?_ _)); exact BK498.out⟩, ⟨by repeat (first | (with_reducible first | exact HK.out | apply Kept.alloc | apply Kept.drewN | apply Kept.drew | refine Kept.setCell ?_ (.inr GW497.out) _ | refine Kept.setCell ?_ (.inr GW498.out) _) | exact HK.out)⟩, ⟨B.bl HB⟩⟩
        case round =>
          clear H'
          try clear p2
          try clear c3
          try clear c4
          try clear c8
          try clear c8b0
          try clear c9
          try clear hcz10_0
          try clear hcz10_1
          try clear hcz10_2
          try clear hcz10_3
          try clear hfz10_0
          try clear hfz10_1
          try clear hfz10_2
          try clear hfz10_3
          try clear p2
          obtain ⟨x9_2, x498003_2, rfl, HA, HK2, HO_498003, BK497, BK498, HK, HB⟩ := hrel
          have hl498003_2 := (Kd.R_reads' HO_498003.out).1
          rw [hl498003_2] at HO_498003
          (try simp only [hl498003_2])
          (try simp only [hl498003_2] at BK497)
          (try simp only [hl498003_2] at BK498)
          cases gk with
          | zero => exact absurd HA.out (by simp [spec_paste.l1])
          | succ k2 =>
            have H := HA.out
            clear HA
            simp only [spec_paste.l1] at H
            by_cases c11 : x9_2 < a3_0
            · rw [if_pos c11] at H
              have c11b0 : decide (x9_2 < a3_0) = true := decide_eq_true c11
              clear c11
              replace H := Option.bind_eq_some_iff.mp H
              obtain ⟨t499, A120, H⟩ := H
              replace H : (if t499 = true then ((spec_pixelAt.f a3_0 a3_1 a3_2 l3_3 x9_2 x8_1).bind fun t500 => ((spec_setPixel.f k2 a0_0 a0_1 a0_2 x498003_2 (wrap64 (a1 + x9_2)) (wrap64 (a2 + x8_1)) t500).bind fun t503 => (spec_paste.l1 k2 a1 a2 x8_1 (wrap64 (x9_2 + 1)) a0_0 a0_1 a0_2 t503 a3_0 a3_1 a3_2 l3_3))) else (spec_paste.l1 k2 a1 a2 x8_1 (wrap64 (x9_2 + 1)) a0_0 a0_1 a0_2 x498003_2 a3_0 a3_1 a3_2 l3_3)) = some r := H
              have A12 := Aside0.mk A120
              clear A120
              by_cases c13 : t499 = true
              · subst c13
                have H1 : ((spec_pixelAt.f a3_0 a3_1 a3_2 l3_3 x9_2 x8_1).bind fun t500 => ((spec_setPixel.f k2 a0_0 a0_1 a0_2 x498003_2 (wrap64 (a1 + x9_2)) (wrap64 (a2 + x8_1)) t500).bind fun t503 => (spec_paste.l1 k2 a1 a2 x8_1 (wrap64 (x9_2 + 1)) a0_0 a0_1 a0_2 t503 a3_0 a3_1 a3_2 l3_3))) = some r := by rw [if_pos rfl] at H; exact H
                clear H
                have H := H1
                clear H1
                replace H := Option.bind_eq_some_iff.mp H
                obtain ⟨t500, A140, H⟩ := H
                replace H : ((spec_setPixel.f k2 a0_0 a0_1 a0_2 x498003_2 (wrap64 (a1 + x9_2)) (wrap64 (a2 + x8_1)) t500).bind fun t503 => (spec_paste.l1 k2 a1 a2 x8_1 (wrap64 (x9_2 + 1)) a0_0 a0_1 a0_2 t503 a3_0 a3_1 a3_2 l3_3)) = some r := H
                have A14 := Aside0.mk A140
                clear A140
                replace H := Option.bind_eq_some_iff.mp H
                obtain ⟨t503, A150, H⟩ := H
                replace H : (spec_paste.l1 k2 a1 a2 x8_1 (wrap64 (x9_2 + 1)) a0_0 a0_1 a0_2 t503 a3_0 a3_1 a3_2 l3_3) = some r := H
                have A15 := Aside0.mk A150
                clear A150
                have H' := Aside0.mk H
                clear H
                have hnb16 := NB498_497.out
                have hnc16 := NB497_498.out
                have hcz17_0 : wr.cell? ⟨gb498, 0, none⟩ = some (.int .i64 a3_0) := B.bc BK498 0
                have hcz17_1 : wr.cell? ⟨gb498, 1, none⟩ = some (.int .i64 a3_1) := B.bc BK498 1
                have hcz17_2 : wr.cell? ⟨gb498, 2, none⟩ = some (.int .i64 a3_2) := B.bc BK498 2
                have hcz17_3 : wr.cell? ⟨gb498, 3, none⟩ = some (.slice A3_3 l3_3.length c3_3) := B.bc BK498 3
                have hfz17_0 := blk_frozen BK498.out 0
                have hfz17_1 := blk_frozen BK498.out 1
                have hfz17_2 := blk_frozen BK498.out 2
                have hfz17_3 := blk_frozen BK498.out 3
                have hcz18_0 : wr.cell? ⟨gb497, 0, none⟩ = some (.int .i64 a0_0) := B.bc BK497 0
                have hcz18_1 : wr.cell? ⟨gb497, 1, none⟩ = some (.int .i64 a0_1) := B.bc BK497 1
                have hcz18_2 : wr.cell? ⟨gb497, 2, none⟩ = some (.int .i64 a0_2) := B.bc BK497 2
                have hcz18_3 : wr.cell? ⟨gb497, 3, none⟩ = some (.slice Ao5 x498003_2.length co5) := B.bc BK497 3
                have hfz18_0 := blk_frozen BK497.out 0
                have hfz18_1 := blk_frozen BK497.out 1
                have hfz18_2 := blk_frozen BK497.out 2
                have hfz18_3 := blk_frozen BK497.out 3
                try go_wp2_with (first | ((with_reducible refine gate_callee (f := 56) rfl ?_); refine goesL_ (some 29) rfl rfl Try.func56 (by kernel_rfl) rfl #[.agg #[.int .i64 a0_0, .int .i64 a0_1, .int .i64 a0_2, .slice Ao5 x498003_2.length co5], .int .i64 (wrap64 (a1 + x9_2)), .int .i64 (wrap64 (a2 + x8_1))] rfl B.am ?_; (with_reducible refine (spec_onImage.calls a0_0 a0_1 a0_2 _ _ x498003_2 (wrap64 (a1 + x9_2)) (wrap64 (a2 + x8_1)) true _ ?side1 ?side2 A12.out).mono ?_); (case side1 => exact B.kc ((Kd.R_reads' HO_498003.out).2.2)); (case side2 => exact (Kd.R_reads' HO_498003.out).2.1); rintro e w19 ⟨rfl, hb⟩; refine ⟨_, rfl, ?_⟩; have n0_ := Aside0.mk (Kd.R_below (B.kr HO_498003) hb); have n1_ := Aside0.mk (blk_below (B.kb BK497) hb); have n2_ := Aside0.mk (blk_below (B.kb BK498) hb); have n3_ := Aside0.mk (Kept.below (S := (fun k_ => P0_3_ k_)) (by repeat (first | (with_reducible first | exact HK.out | apply Kept.alloc | apply Kept.drewN | apply Kept.drew | refine Kept.setCell ?_ (.inr GW497.out) _ | refine Kept.setCell ?_ (.inr GW498.out) _) | exact HK.out)) hb); have n4_ := Aside0.mk (below_step (B.bl HB) hb); clear HO_498003 BK497 BK498 HK HB; have HO_498003 := n0_; have BK497 := n1_; have BK498 := n2_; have HK := n3_; have HB := n4_; clear n0_ n1_ n2_ n3_ n4_; (try clear hb); (try clear hb2); (try clear hk); (try clear hi)))
                have n0_ := Aside0.mk (Kd.R_drew HO_498003.out)
                have n1_ := Aside0.mk (blk_drew BK497.out)
                have n2_ := Aside0.mk (blk_drew BK498.out)
                have n3_ := Aside0.mk (Kept.drew HK.out)
                have n4_ := Aside0.mk (below_drew1 HB.out)
                clear HO_498003 BK497 BK498 HK HB
                have HO_498003 := n0_
                have BK497 := n1_
                have BK498 := n2_
                have HK := n3_
                have HB := n4_
                clear n0_ n1_ n2_ n3_ n4_
                refine start_ (n := 12) (S := fun w' => w'.cell? ⟨gb497, 0, none⟩ = some (.int .i64 a0_0) ∧ w'.cell? ⟨gb497, 1, none⟩ = some (.int .i64 a0_1) ∧ w'.cell? ⟨gb497, 2, none⟩ = some (.int .i64 a0_2) ∧ w'.cell? ⟨gb497, 3, none⟩ = some (.slice Ao5 x498003_2.length co5) ∧ w'.cell? ⟨gb498, 0, none⟩ = some (.int .i64 a3_0) ∧ w'.cell? ⟨gb498, 1, none⟩ = some (.int .i64 a3_1) ∧ w'.cell? ⟨gb498, 2, none⟩ = some (.int .i64 a3_2) ∧ w'.cell? ⟨gb498, 3, none⟩ = some (.slice A3_3 l3_3.length c3_3)) (ds := []) #[false, false, false, false, false, false, false, false, false, false, false, false] (by kernel_rfl) rfl rfl ⟨B.bc BK497 0, B.bc BK497 1, B.bc BK497 2, B.bc BK497 3, B.bc BK498 0, B.bc BK498 1, B.bc BK498 2, B.bc BK498 3⟩ (fun hHeld => ?_); refine with_tabW spec_paste.tab8 spec_paste.bits8 (fun HT_ HW_ => ?_)
                generalize w19.drew = w20 at HO_498003 BK497 BK498 HK HB hHeld ⊢
                refine pure_ (i := 1) (N := some 31) (v := ?_) (a' := ?_) #[false, true, false, false, false, false, false, false, false, false, false, false] rfl rfl (any_of HT_.out (by kernel_rfl)) (fun _ _ _ h => h) (Or.inl ⟨by rfl, ?_⟩) ?_ ?_
                rotate_left
                · intro w'
                  go_simp
                  with_reducible rfl
                rotate_left
                · simp only [Act.put, List.setIfInBounds_toArray, List.set_cons_zero, List.set_cons_succ, i64_w, i32_w]
                  rfl
                refine pure_ (i := 2) (N := some 32) (v := ?_) (a' := ?_) #[false, true, true, false, false, false, false, false, false, false, false, false] rfl rfl (any_of HT_.out (by kernel_rfl)) (fun _ _ _ h => h) (Or.inl ⟨by rfl, ?_⟩) ?_ ?_
                rotate_left
                · intro w'
                  go_simp
                  with_reducible rfl
                rotate_left
                · simp only [Act.put, List.setIfInBounds_toArray, List.set_cons_zero, List.set_cons_succ, i64_w, i32_w]
                  rfl
                refine pure_ (i := 3) (N := some 33) (v := ?_) (a' := ?_) #[false, true, true, true, false, false, false, false, false, false, false, false] rfl rfl (any_of HT_.out (by kernel_rfl)) (fun _ _ _ h => h) (Or.inl ⟨by rfl, ?_⟩) ?_ ?_
                rotate_left
                · intro w'
                  go_simp
                  with_reducible rfl
                rotate_left
                · simp only [Act.put, List.setIfInBounds_toArray, List.set_cons_zero, List.set_cons_succ, i64_w, i32_w]
                  rfl
                refine pure_ (i := 4) (N := some 34) (v := ?_) (a' := ?_) #[false, true, true, true, true, false, false, false, false, false, false, false] rfl rfl (any_of HT_.out (by kernel_rfl)) (fun _ _ _ h => h) (Or.inl ⟨by rfl, ?_⟩) ?_ ?_
                rotate_left
                · intro w'
                  go_simp
                  with_reducible rfl
                rotate_left
                · simp only [Act.put, List.setIfInBounds_toArray, List.set_cons_zero, List.set_cons_succ, i64_w, i32_w]
                  rfl
                refine pure_ (i := 5) (N := some 35) (v := ?_) (a' := ?_) #[false, true, true, true, true, true, false, false, false, false, false, false] rfl rfl (any_of HT_.out (by kernel_rfl)) (fun _ _ _ h => h) (Or.inl ⟨by rfl, ?_⟩) ?_ ?_
                rotate_left
                · intro w'
                  go_simp
                  with_reducible rfl
                rotate_left
                · simp only [Act.put, List.setIfInBounds_toArray, List.set_cons_zero, List.set_cons_succ, i64_w, i32_w]
                  rfl
                refine pure_ (i := 6) (N := some 36) (v := ?_) (a' := ?_) #[false, true, true, true, true, true, true, false, false, false, false, false] rfl rfl (any_of HT_.out (by kernel_rfl)) (fun _ _ _ h => h) (Or.inl ⟨by rfl, ?_⟩) ?_ ?_
                rotate_left
                · intro w'
                  go_simp
                  with_reducible rfl
                rotate_left
                · simp only [Act.put, List.setIfInBounds_toArray, List.set_cons_zero, List.set_cons_succ, i64_w, i32_w]
                  rfl
                refine pure_ (i := 8) (N := some 38) (v := ?_) (a' := ?_) #[false, true, true, true, true, true, true, false, true, false, false, false] rfl rfl (any_of HT_.out (by kernel_rfl)) (fun _ _ _ h => h) (Or.inl ⟨by rfl, ?_⟩) ?_ ?_
                rotate_left
                · intro w'
                  go_simp
                  with_reducible rfl
                rotate_left
                · simp only [Act.put, List.setIfInBounds_toArray, List.set_cons_zero, List.set_cons_succ, i64_w, i32_w]
                  rfl
                refine pure_ (i := 9) (N := some 39) (v := ?_) (a' := ?_) #[false, true, true, true, true, true, true, false, true, true, false, false] rfl rfl (any_of HT_.out (by kernel_rfl)) (fun _ _ _ h => h) (Or.inl ⟨by rfl, ?_⟩) ?_ ?_
                rotate_left
                · intro w'
                  go_simp
                  with_reducible rfl
                rotate_left
                · simp only [Act.put, List.setIfInBounds_toArray, List.set_cons_zero, List.set_cons_succ, i64_w, i32_w]
                  rfl
                refine take_ (i := 0) (N := some 30) (v := ?_) (a' := ?_) #[true, true, true, true, true, true, true, false, true, true, false, false] rfl rfl (take_ofW HT_.out HW_.out (by kernel_rfl)) (fun _ _ _ h => h) (Or.inl ⟨by rfl, ?_⟩) hHeld ?_ ?_
                rotate_left
                · rintro w' ⟨s0, s1, s2, s3, s4, s5, s6, s7⟩
                  go_simp
                  with_reducible rfl
                rotate_left
                · simp only [Act.put, List.setIfInBounds_toArray, List.set_cons_zero, List.set_cons_succ, i64_w, i32_w]
                  rfl
                refine take_ (i := 7) (N := some 37) (v := ?_) (a' := ?_) #[true, true, true, true, true, true, true, true, true, true, false, false] rfl rfl (take_ofW HT_.out HW_.out (by kernel_rfl)) (fun _ _ _ h => h) (Or.inl ⟨by rfl, ?_⟩) hHeld ?_ ?_
                rotate_left
                · rintro w' ⟨s0, s1, s2, s3, s4, s5, s6, s7⟩
                  go_simp
                  with_reducible rfl
                rotate_left
                · simp only [Act.put, List.setIfInBounds_toArray, List.set_cons_zero, List.set_cons_succ, i64_w, i32_w]
                  rfl
                refine one_ (i := 10) (N := some 40) #[true, true, true, true, true, true, true, true, true, true, true, false] rfl rfl (one_of HT_.out (by kernel_rfl)) (by decide) (fun K hK => ?_)
                refine goes_ Try.func50 (by kernel_rfl) rfl #[.agg #[.int .i64 a3_0, .int .i64 a3_1, .int .i64 a3_2, .slice A3_3 l3_3.length c3_3], .int .i64 x9_2, .int .i64 x8_1] (by rfl) rfl rfl B.am ?_
                with_reducible refine (spec_pixelAt.calls a3_0 a3_1 a3_2 _ _ l3_3 x9_2 x8_1 t500 _ ?side1 ?side2 A14.out).mono ?_
                (case side1 => exact Kd.C_kept_now HR3_3.out (by repeat (first | (with_reducible first | exact HK.out | apply Kept.alloc | apply Kept.drewN | apply Kept.drew | refine Kept.setCell ?_ (.inr GW497.out) _ | refine Kept.setCell ?_ (.inr GW498.out) _) | exact HK.out)))
                (case side2 => exact HC3_3.out)
                rintro e w21 ⟨v501, rfl, ho0, hb⟩
                refine ⟨_, rfl, ?_⟩
                have n0_ := Aside0.mk (Kd.R_elder' (B.kr HO_498003) (Kd.R_base ho0) hb)
                have n1_ := Aside0.mk (Kd.R_lower (Kd.R_new' (Kd.R_newM (M := fun k_ => (P0_3_ k_ ∨ w.heap.size ≤ k_)) ho0 (by first | exact HK.out.1 | exact (show Kept w _ (fun k_ => P0_3_ k_) from by repeat (first | (with_reducible first | exact HK.out | apply Kept.alloc | apply Kept.drewN | apply Kept.drew | refine Kept.setCell ?_ (.inr GW497.out) _ | refine Kept.setCell ?_ (.inr GW498.out) _) | exact HK.out)).1) (fun k_ h_ => .inr h_)) (Kd.R_lt (B.kr HO_498003))) (below_size (B.bl HB)))
                have n2_ := Aside0.mk (blk_below (B.kb BK497) hb)
                have n3_ := Aside0.mk (blk_below (B.kb BK498) hb)
                have n4_ := Aside0.mk (Kept.below (S := (fun k_ => P0_3_ k_)) (by repeat (first | (with_reducible first | exact HK.out | apply Kept.alloc | apply Kept.drewN | apply Kept.drew | refine Kept.setCell ?_ (.inr GW497.out) _ | refine Kept.setCell ?_ (.inr GW498.out) _) | exact HK.out)) hb)
                have n5_ := Aside0.mk (below_step (B.bl HB) hb)
                clear HO_498003 BK497 BK498 HK HB
                have HO_498003 := n0_
                have HO502 := n1_
                have BK497 := n2_
                have BK498 := n3_
                have HK := n4_
                have HB := n5_
                clear n0_ n1_ n2_ n3_ n4_ n5_
                (try clear hb)
                (try clear hb2)
                (try clear hk)
                (try clear hi)
                (try clear ho0)
                obtain ⟨Ao22, co22, eo22⟩ := Kd.R_slice HO502.out
                (first | subst eo22 | (injection eo22 with f1_ f2_ f3_; have f4_ := f1_.symm; have f5_ := f3_.symm; clear f1_ f2_ f3_; subst f4_; subst f5_))
                refine hK.out _ _ ⟨B.bc BK497 0, B.bc BK497 1, B.bc BK497 2, B.bc BK497 3, B.bc BK498 0, B.bc BK498 1, B.bc BK498 2, B.bc BK498 3⟩ (fun hHeld => ?_)
                clear hK K
                refine norm_ (a' := ?_) ?_ ?_
                rotate_left
                · show Act.put _ (some 40) _ = _
                  simp only [Act.put, List.setIfInBounds_toArray, List.set_cons_zero, List.set_cons_succ, i64_w, i32_w]
                  rfl
                refine one_ (i := 11) (N := some 41) #[true, true, true, true, true, true, true, true, true, true, true, true] rfl rfl (one_of HT_.out (by kernel_rfl)) (by decide) (fun K hK => ?_)
                refine goes_ Try.func49 (by kernel_rfl) rfl #[.agg #[.int .i64 a0_0, .int .i64 a0_1, .int .i64 a0_2, .slice Ao5 x498003_2.length co5], .int .i64 (wrap64 (a1 + x9_2)), .int .i64 (wrap64 (a2 + x8_1)), .slice Ao22 t500.length co22] (by rfl) rfl rfl B.am ?_
                with_reducible refine (spec_setPixel.calls k2 a0_0 a0_1 a0_2 (fun k_ => some k_ = (.slice Ao5 x498003_2.length co5 : Value).ownBlock) (.slice Ao5 x498003_2.length co5) x498003_2 (wrap64 (a1 + x9_2)) (wrap64 (a2 + x8_1)) _ _ t500 t503 w0 _ ?side1 ?side2 ?side3 ?side4 A15.out).mono ?_
                (case side1 => exact B.bl HB)
                (case side2 => exact Kd.R_tight rfl HO_498003.out)
                (case side3 => exact Kd.C_kept_own (HO502.out) (fun k_ hk_ hs_ => (hk_.2) hs_))
                (case side4 => exact (Kd.R_reads' HO502.out).2.1)
                rintro e w23 ⟨rfl, hy0, hb, hkp⟩
                refine ⟨_, rfl, ?_⟩
                have n0_ := Aside0.mk (Kd.R_reok rfl hy0 (fun k_ e_ => HO_498003.out.1 k_ e_))
                have n1_ := Aside0.mk (blk_kept (B.kb BK497) hkp (fun hs_ => (fun e_ => (Kd.R_ne HO_498003.out BK497.out (by decide)) e_) hs_))
                have n2_ := Aside0.mk (blk_kept (B.kb BK498) hkp (fun hs_ => (fun e_ => (Kd.R_ne HO_498003.out BK498.out (by decide)) e_) hs_))
                have n3_ := Aside0.mk (Kd.R_mono (ok' := fun k_ => (P0_3_ k_ ∨ w.heap.size ≤ k_) ∧ some k_ ≠ (.slice Ao5 x498003_2.length co5 : Value).ownBlock) (Kd.R_keptB (HO502.out) hkp (fun k_ hk_ hs_ => (hk_.2) hs_)) (fun k_ hk_ => ⟨hk_.1.1.1, hk_.1.2⟩))
                have n4_ := Aside0.mk (Kept.then_ (S := (fun k_ => P0_3_ k_)) (by repeat (first | (with_reducible first | exact HK.out | apply Kept.alloc | apply Kept.drewN | apply Kept.drew | refine Kept.setCell ?_ (.inr GW497.out) _ | refine Kept.setCell ?_ (.inr GW498.out) _) | exact HK.out)) hkp (fun k_ hs_ => (fun e_ => (HO_498003.out.1 k_ e_.symm).1) hs_))
                have n5_ := Aside0.mk (hb)
                clear HO_498003 BK497 BK498 HO502 HK HB
                have HO_498003 := n0_
                have BK497 := n1_
                have BK498 := n2_
                have HO502 := n3_
                have HK := n4_
                have HB := n5_
                clear n0_ n1_ n2_ n3_ n4_ n5_
                (try clear hb)
                (try clear hkp)
                (try clear hy0)
                refine hK.out _ _ ⟨B.bc BK497 0, B.bc BK497 1, B.bc BK497 2, B.bc BK497 3, B.bc BK498 0, B.bc BK498 1, B.bc BK498 2, B.bc BK498 3⟩ (fun hHeld => ?_)
                clear hK K
                refine norm_ (a' := ?_) ?_ ?_
                rotate_left
                · show Act.put _ (some 41) _ = _
                  simp only [Act.put, List.setIfInBounds_toArray, List.set_cons_zero, List.set_cons_succ, i64_w, i32_w]
                  rfl
                refine done_ (done_of HT_.out (by kernel_rfl)) ?_
                try go_wp2
                (try simp only [← hl498003_2])
                go_roundg k2
                case measure => have := HK1.out; have := HK2.out; omega
                case rel => exact ⟨(wrap64 (x9_2 + 1)), (t503), (by first | rfl | (simp; done) | (simp [*]; done)), H', ⟨by have := HK1.out; have := HK2.out; omega⟩, ⟨by (try simp only [hl498003_1]); (try simp only [hl498003_2]); (with_reducible repeat (first | apply Kd.R_alloc | apply Kd.R_drewN | apply Kd.R_drew)); exact Kd.R_mono HO_498003.out (fun _ hk => hk.1)⟩, ⟨by (try simp only [hl498003_1]); (try simp only [hl498003_2]); (with_reducible repeat (first | refine blk_drewN ?_ _ | refine blk_drew ?_ | refine blk_alloc ?_ _)); exact BK497.out⟩, ⟨by (try simp only [hl498003_1]); (try simp only [hl498003_2]); (with_reducible repeat (first | refine blk_drewN ?_ _ | refine blk_drew ?_ | refine blk_alloc ?_ _)); exact BK498.out⟩, ⟨by repeat (first | (with_reducible first | exact HK.out | apply Kept.alloc | apply Kept.drewN | apply Kept.drew | refine Kept.setCell ?_ (.inr GW497.out) _ | refine Kept.setCell ?_ (.inr GW498.out) _) | exact HK.out)⟩, ⟨B.bl HB⟩⟩
              replace c13 := Bool.eq_false_iff.mpr c13
              subst c13
              have H1 : (spec_paste.l1 k2 a1 a2 x8_1 (wrap64 (x9_2 + 1)) a0_0 a0_1 a0_2 x498003_2 a3_0 a3_1 a3_2 l3_3) = some r := by rw [if_neg (show ¬ (false = true) by decide)] at H; exact H
              clear H
              have H := H1
              clear H1
              have H' := Aside0.mk H
              clear H
              have hnb24 := NB498_497.out
              have hnc24 := NB497_498.out
              have hcz25_0 : wr.cell? ⟨gb498, 0, none⟩ = some (.int .i64 a3_0) := B.bc BK498 0
              have hcz25_1 : wr.cell? ⟨gb498, 1, none⟩ = some (.int .i64 a3_1) := B.bc BK498 1
              have hcz25_2 : wr.cell? ⟨gb498, 2, none⟩ = some (.int .i64 a3_2) := B.bc BK498 2
              have hcz25_3 : wr.cell? ⟨gb498, 3, none⟩ = some (.slice A3_3 l3_3.length c3_3) := B.bc BK498 3
              have hfz25_0 := blk_frozen BK498.out 0
              have hfz25_1 := blk_frozen BK498.out 1
              have hfz25_2 := blk_frozen BK498.out 2
              have hfz25_3 := blk_frozen BK498.out 3
              have hcz26_0 : wr.cell? ⟨gb497, 0, none⟩ = some (.int .i64 a0_0) := B.bc BK497 0
              have hcz26_1 : wr.cell? ⟨gb497, 1, none⟩ = some (.int .i64 a0_1) := B.bc BK497 1
              have hcz26_2 : wr.cell? ⟨gb497, 2, none⟩ = some (.int .i64 a0_2) := B.bc BK497 2
              have hcz26_3 : wr.cell? ⟨gb497, 3, none⟩ = some (.slice Ao5 x498003_2.length co5) := B.bc BK497 3
              have hfz26_0 := blk_frozen BK497.out 0
              have hfz26_1 := blk_frozen BK497.out 1
              have hfz26_2 := blk_frozen BK497.out 2
              have hfz26_3 := blk_frozen BK497.out 3
              go_wp2_with (first | ((with_reducible refine gate_callee (f := 56) rfl ?_); refine goesL_ (some 29) rfl rfl Try.func56 (by kernel_rfl) rfl #[.agg #[.int .i64 a0_0, .int .i64 a0_1, .int .i64 a0_2, .slice Ao5 x498003_2.length co5], .int .i64 (wrap64 (a1 + x9_2)), .int .i64 (wrap64 (a2 + x8_1))] rfl B.am ?_; (with_reducible refine (spec_onImage.calls a0_0 a0_1 a0_2 _ _ x498003_2 (wrap64 (a1 + x9_2)) (wrap64 (a2 + x8_1)) false _ ?side1 ?side2 A12.out).mono ?_); (case side1 => exact B.kc ((Kd.R_reads' HO_498003.out).2.2)); (case side2 => exact (Kd.R_reads' HO_498003.out).2.1); rintro e w27 ⟨rfl, hb⟩; refine ⟨_, rfl, ?_⟩; have n0_ := Aside0.mk (Kd.R_below (B.kr HO_498003) hb); have n1_ := Aside0.mk (blk_below (B.kb BK497) hb); have n2_ := Aside0.mk (blk_below (B.kb BK498) hb); have n3_ := Aside0.mk (Kept.below (S := (fun k_ => P0_3_ k_)) (by repeat (first | (with_reducible first | exact HK.out | apply Kept.alloc | apply Kept.drewN | apply Kept.drew | refine Kept.setCell ?_ (.inr GW497.out) _ | refine Kept.setCell ?_ (.inr GW498.out) _) | exact HK.out)) hb); have n4_ := Aside0.mk (below_step (B.bl HB) hb); clear HO_498003 BK497 BK498 HK HB; have HO_498003 := n0_; have BK497 := n1_; have BK498 := n2_; have HK := n3_; have HB := n4_; clear n0_ n1_ n2_ n3_ n4_; (try clear hb); (try clear hb2); (try clear hk); (try clear hi)))
              (try simp only [← hl498003_2])
              go_roundg k2
              case measure => have := HK1.out; have := HK2.out; omega
              case rel => exact ⟨(wrap64 (x9_2 + 1)), (x498003_2), (by first | rfl | (simp; done) | (simp [*]; done)), H', ⟨by have := HK1.out; have := HK2.out; omega⟩, ⟨by (try simp only [hl498003_1]); (try simp only [hl498003_2]); (with_reducible repeat (first | apply Kd.R_alloc | apply Kd.R_drewN | apply Kd.R_drew)); exact HO_498003.out⟩, ⟨by (try simp only [hl498003_1]); (try simp only [hl498003_2]); (with_reducible repeat (first | refine blk_drewN ?_ _ | refine blk_drew ?_ | refine blk_alloc ?_ _)); exact BK497.out⟩, ⟨by (try simp only [hl498003_1]); (try simp only [hl498003_2]); (with_reducible repeat (first | refine blk_drewN ?_ _ | refine blk_drew ?_ | refine blk_alloc ?_ _)); exact BK498.out⟩, ⟨by repeat (first | (with_reducible first | exact HK.out | apply Kept.alloc | apply Kept.drewN | apply Kept.drew | refine Kept.setCell ?_ (.inr GW497.out) _ | refine Kept.setCell ?_ (.inr GW498.out) _) | exact HK.out)⟩, ⟨B.bl HB⟩⟩
            rw [if_neg c11] at H
            have c11b0 : decide (x9_2 < a3_0) = false := decide_eq_false c11
            clear c11
            have H' := Aside0.mk H
            clear H
            have hnb28 := NB498_497.out
            have hnc28 := NB497_498.out
            have hcz29_0 : wr.cell? ⟨gb498, 0, none⟩ = some (.int .i64 a3_0) := B.bc BK498 0
            have hcz29_1 : wr.cell? ⟨gb498, 1, none⟩ = some (.int .i64 a3_1) := B.bc BK498 1
            have hcz29_2 : wr.cell? ⟨gb498, 2, none⟩ = some (.int .i64 a3_2) := B.bc BK498 2
            have hcz29_3 : wr.cell? ⟨gb498, 3, none⟩ = some (.slice A3_3 l3_3.length c3_3) := B.bc BK498 3
            have hfz29_0 := blk_frozen BK498.out 0
            have hfz29_1 := blk_frozen BK498.out 1
            have hfz29_2 := blk_frozen BK498.out 2
            have hfz29_3 := blk_frozen BK498.out 3
            go_wp2
            (try simp only [← hl498003_1, ← hl498003_2])
            go_roundg k2
            case measure => have := HK1.out; have := HK2.out; omega
            case rel => exact ⟨(wrap64 (x8_1 + 1)), (x498003_2), (by first | rfl | (simp; done) | (simp [*]; done)), H', ⟨by have := HK1.out; have := HK2.out; omega⟩, ⟨by (try simp only [hl498003_1]); (try simp only [hl498003_2]); (with_reducible repeat (first | apply Kd.R_alloc | apply Kd.R_drewN | apply Kd.R_drew)); exact HO_498003.out⟩, ⟨by (try simp only [hl498003_1]); (try simp only [hl498003_2]); (with_reducible repeat (first | refine blk_drewN ?_ _ | refine blk_drew ?_ | refine blk_alloc ?_ _)); exact BK497.out⟩, ⟨by (try simp only [hl498003_1]); (try simp only [hl498003_2]); (with_reducible repeat (first | refine blk_drewN ?_ _ | refine blk_drew ?_ | refine blk_alloc ?_ _)); exact BK498.out⟩, ⟨by repeat (first | (with_reducible first | exact HK.out | apply Kept.alloc | apply Kept.drewN | apply Kept.drew | refine Kept.setCell ?_ (.inr GW497.out) _ | refine Kept.setCell ?_ (.inr GW498.out) _) | exact HK.out)⟩, ⟨B.bl HB⟩⟩
      rw [if_neg c8] at H
      have c8b0 : decide (x8_1 < a3_1) = false := decide_eq_false c8
      clear c8
      obtain rfl := Option.some.inj H
      simp only [Option.some.injEq, Prod.mk.injEq] at H
      obtain ⟨rfl⟩ := H
      have hnb30 := NB498_497.out
      have hnc30 := NB497_498.out
      have hcz31_0 : wr.cell? ⟨gb498, 0, none⟩ = some (.int .i64 a3_0) := B.bc BK498 0
      have hcz31_1 : wr.cell? ⟨gb498, 1, none⟩ = some (.int .i64 a3_1) := B.bc BK498 1
      have hcz31_2 : wr.cell? ⟨gb498, 2, none⟩ = some (.int .i64 a3_2) := B.bc BK498 2
      have hcz31_3 : wr.cell? ⟨gb498, 3, none⟩ = some (.slice A3_3 l3_3.length c3_3) := B.bc BK498 3
      have hfz31_0 := blk_frozen BK498.out 0
      have hfz31_1 := blk_frozen BK498.out 1
      have hfz31_2 := blk_frozen BK498.out 2
      have hfz31_3 := blk_frozen BK498.out 3
      go_wp2
      first | go_end0 | ((try simp only [Exit.inBlock, Exit.then]); refine bodyPost_ret (results_none rfl _ _ _) rfl ?_)
      exact ⟨by first | rfl | (simp [errW_none, errW_some] <;> rfl) | (simp [*, errW_none, errW_some] <;> rfl), (by first | exact (B.kr HO_498003) | (simp only [hl498003_1]; exact (B.kr HO_498003))), B.bl HB, by repeat (first | (with_reducible first | exact HK.out | apply Kept.alloc | apply Kept.drewN | apply Kept.drew | refine Kept.setCell ?_ (.inr GW497.out) _ | refine Kept.setCell ?_ (.inr GW498.out) _) | exact HK.out)⟩

/-! ### spec_PasteImage: function 21 -/
def spec_PasteImage.j0 : Nat → Int → Int → Bool → Int → Int → Int → List Int → Int → Int → Int → List Int → Option (Int × Int × Int × List Int × Bool)
  | 0, _, _, _, _, _, _, _, _, _, _, _ => none
  | k + 1, x1, x2, x35, x505000, x505001, x505002, x505003, x506000, x506001, x506002, x506003 => if x35 = true then (some (0, 0, 0, ([] : List Int), false)) else ((spec_copyImage.f x505000 x505001 x505002 x505003).bind fun bt511 => ((spec_paste.f k bt511.1 bt511.2.1 bt511.2.2.1 bt511.2.2.2 x1 x2 x506000 x506001 x506002 x506003).bind fun t518 => (some (bt511.1, bt511.2.1, bt511.2.2.1, t518, true))))
def spec_PasteImage.f (k : Nat) (a0_0 : Int) (a0_1 : Int) (a0_2 : Int) (l0_3 : List Int) (a1 : Int) (a2 : Int) (a3_0 : Int) (a3_1 : Int) (a3_2 : Int) (l3_3 : List Int) : Option (Int × Int × Int × List Int × Bool) := (spec_validImage.f k a0_0 a0_1 a0_2 l0_3).bind fun t507 => (if t507 = true then ((spec_validImage.f k a3_0 a3_1 a3_2 l3_3).bind fun t508 => (if t508 = true then (if a0_2 = a3_2 then ((spec_inRange.f a1 (-16) 16).bind fun t509 => (if t509 = true then ((spec_inRange.f a2 (-16) 16).bind fun t510 => (spec_PasteImage.j0 k a1 a2 (!t510) a0_0 a0_1 a0_2 l0_3 a3_0 a3_1 a3_2 l3_3)) else (spec_PasteImage.j0 k a1 a2 true a0_0 a0_1 a0_2 l0_3 a3_0 a3_1 a3_2 l3_3))) else (spec_PasteImage.j0 k a1 a2 true a0_0 a0_1 a0_2 l0_3 a3_0 a3_1 a3_2 l3_3)) else (spec_PasteImage.j0 k a1 a2 true a0_0 a0_1 a0_2 l0_3 a3_0 a3_1 a3_2 l3_3))) else (spec_PasteImage.j0 k a1 a2 true a0_0 a0_1 a0_2 l0_3 a3_0 a3_1 a3_2 l3_3))
theorem spec_PasteImage.mono_l : ∀ k, (∀ y0 y1 y2 y3 y4 y5 y6 y7 y8 y9 y10, LeO (spec_PasteImage.j0 k y0 y1 y2 y3 y4 y5 y6 y7 y8 y9 y10) (spec_PasteImage.j0 (k + 1) y0 y1 y2 y3 y4 y5 y6 y7 y8 y9 y10))
  | 0 => fun _ _ _ _ _ _ _ _ _ _ _ r h => by simp [spec_PasteImage.j0] at h
  | k + 1 => by
    have ih0 := spec_PasteImage.mono_l k
    · intro y0 y1 y2 y3 y4 y5 y6 y7 y8 y9 y10
      unfold spec_PasteImage.j0
      repeat' first
      | (with_reducible exact ih0 _ _ _ _ _ _ _ _ _ _ _)
      | (with_reducible exact spec_paste.mono _ _ _ _ _ _ _ _ _ _ _)
      | (with_reducible exact spec_validImage.mono _ _ _ _ _)
      | (with_reducible exact LeO.refl _)
      | (with_reducible exact LeO.none _)
      | (with_reducible refine LeO.ite ?_ ?_)
      | (with_reducible refine LeO.bind ?_ (fun _ => ?_))
      | exact ih0 _ _ _ _ _ _ _ _ _ _ _
      | exact spec_paste.mono _ _ _ _ _ _ _ _ _ _ _
      | exact spec_validImage.mono _ _ _ _ _
      | exact LeO.none _
      | refine LeO.ite ?_ ?_
      | refine LeO.bind ?_ (fun _ => ?_)
theorem spec_PasteImage.mono : ∀ a0 a1 a2 a3 a4 a5 a6 a7 a8 a9 k, LeO (spec_PasteImage.f k a0 a1 a2 a3 a4 a5 a6 a7 a8 a9) (spec_PasteImage.f (k + 1) a0 a1 a2 a3 a4 a5 a6 a7 a8 a9) := by
  intro a0 a1 a2 a3 a4 a5 a6 a7 a8 a9 k
  have ih0 := spec_PasteImage.mono_l k
  unfold spec_PasteImage.f
  repeat' first
      | (with_reducible exact ih0 _ _ _ _ _ _ _ _ _ _ _)
      | (with_reducible exact spec_paste.mono _ _ _ _ _ _ _ _ _ _ _)
      | (with_reducible exact spec_validImage.mono _ _ _ _ _)
      | (with_reducible exact LeO.refl _)
      | (with_reducible exact LeO.none _)
      | (with_reducible refine LeO.ite ?_ ?_)
      | (with_reducible refine LeO.bind ?_ (fun _ => ?_))
      | exact ih0 _ _ _ _ _ _ _ _ _ _ _
      | exact spec_paste.mono _ _ _ _ _ _ _ _ _ _ _
      | exact spec_validImage.mono _ _ _ _ _
      | exact LeO.none _
      | refine LeO.ite ?_ ?_
      | refine LeO.bind ?_ (fun _ => ?_)
set_option maxHeartbeats 8000000 in
set_option maxRecDepth 100000 in
theorem spec_PasteImage.calls (k : Nat) (a0_0 : Int) (a0_1 : Int) (a0_2 : Int) (A0_3 : Option Addr) (c0_3 : Nat) (l0_3 : List Int) (a1 : Int) (a2 : Int) (a3_0 : Int) (a3_1 : Int) (a3_2 : Int) (A3_3 : Option Addr) (c3_3 : Nat) (l3_3 : List Int) (r1 : Int) (r2 : Int) (r3 : Int) (r4 : List Int) (r5 : Bool) (w : World) (hr0_3 : Kd.C (Kd.int .i64) w A0_3 l0_3.length l0_3) (hc0_3 : l0_3.length ≤ c0_3) (hr3_3 : Kd.C (Kd.int .i64) w A3_3 l3_3.length l3_3) (hc3_3 : l3_3.length ≤ c3_3) (h : spec_PasteImage.f k a0_0 a0_1 a0_2 l0_3 a1 a2 a3_0 a3_1 a3_2 l3_3 = some (r1, r2, r3, r4, r5)) :
    Calls Try.prog 21 #[.agg #[.int .i64 a0_0, .int .i64 a0_1, .int .i64 a0_2, .slice A0_3 l0_3.length c0_3], .int .i64 a1, .int .i64 a2, .agg #[.int .i64 a3_0, .int .i64 a3_1, .int .i64 a3_2, .slice A3_3 l3_3.length c3_3]] w fun e w' => ∃ v3_ : Value, e = .returned (.tuple #[.agg #[.int .i64 r1, .int .i64 r2, .int .i64 r3, v3_], .bool r5]) ∧ Kd.R (Kd.int .i64) 3 w' w.heap.size (fun _ => True) v3_ r4 ∧ Below w.heap.size w w' := by
  have hu28 := Try.underlying28
  have HR0_3 := Aside0.mk hr0_3
  have HC0_3 := Aside0.mk hc0_3
  clear hr0_3 hc0_3
  have HR3_3 := Aside0.mk hr3_3
  have HC3_3 := Aside0.mk hc3_3
  clear hr3_3 hc3_3
  have HB := Aside0.mk (Below.refl w.heap.size w)
  have H : ((spec_validImage.f k a0_0 a0_1 a0_2 l0_3).bind fun t507 => (if t507 = true then ((spec_validImage.f k a3_0 a3_1 a3_2 l3_3).bind fun t508 => (if t508 = true then (if a0_2 = a3_2 then ((spec_inRange.f a1 (-16) 16).bind fun t509 => (if t509 = true then ((spec_inRange.f a2 (-16) 16).bind fun t510 => (spec_PasteImage.j0 k a1 a2 (!t510) a0_0 a0_1 a0_2 l0_3 a3_0 a3_1 a3_2 l3_3)) else (spec_PasteImage.j0 k a1 a2 true a0_0 a0_1 a0_2 l0_3 a3_0 a3_1 a3_2 l3_3))) else (spec_PasteImage.j0 k a1 a2 true a0_0 a0_1 a0_2 l0_3 a3_0 a3_1 a3_2 l3_3)) else (spec_PasteImage.j0 k a1 a2 true a0_0 a0_1 a0_2 l0_3 a3_0 a3_1 a3_2 l3_3))) else (spec_PasteImage.j0 k a1 a2 true a0_0 a0_1 a0_2 l0_3 a3_0 a3_1 a3_2 l3_3))) = some (r1, r2, r3, r4, r5) := h
  clear h
  have HC5 := Aside0.mk H
  clear H
  go_enter Try.func21, Try.ntmps21
  go_upto_region 1 with (first | ((with_reducible refine gate_dst (N := 4) rfl ?_); refine box_event ?hg (N := 4) ?hd (cs := #[.int .i64 a0_0, .int .i64 a0_1, .int .i64 a0_2, .slice A0_3 l0_3.length c0_3]) (t := 28) ?hr ?_; (case hd => rfl); (case hg => rfl); (case hr => first | (go_simp; done) | (go_simp; rfl)); intro gb504 hg w6 hbox hb; have n0_ := Aside0.mk (below_step (B.bl HB) hb); have n1_ := Aside0.mk (hbox); have n2_ := Aside0.mk (B.nle hg (below_size (B.bl HB))); have n3_ := Aside0.mk (B.nle hg (below_size (B.bl HB))); clear HB; have HB := n0_; have BK504 := n1_; have GW504 := n2_; have GE504 := n3_; clear n0_ n1_ n2_ n3_; clear hb hbox hg) | ((with_reducible refine gate_dst (N := 7) rfl ?_); refine box_event ?hg (N := 7) ?hd (cs := #[.int .i64 a3_0, .int .i64 a3_1, .int .i64 a3_2, .slice A3_3 l3_3.length c3_3]) (t := 28) ?hr ?_; (case hd => rfl); (case hg => rfl); (case hr => first | (go_simp; done) | (go_simp; rfl)); intro gb505 hg w7 hbox hb; have n0_ := Aside0.mk (blk_below (B.kb BK504) hb); have n1_ := Aside0.mk (below_step (B.bl HB) hb); have n2_ := Aside0.mk (hbox); have n3_ := Aside0.mk (B.nle hg (below_size (B.bl HB))); have n4_ := Aside0.mk (B.nle hg (below_size (B.bl HB))); have n5_ := Aside0.mk (B.nlt hg (blk_lt (B.kb BK504))); have n6_ := Aside0.mk (B.ngt hg (blk_lt (B.kb BK504))); clear BK504 HB; have BK504 := n0_; have HB := n1_; have BK505 := n2_; have GW505 := n3_; have GE505 := n4_; have NB504_505 := n5_; have NB505_504 := n6_; clear n0_ n1_ n2_ n3_ n4_ n5_ n6_; clear hb hbox hg) | ((with_reducible refine gate_dst (N := 8) rfl ?_); refine box_event ?hg (N := 8) ?hd (cs := #[.int .i64 0, .int .i64 0, .int .i64 0, .slice none 0 0]) (t := 28) ?hr ?_; (case hd => rfl); (case hg => rfl); (case hr => first | (go_simp; done) | (go_simp; rfl)); intro gb506 hg w8 hbox hb; have n0_ := Aside0.mk (blk_below (B.kb BK504) hb); have n1_ := Aside0.mk (blk_below (B.kb BK505) hb); have n2_ := Aside0.mk (below_step (B.bl HB) hb); have n3_ := Aside0.mk (hbox); have n4_ := Aside0.mk (B.nle hg (below_size (B.bl HB))); have n5_ := Aside0.mk (B.nle hg (below_size (B.bl HB))); have n6_ := Aside0.mk (B.nlt hg (blk_lt (B.kb BK504))); have n7_ := Aside0.mk (B.ngt hg (blk_lt (B.kb BK504))); have n8_ := Aside0.mk (B.nlt hg (blk_lt (B.kb BK505))); have n9_ := Aside0.mk (B.ngt hg (blk_lt (B.kb BK505))); clear BK504 BK505 HB; have BK504 := n0_; have BK505 := n1_; have HB := n2_; have BK506 := n3_; have GW506 := n4_; have GE506 := n5_; have NB504_506 := n6_; have NB506_504 := n7_; have NB505_506 := n8_; have NB506_505 := n9_; clear n0_ n1_ n2_ n3_ n4_ n5_ n6_ n7_ n8_ n9_; clear hb hbox hg))
  (try simp only [Act.put, List.setIfInBounds_toArray, List.set_cons_zero, List.set_cons_succ])
  go_cut [35] (fun v35 wc => ∃ (kq : Nat) (x35_4 : Bool), v35 = .bool x35_4 ∧ Aside0 (spec_PasteImage.j0 kq a1 a2 x35_4 a0_0 a0_1 a0_2 l0_3 a3_0 a3_1 a3_2 l3_3 = some (r1, r2, r3, r4, r5)) ∧ Aside0 (kq ≤ k) ∧ Aside0 (wc.heap[gb504]? = some (.cells #[.int .i64 a0_0, .int .i64 a0_1, .int .i64 a0_2, (.slice A0_3 l0_3.length c0_3)] 28 (0, 0))) ∧ Aside0 (wc.heap[gb505]? = some (.cells #[.int .i64 a3_0, .int .i64 a3_1, .int .i64 a3_2, (.slice A3_3 l3_3.length c3_3)] 28 (0, 0))) ∧ Aside0 (wc.heap[gb506]? = some (.cells #[.int .i64 0, .int .i64 0, .int .i64 0, (.slice none 0 0)] 28 (0, 0))) ∧ Aside0 (Below w.heap.size w wc))
  case first =>
    have H := HC5.out
    clear HC5
    replace H := Option.bind_eq_some_iff.mp H
    obtain ⟨t507, A90, H⟩ := H
    replace H : (if t507 = true then ((spec_validImage.f k a3_0 a3_1 a3_2 l3_3).bind fun t508 => (if t508 = true then (if a0_2 = a3_2 then ((spec_inRange.f a1 (-16) 16).bind fun t509 => (if t509 = true then ((spec_inRange.f a2 (-16) 16).bind fun t510 => (spec_PasteImage.j0 k a1 a2 (!t510) a0_0 a0_1 a0_2 l0_3 a3_0 a3_1 a3_2 l3_3)) else (spec_PasteImage.j0 k a1 a2 true a0_0 a0_1 a0_2 l0_3 a3_0 a3_1 a3_2 l3_3))) else (spec_PasteImage.j0 k a1 a2 true a0_0 a0_1 a0_2 l0_3 a3_0 a3_1 a3_2 l3_3)) else (spec_PasteImage.j0 k a1 a2 true a0_0 a0_1 a0_2 l0_3 a3_0 a3_1 a3_2 l3_3))) else (spec_PasteImage.j0 k a1 a2 true a0_0 a0_1 a0_2 l0_3 a3_0 a3_1 a3_2 l3_3)) = some (r1, r2, r3, r4, r5) := H
    have A9 := Aside0.mk A90
    clear A90
    by_cases c10 : t507 = true
    · subst c10
      have H1 : ((spec_validImage.f k a3_0 a3_1 a3_2 l3_3).bind fun t508 => (if t508 = true then (if a0_2 = a3_2 then ((spec_inRange.f a1 (-16) 16).bind fun t509 => (if t509 = true then ((spec_inRange.f a2 (-16) 16).bind fun t510 => (spec_PasteImage.j0 k a1 a2 (!t510) a0_0 a0_1 a0_2 l0_3 a3_0 a3_1 a3_2 l3_3)) else (spec_PasteImage.j0 k a1 a2 true a0_0 a0_1 a0_2 l0_3 a3_0 a3_1 a3_2 l3_3))) else (spec_PasteImage.j0 k a1 a2 true a0_0 a0_1 a0_2 l0_3 a3_0 a3_1 a3_2 l3_3)) else (spec_PasteImage.j0 k a1 a2 true a0_0 a0_1 a0_2 l0_3 a3_0 a3_1 a3_2 l3_3))) = some (r1, r2, r3, r4, r5) := by rw [if_pos rfl] at H; exact H
      clear H
      have H := H1
      clear H1
      replace H := Option.bind_eq_some_iff.mp H
      obtain ⟨t508, A110, H⟩ := H
      replace H : (if t508 = true then (if a0_2 = a3_2 then ((spec_inRange.f a1 (-16) 16).bind fun t509 => (if t509 = true then ((spec_inRange.f a2 (-16) 16).bind fun t510 => (spec_PasteImage.j0 k a1 a2 (!t510) a0_0 a0_1 a0_2 l0_3 a3_0 a3_1 a3_2 l3_3)) else (spec_PasteImage.j0 k a1 a2 true a0_0 a0_1 a0_2 l0_3 a3_0 a3_1 a3_2 l3_3))) else (spec_PasteImage.j0 k a1 a2 true a0_0 a0_1 a0_2 l0_3 a3_0 a3_1 a3_2 l3_3)) else (spec_PasteImage.j0 k a1 a2 true a0_0 a0_1 a0_2 l0_3 a3_0 a3_1 a3_2 l3_3)) = some (r1, r2, r3, r4, r5) := H
      have A11 := Aside0.mk A110
      clear A110
      by_cases c12 : t508 = true
      · subst c12
        have H1 : (if a0_2 = a3_2 then ((spec_inRange.f a1 (-16) 16).bind fun t509 => (if t509 = true then ((spec_inRange.f a2 (-16) 16).bind fun t510 => (spec_PasteImage.j0 k a1 a2 (!t510) a0_0 a0_1 a0_2 l0_3 a3_0 a3_1 a3_2 l3_3)) else (spec_PasteImage.j0 k a1 a2 true a0_0 a0_1 a0_2 l0_3 a3_0 a3_1 a3_2 l3_3))) else (spec_PasteImage.j0 k a1 a2 true a0_0 a0_1 a0_2 l0_3 a3_0 a3_1 a3_2 l3_3)) = some (r1, r2, r3, r4, r5) := by rw [if_pos rfl] at H; exact H
        clear H
        have H := H1
        clear H1
        by_cases c13 : a0_2 = a3_2
        · rw [if_pos c13] at H
          have c13b0 : (a0_2 == a3_2) = true := beq_iff_eq.mpr c13
          have c13b1 : (a0_2 != a3_2) = false := bne_eq_false_iff_eq.mpr c13
          clear c13
          (first | rw [c13b0] | (simp only [i64_w, i32_w]; rw [c13b0]) | skip)
          replace H := Option.bind_eq_some_iff.mp H
          obtain ⟨t509, A140, H⟩ := H
          replace H : (if t509 = true then ((spec_inRange.f a2 (-16) 16).bind fun t510 => (spec_PasteImage.j0 k a1 a2 (!t510) a0_0 a0_1 a0_2 l0_3 a3_0 a3_1 a3_2 l3_3)) else (spec_PasteImage.j0 k a1 a2 true a0_0 a0_1 a0_2 l0_3 a3_0 a3_1 a3_2 l3_3)) = some (r1, r2, r3, r4, r5) := H
          have A14 := Aside0.mk A140
          clear A140
          by_cases c15 : t509 = true
          · subst c15
            have H1 : ((spec_inRange.f a2 (-16) 16).bind fun t510 => (spec_PasteImage.j0 k a1 a2 (!t510) a0_0 a0_1 a0_2 l0_3 a3_0 a3_1 a3_2 l3_3)) = some (r1, r2, r3, r4, r5) := by rw [if_pos rfl] at H; exact H
            clear H
            have H := H1
            clear H1
            replace H := Option.bind_eq_some_iff.mp H
            obtain ⟨t510, A160, H⟩ := H
            replace H : (spec_PasteImage.j0 k a1 a2 (!t510) a0_0 a0_1 a0_2 l0_3 a3_0 a3_1 a3_2 l3_3) = some (r1, r2, r3, r4, r5) := H
            have A16 := Aside0.mk A160
            clear A160
            have H' := Aside0.mk H
            clear H
            have hnb17 := NB504_505.out
            have hnc17 := NB505_504.out
            have hnb18 := NB504_506.out
            have hnc18 := NB506_504.out
            have hcz19_0 : w8.cell? ⟨gb504, 0, none⟩ = some (.int .i64 a0_0) := B.bc BK504 0
            have hcz19_1 : w8.cell? ⟨gb504, 1, none⟩ = some (.int .i64 a0_1) := B.bc BK504 1
            have hcz19_2 : w8.cell? ⟨gb504, 2, none⟩ = some (.int .i64 a0_2) := B.bc BK504 2
            have hcz19_3 : w8.cell? ⟨gb504, 3, none⟩ = some (.slice A0_3 l0_3.length c0_3) := B.bc BK504 3
            have hfz19_0 := blk_frozen BK504.out 0
            have hfz19_1 := blk_frozen BK504.out 1
            have hfz19_2 := blk_frozen BK504.out 2
            have hfz19_3 := blk_frozen BK504.out 3
            go_wp2_with (first | ((with_reducible refine gate_callee (f := 24) rfl ?_); refine goesL_ (some 12) rfl rfl Try.func24 (by kernel_rfl) rfl #[.agg #[.int .i64 a0_0, .int .i64 a0_1, .int .i64 a0_2, .slice A0_3 l0_3.length c0_3]] rfl B.am ?_; (with_reducible refine (spec_validImage.calls k a0_0 a0_1 a0_2 _ _ l0_3 true _ ?side1 ?side2 A9.out).mono ?_); (case side1 => exact B.kc (Kd.C_below HR0_3.out HB.out)); (case side2 => exact HC0_3.out); rintro e w20 ⟨rfl, hb⟩; refine ⟨_, rfl, ?_⟩; have n0_ := Aside0.mk (blk_below (B.kb BK504) hb); have n1_ := Aside0.mk (blk_below (B.kb BK505) hb); have n2_ := Aside0.mk (blk_below (B.kb BK506) hb); have n3_ := Aside0.mk (below_step (B.bl HB) hb); clear BK504 BK505 BK506 HB; have BK504 := n0_; have BK505 := n1_; have BK506 := n2_; have HB := n3_; clear n0_ n1_ n2_ n3_; (try clear hb); (try clear hb2); (try clear hk); (try clear hi); have hnb21 := NB505_506.out; have hnc21 := NB506_505.out; have hcz22_0 : w20.cell? ⟨gb505, 0, none⟩ = some (.int .i64 a3_0) := B.bc BK505 0; have hcz22_1 : w20.cell? ⟨gb505, 1, none⟩ = some (.int .i64 a3_1) := B.bc BK505 1; have hcz22_2 : w20.cell? ⟨gb505, 2, none⟩ = some (.int .i64 a3_2) := B.bc BK505 2; have hcz22_3 : w20.cell? ⟨gb505, 3, none⟩ = some (.slice A3_3 l3_3.length c3_3) := B.bc BK505 3; have hfz22_0 := blk_frozen BK505.out 0; have hfz22_1 := blk_frozen BK505.out 1; have hfz22_2 := blk_frozen BK505.out 2; have hfz22_3 := blk_frozen BK505.out 3) | (go_at_call 24; (with_reducible refine (spec_validImage.calls k a3_0 a3_1 a3_2 _ _ l3_3 true _ ?side1 ?side2 A11.out).mono ?_); (case side1 => exact B.kc (Kd.C_below HR3_3.out HB.out)); (case side2 => exact HC3_3.out); rintro e w23 ⟨rfl, hb⟩; have n0_ := Aside0.mk (blk_below (B.kb BK504) hb); have n1_ := Aside0.mk (blk_below (B.kb BK505) hb); have n2_ := Aside0.mk (blk_below (B.kb BK506) hb); have n3_ := Aside0.mk (below_step (B.bl HB) hb); clear BK504 BK505 BK506 HB; have BK504 := n0_; have BK505 := n1_; have BK506 := n2_; have HB := n3_; clear n0_ n1_ n2_ n3_; (try clear hb); (try clear hb2); (try clear hk); (try clear hi); have hcz24_0 : w23.cell? ⟨gb504, 0, none⟩ = some (.int .i64 a0_0) := B.bc BK504 0; have hcz24_1 : w23.cell? ⟨gb504, 1, none⟩ = some (.int .i64 a0_1) := B.bc BK504 1; have hcz24_2 : w23.cell? ⟨gb504, 2, none⟩ = some (.int .i64 a0_2) := B.bc BK504 2; have hcz24_3 : w23.cell? ⟨gb504, 3, none⟩ = some (.slice A0_3 l0_3.length c0_3) := B.bc BK504 3; have hfz24_0 := blk_frozen BK504.out 0; have hfz24_1 := blk_frozen BK504.out 1; have hfz24_2 := blk_frozen BK504.out 2; have hfz24_3 := blk_frozen BK504.out 3; have hcz25_0 : w23.cell? ⟨gb505, 0, none⟩ = some (.int .i64 a3_0) := B.bc BK505 0; have hcz25_1 : w23.cell? ⟨gb505, 1, none⟩ = some (.int .i64 a3_1) := B.bc BK505 1; have hcz25_2 : w23.cell? ⟨gb505, 2, none⟩ = some (.int .i64 a3_2) := B.bc BK505 2; have hcz25_3 : w23.cell? ⟨gb505, 3, none⟩ = some (.slice A3_3 l3_3.length c3_3) := B.bc BK505 3; have hfz25_0 := blk_frozen BK505.out 0; have hfz25_1 := blk_frozen BK505.out 1; have hfz25_2 := blk_frozen BK505.out 2; have hfz25_3 := blk_frozen BK505.out 3) | (go_at_call 40; (with_reducible refine (spec_inRange.calls a1 (-16) 16 true _ A14.out).mono ?_); rintro e w' ⟨rfl, ⟨nd, rfl⟩⟩) | (go_at_call 40; (with_reducible refine (spec_inRange.calls a2 (-16) 16 t510 _ A16.out).mono ?_); rintro e w' ⟨rfl, ⟨nd, rfl⟩⟩))
            go_meet
            case rel => exact ⟨_, (!t510), (by first | rfl | (simp; done) | (simp [*]; done)), H', ⟨by first | omega | exact Nat.le_refl _⟩, ⟨B.kb BK504⟩, ⟨B.kb BK505⟩, ⟨B.kb BK506⟩, ⟨B.bl HB⟩⟩
          replace c15 := Bool.eq_false_iff.mpr c15
          subst c15
          have H1 : (spec_PasteImage.j0 k a1 a2 true a0_0 a0_1 a0_2 l0_3 a3_0 a3_1 a3_2 l3_3) = some (r1, r2, r3, r4, r5) := by rw [if_neg (show ¬ (false = true) by decide)] at H; exact H
          clear H
          have H := H1
          clear H1
          have H' := Aside0.mk H
          clear H
          have hnb26 := NB504_505.out
          have hnc26 := NB505_504.out
          have hnb27 := NB504_506.out
          have hnc27 := NB506_504.out
          have hcz28_0 : w8.cell? ⟨gb504, 0, none⟩ = some (.int .i64 a0_0) := B.bc BK504 0
          have hcz28_1 : w8.cell? ⟨gb504, 1, none⟩ = some (.int .i64 a0_1) := B.bc BK504 1
          have hcz28_2 : w8.cell? ⟨gb504, 2, none⟩ = some (.int .i64 a0_2) := B.bc BK504 2
          have hcz28_3 : w8.cell? ⟨gb504, 3, none⟩ = some (.slice A0_3 l0_3.length c0_3) := B.bc BK504 3
          have hfz28_0 := blk_frozen BK504.out 0
          have hfz28_1 := blk_frozen BK504.out 1
          have hfz28_2 := blk_frozen BK504.out 2
          have hfz28_3 := blk_frozen BK504.out 3
          go_wp2_with (first | ((with_reducible refine gate_callee (f := 24) rfl ?_); refine goesL_ (some 12) rfl rfl Try.func24 (by kernel_rfl) rfl #[.agg #[.int .i64 a0_0, .int .i64 a0_1, .int .i64 a0_2, .slice A0_3 l0_3.length c0_3]] rfl B.am ?_; (with_reducible refine (spec_validImage.calls k a0_0 a0_1 a0_2 _ _ l0_3 true _ ?side1 ?side2 A9.out).mono ?_); (case side1 => exact B.kc (Kd.C_below HR0_3.out HB.out)); (case side2 => exact HC0_3.out); rintro e w29 ⟨rfl, hb⟩; refine ⟨_, rfl, ?_⟩; have n0_ := Aside0.mk (blk_below (B.kb BK504) hb); have n1_ := Aside0.mk (blk_below (B.kb BK505) hb); have n2_ := Aside0.mk (blk_below (B.kb BK506) hb); have n3_ := Aside0.mk (below_step (B.bl HB) hb); clear BK504 BK505 BK506 HB; have BK504 := n0_; have BK505 := n1_; have BK506 := n2_; have HB := n3_; clear n0_ n1_ n2_ n3_; (try clear hb); (try clear hb2); (try clear hk); (try clear hi); have hnb30 := NB505_506.out; have hnc30 := NB506_505.out; have hcz31_0 : w29.cell? ⟨gb505, 0, none⟩ = some (.int .i64 a3_0) := B.bc BK505 0; have hcz31_1 : w29.cell? ⟨gb505, 1, none⟩ = some (.int .i64 a3_1) := B.bc BK505 1; have hcz31_2 : w29.cell? ⟨gb505, 2, none⟩ = some (.int .i64 a3_2) := B.bc BK505 2; have hcz31_3 : w29.cell? ⟨gb505, 3, none⟩ = some (.slice A3_3 l3_3.length c3_3) := B.bc BK505 3; have hfz31_0 := blk_frozen BK505.out 0; have hfz31_1 := blk_frozen BK505.out 1; have hfz31_2 := blk_frozen BK505.out 2; have hfz31_3 := blk_frozen BK505.out 3) | (go_at_call 24; (with_reducible refine (spec_validImage.calls k a3_0 a3_1 a3_2 _ _ l3_3 true _ ?side1 ?side2 A11.out).mono ?_); (case side1 => exact B.kc (Kd.C_below HR3_3.out HB.out)); (case side2 => exact HC3_3.out); rintro e w32 ⟨rfl, hb⟩; have n0_ := Aside0.mk (blk_below (B.kb BK504) hb); have n1_ := Aside0.mk (blk_below (B.kb BK505) hb); have n2_ := Aside0.mk (blk_below (B.kb BK506) hb); have n3_ := Aside0.mk (below_step (B.bl HB) hb); clear BK504 BK505 BK506 HB; have BK504 := n0_; have BK505 := n1_; have BK506 := n2_; have HB := n3_; clear n0_ n1_ n2_ n3_; (try clear hb); (try clear hb2); (try clear hk); (try clear hi); have hcz33_0 : w32.cell? ⟨gb504, 0, none⟩ = some (.int .i64 a0_0) := B.bc BK504 0; have hcz33_1 : w32.cell? ⟨gb504, 1, none⟩ = some (.int .i64 a0_1) := B.bc BK504 1; have hcz33_2 : w32.cell? ⟨gb504, 2, none⟩ = some (.int .i64 a0_2) := B.bc BK504 2; have hcz33_3 : w32.cell? ⟨gb504, 3, none⟩ = some (.slice A0_3 l0_3.length c0_3) := B.bc BK504 3; have hfz33_0 := blk_frozen BK504.out 0; have hfz33_1 := blk_frozen BK504.out 1; have hfz33_2 := blk_frozen BK504.out 2; have hfz33_3 := blk_frozen BK504.out 3; have hcz34_0 : w32.cell? ⟨gb505, 0, none⟩ = some (.int .i64 a3_0) := B.bc BK505 0; have hcz34_1 : w32.cell? ⟨gb505, 1, none⟩ = some (.int .i64 a3_1) := B.bc BK505 1; have hcz34_2 : w32.cell? ⟨gb505, 2, none⟩ = some (.int .i64 a3_2) := B.bc BK505 2; have hcz34_3 : w32.cell? ⟨gb505, 3, none⟩ = some (.slice A3_3 l3_3.length c3_3) := B.bc BK505 3; have hfz34_0 := blk_frozen BK505.out 0; have hfz34_1 := blk_frozen BK505.out 1; have hfz34_2 := blk_frozen BK505.out 2; have hfz34_3 := blk_frozen BK505.out 3) | (go_at_call 40; (with_reducible refine (spec_inRange.calls a1 (-16) 16 false _ A14.out).mono ?_); rintro e w' ⟨rfl, ⟨nd, rfl⟩⟩))
          go_meet
          case rel => exact ⟨_, (true), (by first | rfl | (simp; done) | (simp [*]; done)), H', ⟨by first | omega | exact Nat.le_refl _⟩, ⟨B.kb BK504⟩, ⟨B.kb BK505⟩, ⟨B.kb BK506⟩, ⟨B.bl HB⟩⟩
        rw [if_neg c13] at H
        have c13b0 : (a0_2 == a3_2) = false := beq_eq_false_iff_ne.mpr c13
        have c13b1 : (a0_2 != a3_2) = true := bne_iff_ne.mpr c13
        (first | rw [c13b0] | (simp only [i64_w, i32_w]; rw [c13b0]) | skip)
        have H' := Aside0.mk H
        clear H
        have hnb35 := NB504_505.out
        have hnc35 := NB505_504.out
        have hnb36 := NB504_506.out
        have hnc36 := NB506_504.out
        have hcz37_0 : w8.cell? ⟨gb504, 0, none⟩ = some (.int .i64 a0_0) := B.bc BK504 0
        have hcz37_1 : w8.cell? ⟨gb504, 1, none⟩ = some (.int .i64 a0_1) := B.bc BK504 1
        have hcz37_2 : w8.cell? ⟨gb504, 2, none⟩ = some (.int .i64 a0_2) := B.bc BK504 2
        have hcz37_3 : w8.cell? ⟨gb504, 3, none⟩ = some (.slice A0_3 l0_3.length c0_3) := B.bc BK504 3
        have hfz37_0 := blk_frozen BK504.out 0
        have hfz37_1 := blk_frozen BK504.out 1
        have hfz37_2 := blk_frozen BK504.out 2
        have hfz37_3 := blk_frozen BK504.out 3
        go_wp2_with (first | ((with_reducible refine gate_callee (f := 24) rfl ?_); refine goesL_ (some 12) rfl rfl Try.func24 (by kernel_rfl) rfl #[.agg #[.int .i64 a0_0, .int .i64 a0_1, .int .i64 a0_2, .slice A0_3 l0_3.length c0_3]] rfl B.am ?_; (with_reducible refine (spec_validImage.calls k a0_0 a0_1 a0_2 _ _ l0_3 true _ ?side1 ?side2 A9.out).mono ?_); (case side1 => exact B.kc (Kd.C_below HR0_3.out HB.out)); (case side2 => exact HC0_3.out); rintro e w38 ⟨rfl, hb⟩; refine ⟨_, rfl, ?_⟩; have n0_ := Aside0.mk (blk_below (B.kb BK504) hb); have n1_ := Aside0.mk (blk_below (B.kb BK505) hb); have n2_ := Aside0.mk (blk_below (B.kb BK506) hb); have n3_ := Aside0.mk (below_step (B.bl HB) hb); clear BK504 BK505 BK506 HB; have BK504 := n0_; have BK505 := n1_; have BK506 := n2_; have HB := n3_; clear n0_ n1_ n2_ n3_; (try clear hb); (try clear hb2); (try clear hk); (try clear hi); have hnb39 := NB505_506.out; have hnc39 := NB506_505.out; have hcz40_0 : w38.cell? ⟨gb505, 0, none⟩ = some (.int .i64 a3_0) := B.bc BK505 0; have hcz40_1 : w38.cell? ⟨gb505, 1, none⟩ = some (.int .i64 a3_1) := B.bc BK505 1; have hcz40_2 : w38.cell? ⟨gb505, 2, none⟩ = some (.int .i64 a3_2) := B.bc BK505 2; have hcz40_3 : w38.cell? ⟨gb505, 3, none⟩ = some (.slice A3_3 l3_3.length c3_3) := B.bc BK505 3; have hfz40_0 := blk_frozen BK505.out 0; have hfz40_1 := blk_frozen BK505.out 1; have hfz40_2 := blk_frozen BK505.out 2; have hfz40_3 := blk_frozen BK505.out 3) | (go_at_call 24; (with_reducible refine (spec_validImage.calls k a3_0 a3_1 a3_2 _ _ l3_3 true _ ?side1 ?side2 A11.out).mono ?_); (case side1 => exact B.kc (Kd.C_below HR3_3.out HB.out)); (case side2 => exact HC3_3.out); rintro e w41 ⟨rfl, hb⟩; have n0_ := Aside0.mk (blk_below (B.kb BK504) hb); have n1_ := Aside0.mk (blk_below (B.kb BK505) hb); have n2_ := Aside0.mk (blk_below (B.kb BK506) hb); have n3_ := Aside0.mk (below_step (B.bl HB) hb); clear BK504 BK505 BK506 HB; have BK504 := n0_; have BK505 := n1_; have BK506 := n2_; have HB := n3_; clear n0_ n1_ n2_ n3_; (try clear hb); (try clear hb2); (try clear hk); (try clear hi); have hcz42_0 : w41.cell? ⟨gb504, 0, none⟩ = some (.int .i64 a0_0) := B.bc BK504 0; have hcz42_1 : w41.cell? ⟨gb504, 1, none⟩ = some (.int .i64 a0_1) := B.bc BK504 1; have hcz42_2 : w41.cell? ⟨gb504, 2, none⟩ = some (.int .i64 a0_2) := B.bc BK504 2; have hcz42_3 : w41.cell? ⟨gb504, 3, none⟩ = some (.slice A0_3 l0_3.length c0_3) := B.bc BK504 3; have hfz42_0 := blk_frozen BK504.out 0; have hfz42_1 := blk_frozen BK504.out 1; have hfz42_2 := blk_frozen BK504.out 2; have hfz42_3 := blk_frozen BK504.out 3; have hcz43_0 : w41.cell? ⟨gb505, 0, none⟩ = some (.int .i64 a3_0) := B.bc BK505 0; have hcz43_1 : w41.cell? ⟨gb505, 1, none⟩ = some (.int .i64 a3_1) := B.bc BK505 1; have hcz43_2 : w41.cell? ⟨gb505, 2, none⟩ = some (.int .i64 a3_2) := B.bc BK505 2; have hcz43_3 : w41.cell? ⟨gb505, 3, none⟩ = some (.slice A3_3 l3_3.length c3_3) := B.bc BK505 3; have hfz43_0 := blk_frozen BK505.out 0; have hfz43_1 := blk_frozen BK505.out 1; have hfz43_2 := blk_frozen BK505.out 2; have hfz43_3 := blk_frozen BK505.out 3))
        go_meet
        case rel => exact ⟨_, (true), (by first | rfl | (simp; done) | (simp [*]; done)), H', ⟨by first | omega | exact Nat.le_refl _⟩, ⟨B.kb BK504⟩, ⟨B.kb BK505⟩, ⟨B.kb BK506⟩, ⟨B.bl HB⟩⟩
      replace c12 := Bool.eq_false_iff.mpr c12
      subst c12
      have H1 : (spec_PasteImage.j0 k a1 a2 true a0_0 a0_1 a0_2 l0_3 a3_0 a3_1 a3_2 l3_3) = some (r1, r2, r3, r4, r5) := by rw [if_neg (show ¬ (false = true) by decide)] at H; exact H
      clear H
      have H := H1
      clear H1
      have H' := Aside0.mk H
      clear H
      have hnb44 := NB504_505.out
      have hnc44 := NB505_504.out
      have hnb45 := NB504_506.out
      have hnc45 := NB506_504.out
      have hcz46_0 : w8.cell? ⟨gb504, 0, none⟩ = some (.int .i64 a0_0) := B.bc BK504 0
      have hcz46_1 : w8.cell? ⟨gb504, 1, none⟩ = some (.int .i64 a0_1) := B.bc BK504 1
      have hcz46_2 : w8.cell? ⟨gb504, 2, none⟩ = some (.int .i64 a0_2) := B.bc BK504 2
      have hcz46_3 : w8.cell? ⟨gb504, 3, none⟩ = some (.slice A0_3 l0_3.length c0_3) := B.bc BK504 3
      have hfz46_0 := blk_frozen BK504.out 0
      have hfz46_1 := blk_frozen BK504.out 1
      have hfz46_2 := blk_frozen BK504.out 2
      have hfz46_3 := blk_frozen BK504.out 3
      go_wp2_with (first | ((with_reducible refine gate_callee (f := 24) rfl ?_); refine goesL_ (some 12) rfl rfl Try.func24 (by kernel_rfl) rfl #[.agg #[.int .i64 a0_0, .int .i64 a0_1, .int .i64 a0_2, .slice A0_3 l0_3.length c0_3]] rfl B.am ?_; (with_reducible refine (spec_validImage.calls k a0_0 a0_1 a0_2 _ _ l0_3 true _ ?side1 ?side2 A9.out).mono ?_); (case side1 => exact B.kc (Kd.C_below HR0_3.out HB.out)); (case side2 => exact HC0_3.out); rintro e w47 ⟨rfl, hb⟩; refine ⟨_, rfl, ?_⟩; have n0_ := Aside0.mk (blk_below (B.kb BK504) hb); have n1_ := Aside0.mk (blk_below (B.kb BK505) hb); have n2_ := Aside0.mk (blk_below (B.kb BK506) hb); have n3_ := Aside0.mk (below_step (B.bl HB) hb); clear BK504 BK505 BK506 HB; have BK504 := n0_; have BK505 := n1_; have BK506 := n2_; have HB := n3_; clear n0_ n1_ n2_ n3_; (try clear hb); (try clear hb2); (try clear hk); (try clear hi); have hnb48 := NB505_506.out; have hnc48 := NB506_505.out; have hcz49_0 : w47.cell? ⟨gb505, 0, none⟩ = some (.int .i64 a3_0) := B.bc BK505 0; have hcz49_1 : w47.cell? ⟨gb505, 1, none⟩ = some (.int .i64 a3_1) := B.bc BK505 1; have hcz49_2 : w47.cell? ⟨gb505, 2, none⟩ = some (.int .i64 a3_2) := B.bc BK505 2; have hcz49_3 : w47.cell? ⟨gb505, 3, none⟩ = some (.slice A3_3 l3_3.length c3_3) := B.bc BK505 3; have hfz49_0 := blk_frozen BK505.out 0; have hfz49_1 := blk_frozen BK505.out 1; have hfz49_2 := blk_frozen BK505.out 2; have hfz49_3 := blk_frozen BK505.out 3) | (go_at_call 24; (with_reducible refine (spec_validImage.calls k a3_0 a3_1 a3_2 _ _ l3_3 false _ ?side1 ?side2 A11.out).mono ?_); (case side1 => exact B.kc (Kd.C_below HR3_3.out HB.out)); (case side2 => exact HC3_3.out); rintro e w50 ⟨rfl, hb⟩; have n0_ := Aside0.mk (blk_below (B.kb BK504) hb); have n1_ := Aside0.mk (blk_below (B.kb BK505) hb); have n2_ := Aside0.mk (blk_below (B.kb BK506) hb); have n3_ := Aside0.mk (below_step (B.bl HB) hb); clear BK504 BK505 BK506 HB; have BK504 := n0_; have BK505 := n1_; have BK506 := n2_; have HB := n3_; clear n0_ n1_ n2_ n3_; (try clear hb); (try clear hb2); (try clear hk); (try clear hi)))
      go_meet
      case rel => exact ⟨_, (true), (by first | rfl | (simp; done) | (simp [*]; done)), H', ⟨by first | omega | exact Nat.le_refl _⟩, ⟨B.kb BK504⟩, ⟨B.kb BK505⟩, ⟨B.kb BK506⟩, ⟨B.bl HB⟩⟩
    replace c10 := Bool.eq_false_iff.mpr c10
    subst c10
    have H1 : (spec_PasteImage.j0 k a1 a2 true a0_0 a0_1 a0_2 l0_3 a3_0 a3_1 a3_2 l3_3) = some (r1, r2, r3, r4, r5) := by rw [if_neg (show ¬ (false = true) by decide)] at H; exact H
    clear H
    have H := H1
    clear H1
    have H' := Aside0.mk H
    clear H
    have hnb51 := NB504_505.out
    have hnc51 := NB505_504.out
    have hnb52 := NB504_506.out
    have hnc52 := NB506_504.out
    have hcz53_0 : w8.cell? ⟨gb504, 0, none⟩ = some (.int .i64 a0_0) := B.bc BK504 0
    have hcz53_1 : w8.cell? ⟨gb504, 1, none⟩ = some (.int .i64 a0_1) := B.bc BK504 1
    have hcz53_2 : w8.cell? ⟨gb504, 2, none⟩ = some (.int .i64 a0_2) := B.bc BK504 2
    have hcz53_3 : w8.cell? ⟨gb504, 3, none⟩ = some (.slice A0_3 l0_3.length c0_3) := B.bc BK504 3
    have hfz53_0 := blk_frozen BK504.out 0
    have hfz53_1 := blk_frozen BK504.out 1
    have hfz53_2 := blk_frozen BK504.out 2
    have hfz53_3 := blk_frozen BK504.out 3
    go_wp2_with (first | ((with_reducible refine gate_callee (f := 24) rfl ?_); refine goesL_ (some 12) rfl rfl Try.func24 (by kernel_rfl) rfl #[.agg #[.int .i64 a0_0, .int .i64 a0_1, .int .i64 a0_2, .slice A0_3 l0_3.length c0_3]] rfl B.am ?_; (with_reducible refine (spec_validImage.calls k a0_0 a0_1 a0_2 _ _ l0_3 false _ ?side1 ?side2 A9.out).mono ?_); (case side1 => exact B.kc (Kd.C_below HR0_3.out HB.out)); (case side2 => exact HC0_3.out); rintro e w54 ⟨rfl, hb⟩; refine ⟨_, rfl, ?_⟩; have n0_ := Aside0.mk (blk_below (B.kb BK504) hb); have n1_ := Aside0.mk (blk_below (B.kb BK505) hb); have n2_ := Aside0.mk (blk_below (B.kb BK506) hb); have n3_ := Aside0.mk (below_step (B.bl HB) hb); clear BK504 BK505 BK506 HB; have BK504 := n0_; have BK505 := n1_; have BK506 := n2_; have HB := n3_; clear n0_ n1_ n2_ n3_; (try clear hb); (try clear hb2); (try clear hk); (try clear hi)))
    go_meet
    case rel => exact ⟨_, (true), (by first | rfl | (simp; done) | (simp [*]; done)), H', ⟨by first | omega | exact Nat.le_refl _⟩, ⟨B.kb BK504⟩, ⟨B.kb BK505⟩, ⟨B.kb BK506⟩, ⟨B.bl HB⟩⟩
  case rest =>
    clear HC5
    try clear c1
    try clear c2
    try clear p2
    try clear c3
    try clear c4
    try clear c5
    try clear c10
    try clear c12
    try clear c13
    try clear c13b0
    try clear c13b1
    try clear c15
    try clear c17
    try clear c18
    try clear c21
    try clear c24
    try clear c26
    try clear c27
    try clear c30
    try clear c35
    try clear c36
    try clear c39
    try clear c44
    try clear c45
    try clear c48
    try clear c51
    try clear c52
    try clear hcz19_0
    try clear hcz19_1
    try clear hcz19_2
    try clear hcz19_3
    try clear hcz22_0
    try clear hcz22_1
    try clear hcz22_2
    try clear hcz22_3
    try clear hcz24_0
    try clear hcz24_1
    try clear hcz24_2
    try clear hcz24_3
    try clear hcz25_0
    try clear hcz25_1
    try clear hcz25_2
    try clear hcz25_3
    try clear hcz28_0
    try clear hcz28_1
    try clear hcz28_2
    try clear hcz28_3
    try clear hcz31_0
    try clear hcz31_1
    try clear hcz31_2
    try clear hcz31_3
    try clear hcz33_0
    try clear hcz33_1
    try clear hcz33_2
    try clear hcz33_3
    try clear hcz34_0
    try clear hcz34_1
    try clear hcz34_2
    try clear hcz34_3
    try clear hcz37_0
    try clear hcz37_1
    try clear hcz37_2
    try clear hcz37_3
    try clear hcz40_0
    try clear hcz40_1
    try clear hcz40_2
    try clear hcz40_3
    try clear hcz42_0
    try clear hcz42_1
    try clear hcz42_2
    try clear hcz42_3
    try clear hcz43_0
    try clear hcz43_1
    try clear hcz43_2
    try clear hcz43_3
    try clear hcz46_0
    try clear hcz46_1
    try clear hcz46_2
    try clear hcz46_3
    try clear hcz49_0
    try clear hcz49_1
    try clear hcz49_2
    try clear hcz49_3
    try clear hcz53_0
    try clear hcz53_1
    try clear hcz53_2
    try clear hcz53_3
    try clear hfz19_0
    try clear hfz19_1
    try clear hfz19_2
    try clear hfz19_3
    try clear hfz22_0
    try clear hfz22_1
    try clear hfz22_2
    try clear hfz22_3
    try clear hfz24_0
    try clear hfz24_1
    try clear hfz24_2
    try clear hfz24_3
    try clear hfz25_0
    try clear hfz25_1
    try clear hfz25_2
    try clear hfz25_3
    try clear hfz28_0
    try clear hfz28_1
    try clear hfz28_2
    try clear hfz28_3
    try clear hfz31_0
    try clear hfz31_1
    try clear hfz31_2
    try clear hfz31_3
    try clear hfz33_0
    try clear hfz33_1
    try clear hfz33_2
    try clear hfz33_3
    try clear hfz34_0
    try clear hfz34_1
    try clear hfz34_2
    try clear hfz34_3
    try clear hfz37_0
    try clear hfz37_1
    try clear hfz37_2
    try clear hfz37_3
    try clear hfz40_0
    try clear hfz40_1
    try clear hfz40_2
    try clear hfz40_3
    try clear hfz42_0
    try clear hfz42_1
    try clear hfz42_2
    try clear hfz42_3
    try clear hfz43_0
    try clear hfz43_1
    try clear hfz43_2
    try clear hfz43_3
    try clear hfz46_0
    try clear hfz46_1
    try clear hfz46_2
    try clear hfz46_3
    try clear hfz49_0
    try clear hfz49_1
    try clear hfz49_2
    try clear hfz49_3
    try clear hfz53_0
    try clear hfz53_1
    try clear hfz53_2
    try clear hfz53_3
    obtain ⟨kq, x35_4, rfl, HA, HJ4, BK504, BK505, BK506, HB⟩ := hcut
    cases kq with
    | zero => exact absurd HA.out (by simp [spec_PasteImage.j0])
    | succ kj4 =>
      have H := HA.out
      clear HA
      simp only [spec_PasteImage.j0] at H
      by_cases c55 : x35_4 = true
      · subst c55
        have H1 : (some (0, 0, 0, ([] : List Int), false)) = some (r1, r2, r3, r4, r5) := by rw [if_pos rfl] at H; exact H
        clear H
        have H := H1
        clear H1
        simp only [Option.some.injEq, Prod.mk.injEq] at H
        obtain ⟨rfl, rfl, rfl, rfl, rfl⟩ := H
        have hnb56 := NB506_504.out
        have hnc56 := NB504_506.out
        have hnb57 := NB506_505.out
        have hnc57 := NB505_506.out
        have hcz58_0 : wc.cell? ⟨gb506, 0, none⟩ = some (.int .i64 0) := B.bc BK506 0
        have hcz58_1 : wc.cell? ⟨gb506, 1, none⟩ = some (.int .i64 0) := B.bc BK506 1
        have hcz58_2 : wc.cell? ⟨gb506, 2, none⟩ = some (.int .i64 0) := B.bc BK506 2
        have hcz58_3 : wc.cell? ⟨gb506, 3, none⟩ = some (.slice none 0 0) := B.bc BK506 3
        have hfz58_0 := blk_frozen BK506.out 0
        have hfz58_1 := blk_frozen BK506.out 1
        have hfz58_2 := blk_frozen BK506.out 2
        have hfz58_3 := blk_frozen BK506.out 3
        go_wp2
        refine bodyPost_ret (results_ct rfl _ _ gb506 28 #[.int .i64 0, .int .i64 0, .int .i64 0, .slice none 0 0] (0, 0) _ rfl (B.kb0 (B.bp4 BK506)) Try.underlying28 rfl (by kernel_rfl)) rfl ?_
        exact ⟨_, by first | rfl | (simp [errW_none, errW_some] <;> rfl) | (simp [*, errW_none, errW_some] <;> rfl), by first | exact Kd.R_nil _ _ _ _ _ | exact Kd.N_nil _ _ _ _ _ | exact Kd.V_nil _ _ _ _ _ | exact Kd.Q_nil _ _ _ _ _ | exact Kd.S_nil _ _ _ _ _, B.bl HB⟩
      replace c55 := Bool.eq_false_iff.mpr c55
      subst c55
      have H1 : ((spec_copyImage.f a0_0 a0_1 a0_2 l0_3).bind fun bt511 => ((spec_paste.f kj4 bt511.1 bt511.2.1 bt511.2.2.1 bt511.2.2.2 a1 a2 a3_0 a3_1 a3_2 l3_3).bind fun t518 => (some (bt511.1, bt511.2.1, bt511.2.2.1, t518, true)))) = some (r1, r2, r3, r4, r5) := by rw [if_neg (show ¬ (false = true) by decide)] at H; exact H
      clear H
      have H := H1
      clear H1
      replace H := Option.bind_eq_some_iff.mp H
      obtain ⟨⟨t511, t512, t513, t514⟩, A590, H⟩ := H
      replace H : ((spec_paste.f kj4 t511 t512 t513 t514 a1 a2 a3_0 a3_1 a3_2 l3_3).bind fun t518 => (some (t511, t512, t513, t518, true))) = some (r1, r2, r3, r4, r5) := H
      have A59 := Aside0.mk A590
      clear A590
      replace H := Option.bind_eq_some_iff.mp H
      obtain ⟨t518, A600, H⟩ := H
      replace H : (some (t511, t512, t513, t518, true)) = some (r1, r2, r3, r4, r5) := H
      have A60 := Aside0.mk A600
      clear A600
      simp only [Option.some.injEq, Prod.mk.injEq] at H
      obtain ⟨rfl, rfl, rfl, rfl, rfl⟩ := H
      have hnb61 := NB504_505.out
      have hnc61 := NB505_504.out
      have hnb62 := NB504_506.out
      have hnc62 := NB506_504.out
      have hcz63_0 : wc.cell? ⟨gb504, 0, none⟩ = some (.int .i64 a0_0) := B.bc BK504 0
      have hcz63_1 : wc.cell? ⟨gb504, 1, none⟩ = some (.int .i64 a0_1) := B.bc BK504 1
      have hcz63_2 : wc.cell? ⟨gb504, 2, none⟩ = some (.int .i64 a0_2) := B.bc BK504 2
      have hcz63_3 : wc.cell? ⟨gb504, 3, none⟩ = some (.slice A0_3 l0_3.length c0_3) := B.bc BK504 3
      have hfz63_0 := blk_frozen BK504.out 0
      have hfz63_1 := blk_frozen BK504.out 1
      have hfz63_2 := blk_frozen BK504.out 2
      have hfz63_3 := blk_frozen BK504.out 3
      go_wp2_with (first | ((with_reducible refine gate_callee (f := 41) rfl ?_); refine goesL_ (some 38) rfl rfl Try.func41 (by kernel_rfl) rfl #[.agg #[.int .i64 a0_0, .int .i64 a0_1, .int .i64 a0_2, .slice A0_3 l0_3.length c0_3]] rfl B.am ?_; (with_reducible refine (spec_copyImage.calls a0_0 a0_1 a0_2 _ _ l0_3 t511 t512 t513 t514 _ ?side1 ?side2 A59.out).mono ?_); (case side1 => exact B.kc (Kd.C_below HR0_3.out HB.out)); (case side2 => exact HC0_3.out); rintro e w64 ⟨v515, rfl, ho0, hb⟩; refine ⟨_, rfl, ?_⟩; have n0_ := Aside0.mk (Kd.R_lower ho0 (below_size (B.bl HB))); have n1_ := Aside0.mk (blk_below (B.kb BK504) hb); have n2_ := Aside0.mk (blk_below (B.kb BK505) hb); have n3_ := Aside0.mk (blk_below (B.kb BK506) hb); have n4_ := Aside0.mk (below_step (B.bl HB) hb); clear BK504 BK505 BK506 HB; have HO516 := n0_; have BK504 := n1_; have BK505 := n2_; have BK506 := n3_; have HB := n4_; clear n0_ n1_ n2_ n3_ n4_; (try clear hb); (try clear hb2); (try clear hk); (try clear hi); (try clear ho0)) | ((with_reducible refine gate_dst (N := 10) rfl ?_); refine box_event ?hg (N := 10) ?hd (cs := #[.int .i64 0, .int .i64 0, .int .i64 0, .slice none 0 0]) (t := 28) ?hr ?_; (case hd => rfl); (case hg => rfl); (case hr => first | (go_simp; done) | (go_simp; rfl)); intro gb517 hg w65 hbox hb; have n0_ := Aside0.mk (Kd.R_below (B.kr HO516) hb); have n1_ := Aside0.mk (blk_below (B.kb BK504) hb); have n2_ := Aside0.mk (blk_below (B.kb BK505) hb); have n3_ := Aside0.mk (blk_below (B.kb BK506) hb); have n4_ := Aside0.mk (below_step (B.bl HB) hb); have n5_ := Aside0.mk (hbox); have n6_ := Aside0.mk (B.nle hg (below_size (B.bl HB))); have n7_ := Aside0.mk (B.nle hg (below_size (B.bl HB))); have n8_ := Aside0.mk (B.nlt hg (blk_lt (B.kb BK504))); have n9_ := Aside0.mk (B.ngt hg (blk_lt (B.kb BK504))); have n10_ := Aside0.mk (B.nlt hg (blk_lt (B.kb BK505))); have n11_ := Aside0.mk (B.ngt hg (blk_lt (B.kb BK505))); have n12_ := Aside0.mk (B.nlt hg (blk_lt (B.kb BK506))); have n13_ := Aside0.mk (B.ngt hg (blk_lt (B.kb BK506))); clear HO516 BK504 BK505 BK506 HB; have HO516 := n0_; have BK504 := n1_; have BK505 := n2_; have BK506 := n3_; have HB := n4_; have BK517 := n5_; have GW517 := n6_; have GE517 := n7_; have NB504_517 := n8_; have NB517_504 := n9_; have NB505_517 := n10_; have NB517_505 := n11_; have NB506_517 := n12_; have NB517_506 := n13_; clear n0_ n1_ n2_ n3_ n4_ n5_ n6_ n7_ n8_ n9_ n10_ n11_ n12_ n13_; clear hb hbox hg; have hnb66 := NB517_504.out; have hnc66 := NB504_517.out; have hnb67 := NB517_505.out; have hnc67 := NB505_517.out; have hnb68 := NB517_506.out; have hnc68 := NB506_517.out; have hcz69_0 : w65.cell? ⟨gb517, 0, none⟩ = some (.int .i64 0) := B.bc BK517 0; have hcz69_1 : w65.cell? ⟨gb517, 1, none⟩ = some (.int .i64 0) := B.bc BK517 1; have hcz69_2 : w65.cell? ⟨gb517, 2, none⟩ = some (.int .i64 0) := B.bc BK517 2; have hcz69_3 : w65.cell? ⟨gb517, 3, none⟩ = some (.slice none 0 0) := B.bc BK517 3; have hfz69_0 := blk_frozen BK517.out 0; have hfz69_1 := blk_frozen BK517.out 1; have hfz69_2 := blk_frozen BK517.out 2; have hfz69_3 := blk_frozen BK517.out 3; obtain ⟨Ao70, co70, eo70⟩ := Kd.R_slice HO516.out; subst eo70) | ((with_reducible refine gate_store (t := 28) (p := 10) rfl ?_); refine store_event (t := 28) (p := 10) (v := ?vo_w71) (w1 := ((((w65.setCell ⟨gb517, 0, none⟩ (.int .i64 t511)).setCell ⟨gb517, 1, none⟩ (.int .i64 t512)).setCell ⟨gb517, 2, none⟩ (.int .i64 t513)).setCell ⟨gb517, 3, none⟩ (.slice Ao70 t514.length co70))) ?hg ?ho ?hn ?hr ?_; (case ho => rfl); (case hg => rfl); (case hn => rfl); (case hr => first | (go_simp; done) | (go_simp; rfl)); intro w71 hw; have n0_ : Aside0 (Kd.R (Kd.int .i64) 3 w71 w.heap.size (fun _ => True) (.slice Ao70 t514.length co70) t514) := ⟨(by rw [hw]; exact (B.kr0 (Kd.R_mono (B.rf4 HO516 BK517) (fun _ hk => trivial))))⟩; have n1_ : Aside0 (w71.heap[gb504]? = some (.cells #[.int .i64 a0_0, .int .i64 a0_1, .int .i64 a0_2, .slice A0_3 l0_3.length c0_3] 28 (0, 0))) := ⟨(by rw [hw]; exact (B.kb0 (B.bf4 BK504 NB504_517)))⟩; have n2_ : Aside0 (w71.heap[gb505]? = some (.cells #[.int .i64 a3_0, .int .i64 a3_1, .int .i64 a3_2, .slice A3_3 l3_3.length c3_3] 28 (0, 0))) := ⟨(by rw [hw]; exact (B.kb0 (B.bf4 BK505 NB505_517)))⟩; have n3_ : Aside0 (w71.heap[gb506]? = some (.cells #[.int .i64 0, .int .i64 0, .int .i64 0, .slice none 0 0] 28 (0, 0))) := ⟨(by rw [hw]; exact (B.kb0 (B.bf4 BK506 NB506_517)))⟩; have n4_ : Aside0 (w71.heap[gb517]? = some (.cells #[.int .i64 t511, .int .i64 t512, .int .i64 t513, .slice Ao70 t514.length co70] 28 (0, 0))) := ⟨(by rw [hw]; exact (B.kb0 (B.bp4 BK517)))⟩; have n5_ : Aside0 (Below w.heap.size w w71) := ⟨(by rw [hw]; exact (B.bl HB))⟩; clear hw HO516 BK504 BK505 BK506 BK517 HB; have HO516 := n0_; have BK504 := n1_; have BK505 := n2_; have BK506 := n3_; have BK517 := n4_; have HB := n5_; clear n0_ n1_ n2_ n3_ n4_ n5_; have hcz72_0 : w71.cell? ⟨gb517, 0, none⟩ = some (.int .i64 t511) := B.bc BK517 0; have hcz72_1 : w71.cell? ⟨gb517, 1, none⟩ = some (.int .i64 t512) := B.bc BK517 1; have hcz72_2 : w71.cell? ⟨gb517, 2, none⟩ = some (.int .i64 t513) := B.bc BK517 2; have hcz72_3 : w71.cell? ⟨gb517, 3, none⟩ = some (.slice Ao70 t514.length co70) := B.bc BK517 3; have hfz72_0 := blk_frozen BK517.out 0; have hfz72_1 := blk_frozen BK517.out 1; have hfz72_2 := blk_frozen BK517.out 2; have hfz72_3 := blk_frozen BK517.out 3; have hnb73 := NB505_506.out; have hnc73 := NB506_505.out; have hcz74_0 : w71.cell? ⟨gb505, 0, none⟩ = some (.int .i64 a3_0) := B.bc BK505 0; have hcz74_1 : w71.cell? ⟨gb505, 1, none⟩ = some (.int .i64 a3_1) := B.bc BK505 1; have hcz74_2 : w71.cell? ⟨gb505, 2, none⟩ = some (.int .i64 a3_2) := B.bc BK505 2; have hcz74_3 : w71.cell? ⟨gb505, 3, none⟩ = some (.slice A3_3 l3_3.length c3_3) := B.bc BK505 3; have hfz74_0 := blk_frozen BK505.out 0; have hfz74_1 := blk_frozen BK505.out 1; have hfz74_2 := blk_frozen BK505.out 2; have hfz74_3 := blk_frozen BK505.out 3) | ((with_reducible refine gate_callee (f := 42) rfl ?_); refine goesL_ (some 43) rfl rfl Try.func42 (by kernel_rfl) rfl #[.agg #[.int .i64 t511, .int .i64 t512, .int .i64 t513, .slice Ao70 t514.length co70], .int .i64 a1, .int .i64 a2, .agg #[.int .i64 a3_0, .int .i64 a3_1, .int .i64 a3_2, .slice A3_3 l3_3.length c3_3]] rfl B.am ?_; (with_reducible refine (spec_paste.calls kj4 t511 t512 t513 (fun k_ => some k_ = (.slice Ao70 t514.length co70 : Value).ownBlock) (.slice Ao70 t514.length co70) t514 a1 a2 a3_0 a3_1 a3_2 _ _ l3_3 t518 w _ ?side1 ?side2 ?side3 ?side4 A60.out).mono ?_); (case side1 => exact B.bl HB); (case side2 => exact Kd.R_tight rfl HO516.out); (case side3 => exact Kd.C_kept_came (Kd.heap_int .i64) HR3_3.out (B.bl HB) (fun k_ hs_ => (fun e_ => Kd.R_base HO516.out k_ e_.symm) hs_)); (case side4 => exact HC3_3.out); rintro e w75 ⟨rfl, hy0, hb, hkp⟩; refine ⟨_, rfl, ?_⟩; have n0_ := Aside0.mk (blk_kept (B.kb BK504) hkp (fun hs_ => (fun e_ => (Kd.R_ne HO516.out BK504.out (by decide)) e_) hs_)); have n1_ := Aside0.mk (blk_kept (B.kb BK505) hkp (fun hs_ => (fun e_ => (Kd.R_ne HO516.out BK505.out (by decide)) e_) hs_)); have n2_ := Aside0.mk (blk_kept (B.kb BK506) hkp (fun hs_ => (fun e_ => (Kd.R_ne HO516.out BK506.out (by decide)) e_) hs_)); have n3_ := Aside0.mk (Kd.R_reok rfl hy0 (fun k_ e_ => HO516.out.1 k_ e_)); have n4_ := Aside0.mk (blk_kept (B.kb BK517) hkp (fun hs_ => (fun e_ => (Kd.R_ne HO516.out BK517.out (by decide)) e_) hs_)); have n5_ := Aside0.mk (hb); clear BK504 BK505 BK506 HO516 BK517 HB; have BK504 := n0_; have BK505 := n1_; have BK506 := n2_; have HO516 := n3_; have BK517 := n4_; have HB := n5_; clear n0_ n1_ n2_ n3_ n4_ n5_; (try clear hb); (try clear hkp); (try clear hy0); have hcz76_0 : w75.cell? ⟨gb517, 0, none⟩ = some (.int .i64 t511) := B.bc BK517 0; have hcz76_1 : w75.cell? ⟨gb517, 1, none⟩ = some (.int .i64 t512) := B.bc BK517 1; have hcz76_2 : w75.cell? ⟨gb517, 2, none⟩ = some (.int .i64 t513) := B.bc BK517 2; have hcz76_3 : w75.cell? ⟨gb517, 3, none⟩ = some (.slice Ao70 t514.length co70) := B.bc BK517 3; have hfz76_0 := blk_frozen BK517.out 0; have hfz76_1 := blk_frozen BK517.out 1; have hfz76_2 := blk_frozen BK517.out 2; have hfz76_3 := blk_frozen BK517.out 3; have hcz77_0 : w75.cell? ⟨gb506, 0, none⟩ = some (.int .i64 0) := B.bc BK506 0; have hcz77_1 : w75.cell? ⟨gb506, 1, none⟩ = some (.int .i64 0) := B.bc BK506 1; have hcz77_2 : w75.cell? ⟨gb506, 2, none⟩ = some (.int .i64 0) := B.bc BK506 2; have hcz77_3 : w75.cell? ⟨gb506, 3, none⟩ = some (.slice none 0 0) := B.bc BK506 3; have hfz77_0 := blk_frozen BK506.out 0; have hfz77_1 := blk_frozen BK506.out 1; have hfz77_2 := blk_frozen BK506.out 2; have hfz77_3 := blk_frozen BK506.out 3))
      refine bodyPost_ret (results_ct rfl _ _ gb506 28 #[.int .i64 t511, .int .i64 t512, .int .i64 t513, .slice Ao70 t514.length co70] (0, 0) _ rfl (B.kb0 (B.bp4 BK506)) Try.underlying28 rfl (by kernel_rfl)) rfl ?_
      exact ⟨_, by first | rfl | (simp [errW_none, errW_some] <;> rfl) | (simp [*, errW_none, errW_some] <;> rfl), by (with_reducible repeat (first | apply Kd.R_alloc | apply Kd.R_drewN | apply Kd.R_drew)); exact Kd.R_mono (B.rf4 HO516 BK506) (fun _ hk => trivial), B.bl HB⟩

end Go.Proofs.Ytmljcnhecjlinaa.Q
