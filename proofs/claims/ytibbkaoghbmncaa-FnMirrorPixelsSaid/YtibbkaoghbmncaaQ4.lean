-- Written by a program of this session (the kit's printer, with hand-proved contracts for the functions that it does not take).
import Derived.Test.YtibbkaoghbmncaaQ0
import Derived.Test.YtibbkaoghbmncaaQ1
import Derived.Test.YtibbkaoghbmncaaQ12
namespace Go.Proofs.Ytibbkaoghbmncaa.Q
open Go.RowKit Go.Proofs.YtibbkaoghbmncaaW.PrintWords Go.Proofs.YtibbkaoghbmncaaW.PrintLast Go.Proofs.YtibbkaoghbmncaaW.PrintMore
attribute [local go_sem] max2_int min2_int max_two min_two max_three min_three max_four min_four   -- for this text's walks alone
set_option linter.unusedVariables false
set_option linter.unusedSimpArgs false

/-! ### spec_copyImage: function 54 -/
def spec_copyImage.f (a0_0 : Int) (a0_1 : Int) (a0_2 : Int) (l0_3 : List Int) : Option (Int × Int × Int × List Int) := (spec_copyInts.f l0_3).bind fun t406 => (some (a0_0, a0_1, a0_2, t406))
def spec_copyImage.T1 : Bool × List (List Nat × List Nat) := (true, [([], []), ([0], [0]), ([], []), ([2], [2]), ([], []), ([4], [4]), ([], []), ([6], [6]), ([7], [7]), ([1, 3, 5, 8], [1, 3, 5, 8]), ([9, 8, 0, 1, 2, 3, 4, 5, 6, 7, 8, 9], [9])])
def spec_copyImage.B1 : List Nat := [0, 1, 0, 4, 0, 16, 0, 64, 192, 511, 1023]
theorem spec_copyImage.tab1 : rtab .any (opsOf Try.f54 1) = spec_copyImage.T1 := by kernel_rfl
theorem spec_copyImage.bits1 : waitsOk spec_copyImage.T1.2 spec_copyImage.B1 = true := by kernel_rfl
set_option maxHeartbeats 8000000 in
set_option maxRecDepth 100000 in
theorem spec_copyImage.calls (a0_0 : Int) (a0_1 : Int) (a0_2 : Int) (A0_3 : Option Addr) (c0_3 : Nat) (l0_3 : List Int) (r1 : Int) (r2 : Int) (r3 : Int) (r4 : List Int) (w : World) (hr0_3 : Kd.C (Kd.int .i64) w A0_3 l0_3.length l0_3) (hc0_3 : l0_3.length ≤ c0_3) (h : spec_copyImage.f a0_0 a0_1 a0_2 l0_3 = some (r1, r2, r3, r4)) :
    Calls Try.prog 54 #[.agg #[.int .i64 a0_0, .int .i64 a0_1, .int .i64 a0_2, .slice A0_3 l0_3.length c0_3]] w fun e w' => ∃ v3_ : Value, e = .returned (.agg #[.int .i64 r1, .int .i64 r2, .int .i64 r3, v3_]) ∧ Kd.R (Kd.int .i64) 3 w' w.heap.size (fun _ => True) v3_ r4 ∧ Below w.heap.size w w' := by
  have hu26 := Try.underlying26
  have HR0_3 := Aside0.mk hr0_3
  have HC0_3 := Aside0.mk hc0_3
  clear hr0_3 hc0_3
  have HB := Aside0.mk (Below.refl w.heap.size w)
  have H : ((spec_copyInts.f l0_3).bind fun t406 => (some (a0_0, a0_1, a0_2, t406))) = some (r1, r2, r3, r4) := h
  clear h
  replace H := Option.bind_eq_some_iff.mp H
  obtain ⟨t406, A20, H⟩ := H
  replace H : (some (a0_0, a0_1, a0_2, t406)) = some (r1, r2, r3, r4) := H
  have A2 := Aside0.mk A20
  clear A20
  simp only [Option.some.injEq, Prod.mk.injEq] at H
  obtain ⟨rfl, rfl, rfl, rfl⟩ := H
  go_enter Try.func54, Try.ntmps54
  try go_wp2_with (first | ((with_reducible refine gate_dst (N := 1) rfl ?_); refine box_event ?hg (N := 1) ?hd (cs := #[.int .i64 a0_0, .int .i64 a0_1, .int .i64 a0_2, .slice A0_3 l0_3.length c0_3]) (t := 26) ?hr ?_; (case hd => rfl); (case hg => rfl); (case hr => first | (go_simp; done) | (go_simp; rfl)); intro gb404 hg w3 hbox hb; have n0_ := Aside0.mk (below_step (B.bl HB) hb); have n1_ := Aside0.mk (hbox); have n2_ := Aside0.mk (B.nle hg (below_size (B.bl HB))); have n3_ := Aside0.mk (B.nle hg (below_size (B.bl HB))); clear HB; have HB := n0_; have BK404 := n1_; have GW404 := n2_; have GE404 := n3_; clear n0_ n1_ n2_ n3_; clear hb hbox hg) | ((with_reducible refine gate_dst (N := 2) rfl ?_); refine box_event ?hg (N := 2) ?hd (cs := #[.int .i64 0, .int .i64 0, .int .i64 0, .slice none 0 0]) (t := 26) ?hr ?_; (case hd => rfl); (case hg => rfl); (case hr => first | (go_simp; done) | (go_simp; rfl)); intro gb405 hg w4 hbox hb; have n0_ := Aside0.mk (blk_below (B.kb BK404) hb); have n1_ := Aside0.mk (below_step (B.bl HB) hb); have n2_ := Aside0.mk (hbox); have n3_ := Aside0.mk (B.nle hg (below_size (B.bl HB))); have n4_ := Aside0.mk (B.nle hg (below_size (B.bl HB))); have n5_ := Aside0.mk (B.nlt hg (blk_lt (B.kb BK404))); have n6_ := Aside0.mk (B.ngt hg (blk_lt (B.kb BK404))); clear BK404 HB; have BK404 := n0_; have HB := n1_; have BK405 := n2_; have GW405 := n3_; have GE405 := n4_; have NB404_405 := n5_; have NB405_404 := n6_; clear n0_ n1_ n2_ n3_ n4_ n5_ n6_; clear hb hbox hg))
  have n0_ := Aside0.mk (blk_drew BK404.out)
  have n1_ := Aside0.mk (blk_drew BK405.out)
  have n2_ := Aside0.mk (below_drew1 HB.out)
  clear BK404 BK405 HB
  have BK404 := n0_
  have BK405 := n1_
  have HB := n2_
  clear n0_ n1_ n2_
  refine start_ (n := 11) (S := fun w' => w'.cell? ⟨gb404, 0, none⟩ = some (.int .i64 a0_0) ∧ w'.cell? ⟨gb404, 1, none⟩ = some (.int .i64 a0_1) ∧ w'.cell? ⟨gb404, 2, none⟩ = some (.int .i64 a0_2) ∧ w'.cell? ⟨gb404, 3, none⟩ = some (.slice A0_3 l0_3.length c0_3)) (ds := []) #[false, false, false, false, false, false, false, false, false, false, false] (by kernel_rfl) rfl rfl ⟨B.bc BK404 0, B.bc BK404 1, B.bc BK404 2, B.bc BK404 3⟩ (fun hHeld => ?_); refine with_tabW spec_copyImage.tab1 spec_copyImage.bits1 (fun HT_ HW_ => ?_)
  generalize w4.drew = w5 at BK404 BK405 HB hHeld ⊢
  refine pure_ (i := 0) (N := some 3) (v := ?_) (a' := ?_) #[true, false, false, false, false, false, false, false, false, false, false] rfl rfl (any_of HT_.out (by kernel_rfl)) (fun _ _ _ h => h) (Or.inl ⟨by rfl, ?_⟩) ?_ ?_
  rotate_left
  · intro w'
    go_simp
    with_reducible rfl
  rotate_left
  · simp only [Act.put, List.setIfInBounds_toArray, List.set_cons_zero, List.set_cons_succ, i64_w, i32_w]
    rfl
  refine pure_ (i := 2) (N := some 5) (v := ?_) (a' := ?_) #[true, false, true, false, false, false, false, false, false, false, false] rfl rfl (any_of HT_.out (by kernel_rfl)) (fun _ _ _ h => h) (Or.inl ⟨by rfl, ?_⟩) ?_ ?_
  rotate_left
  · intro w'
    go_simp
    with_reducible rfl
  rotate_left
  · simp only [Act.put, List.setIfInBounds_toArray, List.set_cons_zero, List.set_cons_succ, i64_w, i32_w]
    rfl
  refine pure_ (i := 4) (N := some 7) (v := ?_) (a' := ?_) #[true, false, true, false, true, false, false, false, false, false, false] rfl rfl (any_of HT_.out (by kernel_rfl)) (fun _ _ _ h => h) (Or.inl ⟨by rfl, ?_⟩) ?_ ?_
  rotate_left
  · intro w'
    go_simp
    with_reducible rfl
  rotate_left
  · simp only [Act.put, List.setIfInBounds_toArray, List.set_cons_zero, List.set_cons_succ, i64_w, i32_w]
    rfl
  refine pure_ (i := 6) (N := some 9) (v := ?_) (a' := ?_) #[true, false, true, false, true, false, true, false, false, false, false] rfl rfl (any_of HT_.out (by kernel_rfl)) (fun _ _ _ h => h) (Or.inl ⟨by rfl, ?_⟩) ?_ ?_
  rotate_left
  · intro w'
    go_simp
    with_reducible rfl
  rotate_left
  · simp only [Act.put, List.setIfInBounds_toArray, List.set_cons_zero, List.set_cons_succ, i64_w, i32_w]
    rfl
  refine take_ (i := 1) (N := some 4) (v := ?_) (a' := ?_) #[true, true, true, false, true, false, true, false, false, false, false] rfl rfl (take_ofW HT_.out HW_.out (by kernel_rfl)) (fun _ _ _ h => h) (Or.inl ⟨by rfl, ?_⟩) hHeld ?_ ?_
  rotate_left
  · rintro w' ⟨s0, s1, s2, s3⟩
    go_simp
    with_reducible rfl
  rotate_left
  · simp only [Act.put, List.setIfInBounds_toArray, List.set_cons_zero, List.set_cons_succ, i64_w, i32_w]
    rfl
  refine take_ (i := 3) (N := some 6) (v := ?_) (a' := ?_) #[true, true, true, true, true, false, true, false, false, false, false] rfl rfl (take_ofW HT_.out HW_.out (by kernel_rfl)) (fun _ _ _ h => h) (Or.inl ⟨by rfl, ?_⟩) hHeld ?_ ?_
  rotate_left
  · rintro w' ⟨s0, s1, s2, s3⟩
    go_simp
    with_reducible rfl
  rotate_left
  · simp only [Act.put, List.setIfInBounds_toArray, List.set_cons_zero, List.set_cons_succ, i64_w, i32_w]
    rfl
  refine take_ (i := 5) (N := some 8) (v := ?_) (a' := ?_) #[true, true, true, true, true, true, true, false, false, false, false] rfl rfl (take_ofW HT_.out HW_.out (by kernel_rfl)) (fun _ _ _ h => h) (Or.inl ⟨by rfl, ?_⟩) hHeld ?_ ?_
  rotate_left
  · rintro w' ⟨s0, s1, s2, s3⟩
    go_simp
    with_reducible rfl
  rotate_left
  · simp only [Act.put, List.setIfInBounds_toArray, List.set_cons_zero, List.set_cons_succ, i64_w, i32_w]
    rfl
  refine take_ (i := 7) (N := some 10) (v := ?_) (a' := ?_) #[true, true, true, true, true, true, true, true, false, false, false] rfl rfl (take_ofW HT_.out HW_.out (by kernel_rfl)) (fun _ _ _ h => h) (Or.inl ⟨by rfl, ?_⟩) hHeld ?_ ?_
  rotate_left
  · rintro w' ⟨s0, s1, s2, s3⟩
    go_simp
    with_reducible rfl
  rotate_left
  · simp only [Act.put, List.setIfInBounds_toArray, List.set_cons_zero, List.set_cons_succ, i64_w, i32_w]
    rfl
  refine one_ (i := 8) (N := some 11) #[true, true, true, true, true, true, true, true, true, false, false] rfl rfl (one_of HT_.out (by kernel_rfl)) (by decide) (fun K hK => ?_)
  refine goes_ Try.func64 (by kernel_rfl) rfl #[.slice A0_3 l0_3.length c0_3] (by rfl) rfl rfl B.am ?_
  with_reducible refine (spec_copyInts.calls _ _ l0_3 t406 _ ?side1 ?side2 A2.out).mono ?_
  (case side1 => exact B.kc (Kd.C_below HR0_3.out HB.out))
  (case side2 => exact HC0_3.out)
  rintro e w6 ⟨v407, rfl, ho0, hb⟩
  refine ⟨_, rfl, ?_⟩
  have n0_ := Aside0.mk (Kd.R_lower ho0 (below_size (B.bl HB)))
  have n1_ := Aside0.mk (blk_below (B.kb BK404) hb)
  have n2_ := Aside0.mk (blk_below (B.kb BK405) hb)
  have n3_ := Aside0.mk (below_step (B.bl HB) hb)
  clear BK404 BK405 HB
  have HO408 := n0_
  have BK404 := n1_
  have BK405 := n2_
  have HB := n3_
  clear n0_ n1_ n2_ n3_
  (try clear hb)
  (try clear hb2)
  (try clear hk)
  (try clear hi)
  (try clear ho0)
  obtain ⟨Ao7, co7, eo7⟩ := Kd.R_slice HO408.out
  (first | subst eo7 | (injection eo7 with f1_ f2_ f3_; have f4_ := f1_.symm; have f5_ := f3_.symm; clear f1_ f2_ f3_; subst f4_; subst f5_))
  refine hK.out _ _ ⟨B.bc BK404 0, B.bc BK404 1, B.bc BK404 2, B.bc BK404 3⟩ (fun hHeld => ?_)
  clear hK K
  refine norm_ (a' := ?_) ?_ ?_
  rotate_left
  · show Act.put _ (some 11) _ = _
    simp only [Act.put, List.setIfInBounds_toArray, List.set_cons_zero, List.set_cons_succ, i64_w, i32_w]
    rfl
  refine pure_ (i := 9) (N := some 12) (v := ?_) (a' := ?_) #[true, true, true, true, true, true, true, true, true, true, false] rfl rfl (any_of HT_.out (by kernel_rfl)) (fun _ _ _ h => h) (Or.inl ⟨by rfl, ?_⟩) ?_ ?_
  rotate_left
  · intro w'
    go_simp
    with_reducible rfl
  rotate_left
  · simp only [Act.put, List.setIfInBounds_toArray, List.set_cons_zero, List.set_cons_succ, i64_w, i32_w]
    rfl
  refine one_ (i := 10) (N := none) #[true, true, true, true, true, true, true, true, true, true, true] rfl rfl (one_of HT_.out (by kernel_rfl)) (by decide) (fun K hK => ?_)
  have hs8 : w6.cell? ⟨gb405, 0, none⟩ = some (.int .i64 0) := B.bc BK405 0
  have hfs8 := blk_frozen BK405.out 0
  have hns8_0 := NB404_405.out
  have hms8_0 := NB405_404.out
  have hs9 : w6.cell? ⟨gb405, 1, none⟩ = some (.int .i64 0) := B.bc BK405 1
  have hfs9 := blk_frozen BK405.out 1
  have hns9_0 := NB404_405.out
  have hms9_0 := NB405_404.out
  have hs10 : w6.cell? ⟨gb405, 2, none⟩ = some (.int .i64 0) := B.bc BK405 2
  have hfs10 := blk_frozen BK405.out 2
  have hns10_0 := NB404_405.out
  have hms10_0 := NB405_404.out
  have hs11 : w6.cell? ⟨gb405, 3, none⟩ = some (.slice none 0 0) := B.bc BK405 3
  have hfs11 := blk_frozen BK405.out 3
  have hns11_0 := NB404_405.out
  have hms11_0 := NB405_404.out
  refine skip_ (w1 := ?_) (by rfl) rfl ?_ ?_
  rotate_left
  · go_simp
    rfl
  refine hK.out _ _ ⟨(B.cf4 NB404_405 hHeld.1), (B.cf4 NB404_405 hHeld.2.1), (B.cf4 NB404_405 hHeld.2.2.1), (B.cf4 NB404_405 hHeld.2.2.2)⟩ (fun hHeld => ?_)
  clear hK K
  refine done_ (done_of HT_.out (by kernel_rfl)) ?_
  try go_wp2
  refine bodyPost_ret (results_cell_row rfl _ _ gb405 26 #[.int .i64 a0_0, .int .i64 a0_1, .int .i64 a0_2, .slice Ao7 t406.length co7] (0, 0) _ rfl (B.kb0 (B.bp4 BK405)) Try.underlying26 rfl (by kernel_rfl)) rfl ?_
  exact ⟨_, by first | rfl | (simp [errW_none, errW_some] <;> rfl) | (simp [*, errW_none, errW_some] <;> rfl), by (with_reducible repeat (first | apply Kd.R_alloc | apply Kd.R_drewN | apply Kd.R_drew)); exact Kd.R_mono (B.rf4 HO408 BK405) (fun _ hk => trivial), B.bl HB⟩

/-! ### impl_copyImage: function 50 -/
def impl_copyImage.f (a0_0 : Int) (a0_1 : Int) (a0_2 : Int) (l0_3 : List Int) : Option (Int × Int × Int × List Int) := (some (([] : List Int) : List Int)).bind fun y333 => (if y333.length + l0_3.length < 17592186044416 then (some (a0_0, a0_1, a0_2, (y333 ++ l0_3))) else (none))
set_option maxHeartbeats 8000000 in
set_option maxRecDepth 100000 in
theorem impl_copyImage.calls (a0_0 : Int) (a0_1 : Int) (a0_2 : Int) (A0_3 : Option Addr) (c0_3 : Nat) (l0_3 : List Int) (r1 : Int) (r2 : Int) (r3 : Int) (r4 : List Int) (w : World) (hr0_3 : Kd.C (Kd.int .i64) w A0_3 l0_3.length l0_3) (hc0_3 : l0_3.length ≤ c0_3) (h : impl_copyImage.f a0_0 a0_1 a0_2 l0_3 = some (r1, r2, r3, r4)) :
    Calls Try.prog 50 #[.agg #[.int .i64 a0_0, .int .i64 a0_1, .int .i64 a0_2, .slice A0_3 l0_3.length c0_3]] w fun e w' => ∃ v3_ : Value, e = .returned (.agg #[.int .i64 r1, .int .i64 r2, .int .i64 r3, v3_]) ∧ Kd.R (Kd.int .i64) 3 w' w.heap.size (fun _ => True) v3_ r4 ∧ Below w.heap.size w w' := by
  have hu26 := Try.underlying26
  have HR0_3 := Aside0.mk hr0_3
  have HC0_3 := Aside0.mk hc0_3
  clear hr0_3 hc0_3
  have HB := Aside0.mk (Below.refl w.heap.size w)
  have H : ((some (([] : List Int) : List Int)).bind fun y333 => (if y333.length + l0_3.length < 17592186044416 then (some (a0_0, a0_1, a0_2, (y333 ++ l0_3))) else (none))) = some (r1, r2, r3, r4) := h
  clear h
  obtain ⟨y333, hy333⟩ : ∃ y_ : List Int, y_ = (([] : List Int)) := ⟨_, rfl⟩
  replace H : (if y333.length + l0_3.length < 17592186044416 then (some (a0_0, a0_1, a0_2, (y333 ++ l0_3))) else (none)) = some (r1, r2, r3, r4) := by first | (rw [hy333]; with_reducible exact H) | (have H2_ := (Option.bind_some _ _).symm.trans H; rw [hy333]; with_reducible exact H2_) | (have H2_ := (Option.bind_some _ _).symm.trans H; with_reducible exact H2_) | with_reducible exact H | (rw [hy333]; exact H) | exact H
  have Ny333 := Aside0.mk hy333
  clear hy333
  by_cases c2 : y333.length + l0_3.length < 17592186044416
  · rw [if_pos c2] at H
    have LMc2 := Aside0.mk c2
    clear c2
    obtain ⟨y336, hy336⟩ : ∃ y_ : List Int, y_ = (y333 ++ l0_3) := ⟨_, rfl⟩
    replace H : (some (a0_0, a0_1, a0_2, y336)) = some (r1, r2, r3, r4) := by first | (rw [hy336]; with_reducible exact H) | (have H2_ := (Option.bind_some _ _).symm.trans H; rw [hy336]; with_reducible exact H2_) | (have H2_ := (Option.bind_some _ _).symm.trans H; with_reducible exact H2_) | with_reducible exact H | (rw [hy336]; exact H) | exact H
    have Ny336 := Aside0.mk hy336
    clear hy336
    simp only [Option.some.injEq, Prod.mk.injEq] at H
    obtain ⟨rfl, rfl, rfl, rfl⟩ := H
    go_enter Try.func50, Try.ntmps50
    go_wp2_with (first | ((with_reducible refine gate_dst (N := 1) rfl ?_); refine box_event ?hg (N := 1) ?hd (cs := #[.int .i64 a0_0, .int .i64 a0_1, .int .i64 a0_2, .slice A0_3 l0_3.length c0_3]) (t := 26) ?hr ?_; (case hd => rfl); (case hg => rfl); (case hr => first | (go_simp; done) | (go_simp; rfl)); intro gb331 hg w3 hbox hb; have n0_ := Aside0.mk (below_step (B.bl HB) hb); have n1_ := Aside0.mk (hbox); have n2_ := Aside0.mk (B.nle hg (below_size (B.bl HB))); have n3_ := Aside0.mk (B.nle hg (below_size (B.bl HB))); clear HB; have HB := n0_; have BK331 := n1_; have GW331 := n2_; have GE331 := n3_; clear n0_ n1_ n2_ n3_; clear hb hbox hg) | ((with_reducible refine gate_dst (N := 2) rfl ?_); refine box_event ?hg (N := 2) ?hd (cs := #[.int .i64 0, .int .i64 0, .int .i64 0, .slice none 0 0]) (t := 26) ?hr ?_; (case hd => rfl); (case hg => rfl); (case hr => first | (go_simp; done) | (go_simp; rfl)); intro gb332 hg w4 hbox hb; have n0_ := Aside0.mk (blk_below (B.kb BK331) hb); have n1_ := Aside0.mk (below_step (B.bl HB) hb); have n2_ := Aside0.mk (hbox); have n3_ := Aside0.mk (B.nle hg (below_size (B.bl HB))); have n4_ := Aside0.mk (B.nle hg (below_size (B.bl HB))); have n5_ := Aside0.mk (B.nlt hg (blk_lt (B.kb BK331))); have n6_ := Aside0.mk (B.ngt hg (blk_lt (B.kb BK331))); clear BK331 HB; have BK331 := n0_; have HB := n1_; have BK332 := n2_; have GW332 := n3_; have GE332 := n4_; have NB331_332 := n5_; have NB332_331 := n6_; clear n0_ n1_ n2_ n3_ n4_ n5_ n6_; clear hb hbox hg) | ((with_reducible refine gate_dst (N := 3) rfl ?_); refine Kd.R_lit (Kd.int .i64) _ 3 ?hg (N := 3) ?hd (xs := ([] : List Int)) (inner := []) (ok := fun _ => True) (okp := fun _ => True) ?hr ?hp (fun _ hk => hk) trivial (Below.refl _ _) (Nat.le_refl _) (by simp) ?_; (case hd => rfl); (case hg => rfl); (case hr => first | (go_simp; done) | (go_simp; rfl)); (case hp => exact (Reps.none _ _)); intro v334 w5 ho6 hb hg_ hnew_; clear hg_ hnew_; (first | rw [← Ny333.out] at ho6 | (simp only [Int.reduceToNat] at ho6; rw [← Ny333.out] at ho6)); have n0_ := Aside0.mk (Kd.R_lower ho6 (below_size (B.bl HB))); have n1_ := Aside0.mk (blk_below (B.kb BK331) hb); have n2_ := Aside0.mk (blk_below (B.kb BK332) hb); have n3_ := Aside0.mk (below_step (B.bl HB) hb); clear BK331 BK332 HB; have HO335 := n0_; have BK331 := n1_; have BK332 := n2_; have HB := n3_; clear n0_ n1_ n2_ n3_; clear hb ho6; have hnb7 := NB331_332.out; have hnc7 := NB332_331.out; have hcz8_0 : w5.cell? ⟨gb331, 0, none⟩ = some (.int .i64 a0_0) := B.bc BK331 0; have hcz8_1 : w5.cell? ⟨gb331, 1, none⟩ = some (.int .i64 a0_1) := B.bc BK331 1; have hcz8_2 : w5.cell? ⟨gb331, 2, none⟩ = some (.int .i64 a0_2) := B.bc BK331 2; have hcz8_3 : w5.cell? ⟨gb331, 3, none⟩ = some (.slice A0_3 l0_3.length c0_3) := B.bc BK331 3; have hfz8_0 := blk_frozen BK331.out 0; have hfz8_1 := blk_frozen BK331.out 1; have hfz8_2 := blk_frozen BK331.out 2; have hfz8_3 := blk_frozen BK331.out 3) | ((with_reducible refine gate_builtin (b := .append) (xs := #[.tmp 3, .tmp 5]) rfl ?_); at_builtin; refine Kd.R_append_rows (Kd.int .i64) (w0 := w) w.heap.size rfl (.tmp 3) (.tmp 5) 22 3 (.int .i64 0) 8 rfl Try.underlying22 info3 rfl (by decide) (by omega) v334 y333 l0_3 _ _ _ (fun _ => True) (fun _ => False) rfl rfl ?aO ?aR (fun _ _ h => h) (fun _ h => h.elim) ?aF ?aB ?aS ?aL ?_; (case aR => exact B.kc (Kd.C_below HR0_3.out HB.out)); (case aB => exact (B.bl HB)); (case aF => exact (fun _ _ => trivial)); (case aO => exact (B.kr HO335)); (case aS => exact (below_size (B.bl HB))); (case aL => have := LMc2.out; omega); intro v337 w9 ho hb hg hat; rw [← Ny336.out] at ho; have n0_ := Aside0.mk (blk_grown (g := gb331) (o := .cells #[.int .i64 a0_0, .int .i64 a0_1, .int .i64 a0_2, .slice A0_3 l0_3.length c0_3] 26 (0, 0)) (B.kb BK331) hg (Kd.R_ne HO335.out BK331.out (by decide))); have n1_ := Aside0.mk (blk_grown (g := gb332) (o := .cells #[.int .i64 0, .int .i64 0, .int .i64 0, .slice none 0 0] 26 (0, 0)) (B.kb BK332) hg (Kd.R_ne HO335.out BK332.out (by decide))); have n2_ := Aside0.mk (hb); have n3_ := Aside0.mk (ho); clear BK331 BK332 HB HO335; have BK331 := n0_; have BK332 := n1_; have HB := n2_; have HO338 := n3_; clear n0_ n1_ n2_ n3_; clear ho hb hg hat; obtain ⟨Ao10, co10, eo10⟩ := Kd.R_slice HO338.out; subst eo10; have hcz11_0 : w9.cell? ⟨gb331, 0, none⟩ = some (.int .i64 a0_0) := B.bc BK331 0; have hcz11_1 : w9.cell? ⟨gb331, 1, none⟩ = some (.int .i64 a0_1) := B.bc BK331 1; have hcz11_2 : w9.cell? ⟨gb331, 2, none⟩ = some (.int .i64 a0_2) := B.bc BK331 2; have hcz11_3 : w9.cell? ⟨gb331, 3, none⟩ = some (.slice A0_3 l0_3.length c0_3) := B.bc BK331 3; have hfz11_0 := blk_frozen BK331.out 0; have hfz11_1 := blk_frozen BK331.out 1; have hfz11_2 := blk_frozen BK331.out 2; have hfz11_3 := blk_frozen BK331.out 3; have hcz12_0 : w9.cell? ⟨gb332, 0, none⟩ = some (.int .i64 0) := B.bc BK332 0; have hcz12_1 : w9.cell? ⟨gb332, 1, none⟩ = some (.int .i64 0) := B.bc BK332 1; have hcz12_2 : w9.cell? ⟨gb332, 2, none⟩ = some (.int .i64 0) := B.bc BK332 2; have hcz12_3 : w9.cell? ⟨gb332, 3, none⟩ = some (.slice none 0 0) := B.bc BK332 3; have hfz12_0 := blk_frozen BK332.out 0; have hfz12_1 := blk_frozen BK332.out 1; have hfz12_2 := blk_frozen BK332.out 2; have hfz12_3 := blk_frozen BK332.out 3))
    refine bodyPost_ret (results_cell_row rfl _ _ gb332 26 #[.int .i64 a0_0, .int .i64 a0_1, .int .i64 a0_2, .slice Ao10 y336.length co10] (0, 0) _ rfl (by (with_reducible repeat (first | refine blk_drewN ?_ _ | refine blk_drew ?_ | refine blk_alloc ?_ _)); refine blk_put (cs := #[.int .i64 a0_0, .int .i64 a0_1, .int .i64 a0_2, .slice none 0 0]) ?_ 3 _ rfl; (with_reducible repeat (first | refine blk_drewN ?_ _ | refine blk_drew ?_ | refine blk_alloc ?_ _)); refine blk_put (cs := #[.int .i64 a0_0, .int .i64 a0_1, .int .i64 0, .slice none 0 0]) ?_ 2 _ rfl; (with_reducible repeat (first | refine blk_drewN ?_ _ | refine blk_drew ?_ | refine blk_alloc ?_ _)); refine blk_put (cs := #[.int .i64 a0_0, .int .i64 0, .int .i64 0, .slice none 0 0]) ?_ 1 _ rfl; (with_reducible repeat (first | refine blk_drewN ?_ _ | refine blk_drew ?_ | refine blk_alloc ?_ _)); refine blk_put (cs := #[.int .i64 0, .int .i64 0, .int .i64 0, .slice none 0 0]) ?_ 0 _ rfl; (with_reducible repeat (first | refine blk_drewN ?_ _ | refine blk_drew ?_ | refine blk_alloc ?_ _)); refine blk_far ?_ NB332_331.out _; (with_reducible repeat (first | refine blk_drewN ?_ _ | refine blk_drew ?_ | refine blk_alloc ?_ _)); exact BK332.out) Try.underlying26 rfl (by kernel_rfl)) rfl ?_
    exact ⟨_, by first | rfl | (simp [errW_none, errW_some] <;> rfl) | (simp [*, errW_none, errW_some] <;> rfl), by (with_reducible repeat (first | apply Kd.R_alloc | apply Kd.R_drewN | apply Kd.R_drew)); exact Kd.R_mono (Kd.R_far (p := ⟨gb332, 3, none⟩) (Kd.R_far (p := ⟨gb332, 2, none⟩) (Kd.R_far (p := ⟨gb332, 1, none⟩) (Kd.R_far (p := ⟨gb332, 0, none⟩) (Kd.R_far (p := ⟨gb331, 3, none⟩) (Kd.R_types (Kd.R_types HO338.out BK331.out (by decide)) BK332.out (by decide)) (fun _ hk => hk.1.2) (.slice Ao10 y336.length co10)) (fun _ hk => hk.2) (.int .i64 a0_0)) (fun _ hk => hk.2) (.int .i64 a0_1)) (fun _ hk => hk.2) (.int .i64 a0_2)) (fun _ hk => hk.2) (.slice Ao10 y336.length co10)) (fun _ hk => trivial), B.bl HB⟩
  rw [if_neg c2] at H
  exact absurd H (by simp)

/-! ### beside impl_copyImage (by hand) -/
-- GIVEN loop.example/pixelworks/impl.copyImage
-- BESIDE yes
theorem copyImage_ok (a b c : Int) (D : List Int) (h : D.length < 17592186044416) : impl_copyImage.f a b c D = some (a, b, c, D) := by
  unfold impl_copyImage.f
  simp only [Option.bind_some, List.length_nil, List.nil_append, Nat.zero_add]
  rw [if_pos h]

/-! ### impl_TurnImage: function 22 (by hand) -/
-- GIVEN loop.example/pixelworks/impl.TurnImage
-- ROUNDS no
-- MAKING yes
def turnPx (W H p : Nat) (D : List Int) (x y : Nat) : List Int := B.pix D W p y (H - 1 - x)
def turn1 (p : Int) (s : Int × Int × List Int) : Int × Int × List Int := (s.2.1, s.1, B.tab s.2.1.toNat s.1.toNat (turnPx s.1.toNat s.2.1.toNat p.toNat s.2.2))
def turnN (p : Int) : Nat → Int × Int × List Int → Int × Int × List Int
  | 0, s => s
  | i + 1, s => turn1 p (turnN p i s)
theorem turn_img (p : Int) (s : Int × Int × List Int) (h : B.ImgI s.1 s.2.1 p s.2.2) : B.ImgI (turn1 p s).1 (turn1 p s).2.1 p (turn1 p s).2.2 := by
  have hn := h.nat
  obtain ⟨a1, a2, a3, a4, a5, a6, _⟩ := h
  have hl := (B.tab_eq s.2.1.toNat s.1.toNat p.toNat (turnPx s.1.toNat s.2.1.toNat p.toNat s.2.2) (fun x y hx hy => B.pix_length s.2.2 s.1.toNat s.2.1.toNat p.toNat y _ hn hy (by omega))).1
  refine ⟨a3, a4, a1, a2, a5, a6, ?_⟩
  show ((B.tab s.2.1.toNat s.1.toNat (turnPx s.1.toNat s.2.1.toNat p.toNat s.2.2)).length : Int) = s.2.1 * s.1 * p
  rw [hl, Nat.mul_comm s.1.toNat s.2.1.toNat]
  have e1 : ((s.2.1.toNat : Nat) : Int) = s.2.1 := Int.toNat_of_nonneg (by omega)
  have e2 : ((s.1.toNat : Nat) : Int) = s.1 := Int.toNat_of_nonneg (by omega)
  have e3 : ((p.toNat : Nat) : Int) = p := Int.toNat_of_nonneg (by omega)
  rw [Int.natCast_mul, Int.natCast_mul, e1, e2, e3]
theorem turnN_img (p : Int) (s : Int × Int × List Int) (h : B.ImgI s.1 s.2.1 p s.2.2) (i : Nat) : B.ImgI (turnN p i s).1 (turnN p i s).2.1 p (turnN p i s).2.2 := by
  induction i with
  | zero => exact h
  | succ i ih => exact turn_img p _ ih
def impl_TurnImage.f (a0_0 : Int) (a0_1 : Int) (a0_2 : Int) (l0_3 : List Int) (a1 : Int) : Option (Int × Int × Int × List Int) :=
  if B.okImg a0_0 a0_1 a0_2 l0_3 = true ∧ (0 ≤ a1 ∧ a1 ≤ 3) then some ((turnN a0_2 a1.toNat (a0_0, a0_1, l0_3)).1, (turnN a0_2 a1.toNat (a0_0, a0_1, l0_3)).2.1, a0_2, (turnN a0_2 a1.toNat (a0_0, a0_1, l0_3)).2.2) else some (0, 0, 0, [])
theorem turn_pix (gm : Nat) (a0_0 : Int) (a0_1 : Int) (a0_2 : Int) (A0_3 : Option Addr) (c0_3 : Nat) (l0_3 : List Int) (w : World) (hm : w.heap[gm]? = some (.cells #[.int .i64 a0_0, .int .i64 a0_1, .int .i64 a0_2, .slice A0_3 l0_3.length c0_3] 26 (0, 0))) (ho : B.ImgI a0_0 a0_1 a0_2 l0_3) (hr : Kd.C (Kd.int .i64) w A0_3 l0_3.length l0_3) (hc : l0_3.length ≤ c0_3) :
    PixG 51 #[.pointer (some ⟨gm, 0, none⟩)] a0_1 a0_0 (turnPx a0_0.toNat a0_1.toNat a0_2.toNat l0_3) w := fun W x y x0 x1 y0 y1 hB => by
  have hm' := blk_below hm hB
  have hr' := Kd.C_below hr hB
  have hm0 : W.cell? ⟨gm, 0, none⟩ = some (.int .i64 a0_0) := (blk_cell hm' 0).trans rfl
  have hm1 : W.cell? ⟨gm, 1, none⟩ = some (.int .i64 a0_1) := (blk_cell hm' 1).trans rfl
  have hm2 : W.cell? ⟨gm, 2, none⟩ = some (.int .i64 a0_2) := (blk_cell hm' 2).trans rfl
  have hm3 : W.cell? ⟨gm, 3, none⟩ = some (.slice A0_3 l0_3.length c0_3) := (blk_cell hm' 3).trans rfl
  have hu28 := Try.underlying26
  have hd := ho
  obtain ⟨d1, d2, d3, d4, _⟩ := hd
  obtain ⟨s1, hs1⟩ : ∃ s : Int, wrap64 (a0_1 - 1) = s := ⟨_, rfl⟩
  have e1 : s1 = a0_1 - 1 := by rw [← hs1]; exact B.w64 (by omega) (by omega)
  obtain ⟨s2, hs2⟩ : ∃ s : Int, wrap64 (s1 - x) = s := ⟨_, rfl⟩
  have e2 : s2 = a0_1 - 1 - x := by rw [← hs2, e1]; exact B.w64 (by omega) (by omega)
  have hs1' : IntKind.i64.wrap (a0_1 - 1) = s1 := (i64_w _).trans hs1
  have hs2' : IntKind.i64.wrap (s1 - x) = s2 := (i64_w _).trans hs2
  have e3 : a0_1.toNat - 1 - x.toNat = s2.toNat := by omega
  have HC := at_calls a0_0 a0_1 a0_2 y s2 A0_3 c0_3 l0_3 W ho ⟨by omega, by omega⟩ ⟨by omega, by omega⟩ hr' hc
  unfold turnPx
  simp only [e3]
  clear e1 e2 e3
  clear ho hr hc hm hr' hm' hB x0 x1 y0 y1 d1 d2 d3 d4
  generalize B.pix l0_3 a0_0.toNat a0_2.toNat y.toNat s2.toNat = px at HC ⊢
  go_enter Try.func51, Try.ntmps51
  go_wp2_with fail
  refine HC.mono ?_
  rintro e w' ⟨A1, c1, rfl, hc1, hC, hb⟩
  go_wp2
  go_ret
  exact ⟨A1, c1, rfl, hc1, hC, hb⟩
set_option maxHeartbeats 8000000 in
theorem turn_no (a0_0 : Int) (a0_1 : Int) (a0_2 : Int) (A0_3 : Option Addr) (c0_3 : Nat) (l0_3 : List Int) (a1 : Int) (w : World) (hr0_3 : Kd.C (Kd.int .i64) w A0_3 l0_3.length l0_3) (hc0_3 : l0_3.length ≤ c0_3) (hv : B.okImg a0_0 a0_1 a0_2 l0_3 = false) :
    Calls Try.prog 22 #[.agg #[.int .i64 a0_0, .int .i64 a0_1, .int .i64 a0_2, .slice A0_3 l0_3.length c0_3], .int .i64 a1] w fun e w' => ∃ v3_ : Value, e = .returned (.agg #[.int .i64 0, .int .i64 0, .int .i64 0, v3_]) ∧ Kd.R (Kd.int .i64) 3 w' w.heap.size (fun _ => True) v3_ [] ∧ Below w.heap.size w w' := by
  have hu28 := Try.underlying26
  have H1 := Aside0.mk (fun (W : World) (hW : Below w.heap.size w W) => impl_isImage.calls a0_0 a0_1 a0_2 A0_3 c0_3 l0_3 false W (Kd.C_below hr0_3 hW) hc0_3 (by rw [isImage_ok, hv]))
  have BM : Aside0 (((w.alloc (.cells #[.int .i64 a0_0, .int .i64 a0_1, .int .i64 a0_2, .slice A0_3 l0_3.length c0_3] 26)).alloc (.cells #[.int .i64 0, .int .i64 0, .int .i64 0, .slice none 0 0] 26)).heap[w.heap.size]? = some (.cells #[.int .i64 a0_0, .int .i64 a0_1, .int .i64 a0_2, .slice A0_3 l0_3.length c0_3] 26 (0, 0))) := ⟨(blk_alloc (heap_alloc_new w (.cells #[.int .i64 a0_0, .int .i64 a0_1, .int .i64 a0_2, .slice A0_3 l0_3.length c0_3] 26)) _)⟩
  have BZ : Aside0 (((w.alloc (.cells #[.int .i64 a0_0, .int .i64 a0_1, .int .i64 a0_2, .slice A0_3 l0_3.length c0_3] 26)).alloc (.cells #[.int .i64 0, .int .i64 0, .int .i64 0, .slice none 0 0] 26)).heap[w.heap.size + 1]? = some (.cells #[.int .i64 0, .int .i64 0, .int .i64 0, .slice none 0 0] 26 (0, 0))) := ⟨(by simpa using heap_alloc_new (w.alloc (.cells #[.int .i64 a0_0, .int .i64 a0_1, .int .i64 a0_2, .slice A0_3 l0_3.length c0_3] 26)) (.cells #[.int .i64 0, .int .i64 0, .int .i64 0, .slice none 0 0] 26))⟩
  have HB : Aside0 (Below w.heap.size w ((w.alloc (.cells #[.int .i64 a0_0, .int .i64 a0_1, .int .i64 a0_2, .slice A0_3 l0_3.length c0_3] 26)).alloc (.cells #[.int .i64 0, .int .i64 0, .int .i64 0, .slice none 0 0] 26))) := ⟨(below_alloc (below_alloc (Below.refl _ _) _) _)⟩
  clear hv hr0_3 hc0_3
  go_enter Try.func22, Try.ntmps22
  go_wp2_with fail
  refine (H1.out _ HB.out).mono ?_
  rintro e w1 ⟨rfl, hb1⟩
  have n0_ := Aside0.mk (blk_below BM.out hb1)
  have n1_ := Aside0.mk (blk_below BZ.out hb1)
  have nb_ := Aside0.mk (below_step HB.out hb1)
  clear BM BZ HB hb1
  have BM := n0_
  have BZ := n1_
  have HB := nb_
  clear n0_ n1_ nb_
  have hcBM0 := B.bc BM 0
  have hcBM1 := B.bc BM 1
  have hcBM2 := B.bc BM 2
  have hcBM3 := B.bc BM 3
  have hcBZ0 := B.bc BZ 0
  have hcBZ1 := B.bc BZ 1
  have hcBZ2 := B.bc BZ 2
  have hcBZ3 := B.bc BZ 3
  have hfBZ0 := blk_frozen BZ.out 0
  have hfBZ1 := blk_frozen BZ.out 1
  have hfBZ2 := blk_frozen BZ.out 2
  have hfBZ3 := blk_frozen BZ.out 3
  go_wp2
  refine bodyPost_ret (results_cell_row rfl _ _ (w.heap.size + 1) 26 #[.int .i64 0, .int .i64 0, .int .i64 0, .slice none 0 0] (0, 0) _ rfl (by first | exact BZ.out | (refine blk_put (cs := #[.int .i64 0, .int .i64 0, .int .i64 0, .slice none 0 0]) ?_ 3 _ rfl; refine blk_put (cs := #[.int .i64 0, .int .i64 0, .int .i64 0, .slice none 0 0]) ?_ 2 _ rfl; refine blk_put (cs := #[.int .i64 0, .int .i64 0, .int .i64 0, .slice none 0 0]) ?_ 1 _ rfl; refine blk_put (cs := #[.int .i64 0, .int .i64 0, .int .i64 0, .slice none 0 0]) ?_ 0 _ rfl; exact BZ.out)) Try.underlying26 rfl (by kernel_rfl)) rfl ?_
  exact ⟨_, by first | rfl | (simp; done), Kd.R_nil _ _ _ _ _, by first | exact HB.out | exact (below_set (below_set (below_set (below_set HB.out (by omega)) (by omega)) (by omega)) (by omega))⟩
set_option maxHeartbeats 8000000 in
theorem turn_lo (a0_0 : Int) (a0_1 : Int) (a0_2 : Int) (A0_3 : Option Addr) (c0_3 : Nat) (l0_3 : List Int) (a1 : Int) (w : World) (hr0_3 : Kd.C (Kd.int .i64) w A0_3 l0_3.length l0_3) (hc0_3 : l0_3.length ≤ c0_3) (hv : B.okImg a0_0 a0_1 a0_2 l0_3 = true) (t1 : a1 < 0) :
    Calls Try.prog 22 #[.agg #[.int .i64 a0_0, .int .i64 a0_1, .int .i64 a0_2, .slice A0_3 l0_3.length c0_3], .int .i64 a1] w fun e w' => ∃ v3_ : Value, e = .returned (.agg #[.int .i64 0, .int .i64 0, .int .i64 0, v3_]) ∧ Kd.R (Kd.int .i64) 3 w' w.heap.size (fun _ => True) v3_ [] ∧ Below w.heap.size w w' := by
  have hu28 := Try.underlying26
  have H1 := Aside0.mk (fun (W : World) (hW : Below w.heap.size w W) => impl_isImage.calls a0_0 a0_1 a0_2 A0_3 c0_3 l0_3 true W (Kd.C_below hr0_3 hW) hc0_3 (by rw [isImage_ok, hv]))
  have u1 : decide (a1 < 0) = true := decide_eq_true t1
  clear t1
  have BM : Aside0 (((w.alloc (.cells #[.int .i64 a0_0, .int .i64 a0_1, .int .i64 a0_2, .slice A0_3 l0_3.length c0_3] 26)).alloc (.cells #[.int .i64 0, .int .i64 0, .int .i64 0, .slice none 0 0] 26)).heap[w.heap.size]? = some (.cells #[.int .i64 a0_0, .int .i64 a0_1, .int .i64 a0_2, .slice A0_3 l0_3.length c0_3] 26 (0, 0))) := ⟨(blk_alloc (heap_alloc_new w (.cells #[.int .i64 a0_0, .int .i64 a0_1, .int .i64 a0_2, .slice A0_3 l0_3.length c0_3] 26)) _)⟩
  have BZ : Aside0 (((w.alloc (.cells #[.int .i64 a0_0, .int .i64 a0_1, .int .i64 a0_2, .slice A0_3 l0_3.length c0_3] 26)).alloc (.cells #[.int .i64 0, .int .i64 0, .int .i64 0, .slice none 0 0] 26)).heap[w.heap.size + 1]? = some (.cells #[.int .i64 0, .int .i64 0, .int .i64 0, .slice none 0 0] 26 (0, 0))) := ⟨(by simpa using heap_alloc_new (w.alloc (.cells #[.int .i64 a0_0, .int .i64 a0_1, .int .i64 a0_2, .slice A0_3 l0_3.length c0_3] 26)) (.cells #[.int .i64 0, .int .i64 0, .int .i64 0, .slice none 0 0] 26))⟩
  have HB : Aside0 (Below w.heap.size w ((w.alloc (.cells #[.int .i64 a0_0, .int .i64 a0_1, .int .i64 a0_2, .slice A0_3 l0_3.length c0_3] 26)).alloc (.cells #[.int .i64 0, .int .i64 0, .int .i64 0, .slice none 0 0] 26))) := ⟨(below_alloc (below_alloc (Below.refl _ _) _) _)⟩
  clear hv hr0_3 hc0_3
  go_enter Try.func22, Try.ntmps22
  go_wp2_with fail
  refine (H1.out _ HB.out).mono ?_
  rintro e w1 ⟨rfl, hb1⟩
  have n0_ := Aside0.mk (blk_below BM.out hb1)
  have n1_ := Aside0.mk (blk_below BZ.out hb1)
  have nb_ := Aside0.mk (below_step HB.out hb1)
  clear BM BZ HB hb1
  have BM := n0_
  have BZ := n1_
  have HB := nb_
  clear n0_ n1_ nb_
  have hcBM0 := B.bc BM 0
  have hcBM1 := B.bc BM 1
  have hcBM2 := B.bc BM 2
  have hcBM3 := B.bc BM 3
  have hcBZ0 := B.bc BZ 0
  have hcBZ1 := B.bc BZ 1
  have hcBZ2 := B.bc BZ 2
  have hcBZ3 := B.bc BZ 3
  have hfBZ0 := blk_frozen BZ.out 0
  have hfBZ1 := blk_frozen BZ.out 1
  have hfBZ2 := blk_frozen BZ.out 2
  have hfBZ3 := blk_frozen BZ.out 3
  go_wp2
  refine bodyPost_ret (results_cell_row rfl _ _ (w.heap.size + 1) 26 #[.int .i64 0, .int .i64 0, .int .i64 0, .slice none 0 0] (0, 0) _ rfl (by first | exact BZ.out | (refine blk_put (cs := #[.int .i64 0, .int .i64 0, .int .i64 0, .slice none 0 0]) ?_ 3 _ rfl; refine blk_put (cs := #[.int .i64 0, .int .i64 0, .int .i64 0, .slice none 0 0]) ?_ 2 _ rfl; refine blk_put (cs := #[.int .i64 0, .int .i64 0, .int .i64 0, .slice none 0 0]) ?_ 1 _ rfl; refine blk_put (cs := #[.int .i64 0, .int .i64 0, .int .i64 0, .slice none 0 0]) ?_ 0 _ rfl; exact BZ.out)) Try.underlying26 rfl (by kernel_rfl)) rfl ?_
  exact ⟨_, by first | rfl | (simp; done), Kd.R_nil _ _ _ _ _, by first | exact HB.out | exact (below_set (below_set (below_set (below_set HB.out (by omega)) (by omega)) (by omega)) (by omega))⟩
set_option maxHeartbeats 8000000 in
theorem turn_hi (a0_0 : Int) (a0_1 : Int) (a0_2 : Int) (A0_3 : Option Addr) (c0_3 : Nat) (l0_3 : List Int) (a1 : Int) (w : World) (hr0_3 : Kd.C (Kd.int .i64) w A0_3 l0_3.length l0_3) (hc0_3 : l0_3.length ≤ c0_3) (hv : B.okImg a0_0 a0_1 a0_2 l0_3 = true) (t1 : ¬ a1 < 0) (t2 : 3 < a1) :
    Calls Try.prog 22 #[.agg #[.int .i64 a0_0, .int .i64 a0_1, .int .i64 a0_2, .slice A0_3 l0_3.length c0_3], .int .i64 a1] w fun e w' => ∃ v3_ : Value, e = .returned (.agg #[.int .i64 0, .int .i64 0, .int .i64 0, v3_]) ∧ Kd.R (Kd.int .i64) 3 w' w.heap.size (fun _ => True) v3_ [] ∧ Below w.heap.size w w' := by
  have hu28 := Try.underlying26
  have H1 := Aside0.mk (fun (W : World) (hW : Below w.heap.size w W) => impl_isImage.calls a0_0 a0_1 a0_2 A0_3 c0_3 l0_3 true W (Kd.C_below hr0_3 hW) hc0_3 (by rw [isImage_ok, hv]))
  have u1 : decide (a1 < 0) = false := decide_eq_false t1
  clear t1
  have u2 : decide (3 < a1) = true := decide_eq_true t2
  clear t2
  have BM : Aside0 (((w.alloc (.cells #[.int .i64 a0_0, .int .i64 a0_1, .int .i64 a0_2, .slice A0_3 l0_3.length c0_3] 26)).alloc (.cells #[.int .i64 0, .int .i64 0, .int .i64 0, .slice none 0 0] 26)).heap[w.heap.size]? = some (.cells #[.int .i64 a0_0, .int .i64 a0_1, .int .i64 a0_2, .slice A0_3 l0_3.length c0_3] 26 (0, 0))) := ⟨(blk_alloc (heap_alloc_new w (.cells #[.int .i64 a0_0, .int .i64 a0_1, .int .i64 a0_2, .slice A0_3 l0_3.length c0_3] 26)) _)⟩
  have BZ : Aside0 (((w.alloc (.cells #[.int .i64 a0_0, .int .i64 a0_1, .int .i64 a0_2, .slice A0_3 l0_3.length c0_3] 26)).alloc (.cells #[.int .i64 0, .int .i64 0, .int .i64 0, .slice none 0 0] 26)).heap[w.heap.size + 1]? = some (.cells #[.int .i64 0, .int .i64 0, .int .i64 0, .slice none 0 0] 26 (0, 0))) := ⟨(by simpa using heap_alloc_new (w.alloc (.cells #[.int .i64 a0_0, .int .i64 a0_1, .int .i64 a0_2, .slice A0_3 l0_3.length c0_3] 26)) (.cells #[.int .i64 0, .int .i64 0, .int .i64 0, .slice none 0 0] 26))⟩
  have HB : Aside0 (Below w.heap.size w ((w.alloc (.cells #[.int .i64 a0_0, .int .i64 a0_1, .int .i64 a0_2, .slice A0_3 l0_3.length c0_3] 26)).alloc (.cells #[.int .i64 0, .int .i64 0, .int .i64 0, .slice none 0 0] 26))) := ⟨(below_alloc (below_alloc (Below.refl _ _) _) _)⟩
  clear hv hr0_3 hc0_3
  go_enter Try.func22, Try.ntmps22
  go_wp2_with fail
  refine (H1.out _ HB.out).mono ?_
  rintro e w1 ⟨rfl, hb1⟩
  have n0_ := Aside0.mk (blk_below BM.out hb1)
  have n1_ := Aside0.mk (blk_below BZ.out hb1)
  have nb_ := Aside0.mk (below_step HB.out hb1)
  clear BM BZ HB hb1
  have BM := n0_
  have BZ := n1_
  have HB := nb_
  clear n0_ n1_ nb_
  have hcBM0 := B.bc BM 0
  have hcBM1 := B.bc BM 1
  have hcBM2 := B.bc BM 2
  have hcBM3 := B.bc BM 3
  have hcBZ0 := B.bc BZ 0
  have hcBZ1 := B.bc BZ 1
  have hcBZ2 := B.bc BZ 2
  have hcBZ3 := B.bc BZ 3
  have hfBZ0 := blk_frozen BZ.out 0
  have hfBZ1 := blk_frozen BZ.out 1
  have hfBZ2 := blk_frozen BZ.out 2
  have hfBZ3 := blk_frozen BZ.out 3
  go_wp2
  refine bodyPost_ret (results_cell_row rfl _ _ (w.heap.size + 1) 26 #[.int .i64 0, .int .i64 0, .int .i64 0, .slice none 0 0] (0, 0) _ rfl (by first | exact BZ.out | (refine blk_put (cs := #[.int .i64 0, .int .i64 0, .int .i64 0, .slice none 0 0]) ?_ 3 _ rfl; refine blk_put (cs := #[.int .i64 0, .int .i64 0, .int .i64 0, .slice none 0 0]) ?_ 2 _ rfl; refine blk_put (cs := #[.int .i64 0, .int .i64 0, .int .i64 0, .slice none 0 0]) ?_ 1 _ rfl; refine blk_put (cs := #[.int .i64 0, .int .i64 0, .int .i64 0, .slice none 0 0]) ?_ 0 _ rfl; exact BZ.out)) Try.underlying26 rfl (by kernel_rfl)) rfl ?_
  exact ⟨_, by first | rfl | (simp; done), Kd.R_nil _ _ _ _ _, by first | exact HB.out | exact (below_set (below_set (below_set (below_set HB.out (by omega)) (by omega)) (by omega)) (by omega))⟩
set_option maxHeartbeats 8000000 in
theorem turn_yes (a0_0 : Int) (a0_1 : Int) (a0_2 : Int) (A0_3 : Option Addr) (c0_3 : Nat) (l0_3 : List Int) (a1 : Int) (w : World) (hr0_3 : Kd.C (Kd.int .i64) w A0_3 l0_3.length l0_3) (hc0_3 : l0_3.length ≤ c0_3) (hv : B.okImg a0_0 a0_1 a0_2 l0_3 = true) (t1 : ¬ a1 < 0) (t2 : ¬ 3 < a1) :
    Calls Try.prog 22 #[.agg #[.int .i64 a0_0, .int .i64 a0_1, .int .i64 a0_2, .slice A0_3 l0_3.length c0_3], .int .i64 a1] w fun e w' => ∃ v3_ : Value, e = .returned (.agg #[.int .i64 (turnN a0_2 a1.toNat (a0_0, a0_1, l0_3)).1, .int .i64 (turnN a0_2 a1.toNat (a0_0, a0_1, l0_3)).2.1, .int .i64 a0_2, v3_]) ∧ Kd.R (Kd.int .i64) 3 w' w.heap.size (fun _ => True) v3_ (turnN a0_2 a1.toNat (a0_0, a0_1, l0_3)).2.2 ∧ Below w.heap.size w w' := by
  have hu28 := Try.underlying26
  have H1 := Aside0.mk (fun (W : World) (hW : Below w.heap.size w W) => impl_isImage.calls a0_0 a0_1 a0_2 A0_3 c0_3 l0_3 true W (Kd.C_below hr0_3 hW) hc0_3 (by rw [isImage_ok, hv]))
  have ho := (B.okImg_img hv).1
  have hdl : l0_3.length < 17592186044416 := by
    have hn := ho.nat
    obtain ⟨a1, a2, a3, a4, a5, a6, _⟩ := ho
    have h3 : a0_1.toNat * a0_0.toNat ≤ 16 * 16 := Nat.mul_le_mul (by omega) (by omega)
    have h4 : a0_1.toNat * a0_0.toNat * a0_2.toNat ≤ 256 * 4 := Nat.mul_le_mul h3 (by omega)
    omega
  have H2 := Aside0.mk (fun (W : World) (hW : Below w.heap.size w W) => impl_copyImage.calls a0_0 a0_1 a0_2 A0_3 c0_3 l0_3 a0_0 a0_1 a0_2 l0_3 W (Kd.C_below hr0_3 hW) hc0_3 (copyImage_ok a0_0 a0_1 a0_2 l0_3 hdl))
  have HIM := Aside0.mk (turnN_img a0_2 (a0_0, a0_1, l0_3) ho)
  have HK := Aside0.mk (show 0 ≤ a1 ∧ a1 ≤ 3 by omega)
  clear hdl
  have H3 := Aside0.mk (fun (tw th : Int) (E : List Int) (A1 : Option Addr) (c1 g : Nat) (W : World) (oi : B.ImgI tw th a0_2 E) (hm : W.heap[g]? = some (.cells #[.int .i64 tw, .int .i64 th, .int .i64 a0_2, .slice A1 E.length c1] 26 (0, 0))) (hr : Kd.C (Kd.int .i64) W A1 E.length E) (hc : E.length ≤ c1) =>
    imageBy_calls th tw a0_2 51 #[.pointer (some ⟨g, 0, none⟩)] (call_enters Try.func51 (by kernel_rfl) rfl) (turnPx tw.toNat th.toNat a0_2.toNat E) W ⟨oi.2.2.1, oi.2.2.2.1⟩ ⟨oi.1, oi.2.1⟩ (fun x y _ _ => by
      have := oi.2.2.2.2.2.1
      unfold turnPx B.pix B.chunk
      rw [List.length_take]
      omega) (turn_pix g tw th a0_2 A1 c1 E W hm oi hr hc))
  clear ho
  have u1 : decide (a1 < 0) = false := decide_eq_false t1
  clear t1
  have u2 : decide (3 < a1) = false := decide_eq_false t2
  clear t2
  have BM : Aside0 (((w.alloc (.cells #[.int .i64 a0_0, .int .i64 a0_1, .int .i64 a0_2, .slice A0_3 l0_3.length c0_3] 26)).alloc (.cells #[.int .i64 0, .int .i64 0, .int .i64 0, .slice none 0 0] 26)).heap[w.heap.size]? = some (.cells #[.int .i64 a0_0, .int .i64 a0_1, .int .i64 a0_2, .slice A0_3 l0_3.length c0_3] 26 (0, 0))) := ⟨(blk_alloc (heap_alloc_new w (.cells #[.int .i64 a0_0, .int .i64 a0_1, .int .i64 a0_2, .slice A0_3 l0_3.length c0_3] 26)) _)⟩
  have BZ : Aside0 (((w.alloc (.cells #[.int .i64 a0_0, .int .i64 a0_1, .int .i64 a0_2, .slice A0_3 l0_3.length c0_3] 26)).alloc (.cells #[.int .i64 0, .int .i64 0, .int .i64 0, .slice none 0 0] 26)).heap[w.heap.size + 1]? = some (.cells #[.int .i64 0, .int .i64 0, .int .i64 0, .slice none 0 0] 26 (0, 0))) := ⟨(by simpa using heap_alloc_new (w.alloc (.cells #[.int .i64 a0_0, .int .i64 a0_1, .int .i64 a0_2, .slice A0_3 l0_3.length c0_3] 26)) (.cells #[.int .i64 0, .int .i64 0, .int .i64 0, .slice none 0 0] 26))⟩
  have HB : Aside0 (Below w.heap.size w ((w.alloc (.cells #[.int .i64 a0_0, .int .i64 a0_1, .int .i64 a0_2, .slice A0_3 l0_3.length c0_3] 26)).alloc (.cells #[.int .i64 0, .int .i64 0, .int .i64 0, .slice none 0 0] 26))) := ⟨(below_alloc (below_alloc (Below.refl _ _) _) _)⟩
  clear hv hr0_3 hc0_3
  go_enter Try.func22, Try.ntmps22
  go_wp2_with fail
  refine (H1.out _ HB.out).mono ?_
  rintro e w1 ⟨rfl, hb1⟩
  have n0_ := Aside0.mk (blk_below BM.out hb1)
  have n1_ := Aside0.mk (blk_below BZ.out hb1)
  have nb_ := Aside0.mk (below_step HB.out hb1)
  clear BM BZ HB hb1
  have BM := n0_
  have BZ := n1_
  have HB := nb_
  clear n0_ n1_ nb_
  have hcBM0 := B.bc BM 0
  have hcBM1 := B.bc BM 1
  have hcBM2 := B.bc BM 2
  have hcBM3 := B.bc BM 3
  go_wp2_with fail
  refine (H2.out _ HB.out).mono ?_
  rintro e w2 ⟨v2, rfl, hrow, hb2⟩
  clear hcBM0 hcBM1 hcBM2 hcBM3
  have HO := Aside0.mk (Kd.R_lower hrow HB.out.size)
  clear hrow
  have n0_ := Aside0.mk (blk_below BM.out hb2)
  have n1_ := Aside0.mk (blk_below BZ.out hb2)
  have nb_ := Aside0.mk (below_step HB.out hb2)
  clear BM BZ HB hb2
  have BM := n0_
  have BZ := n1_
  have HB := nb_
  clear n0_ n1_ nb_
  obtain ⟨Av2, cv2, ev⟩ := Kd.R_slice HO.out
  subst ev
  have hcBM0 := B.bc BM 0
  have hcBM1 := B.bc BM 1
  have hcBM2 := B.bc BM 2
  have hcBM3 := B.bc BM 3
  have BO : Aside0 ((w2.alloc (.cells #[.int .i64 a0_0, .int .i64 a0_1, .int .i64 a0_2, .slice Av2 l0_3.length cv2] 26)).heap[w2.heap.size]? = some (.cells #[.int .i64 a0_0, .int .i64 a0_1, .int .i64 a0_2, .slice Av2 l0_3.length cv2] 26 (0, 0))) := ⟨blk_new w2 _⟩
  have NM := Aside0.mk (Nat.ne_of_lt (blk_lt BM.out))
  have NZ := Aside0.mk (Nat.ne_of_lt (blk_lt BZ.out))
  have GE := Aside0.mk HB.out.size
  have n0_ := Aside0.mk (blk_alloc BM.out (.cells #[.int .i64 a0_0, .int .i64 a0_1, .int .i64 a0_2, .slice Av2 l0_3.length cv2] 26))
  have n1_ := Aside0.mk (blk_alloc BZ.out (.cells #[.int .i64 a0_0, .int .i64 a0_1, .int .i64 a0_2, .slice Av2 l0_3.length cv2] 26))
  have n2_ := Aside0.mk (below_alloc HB.out (.cells #[.int .i64 a0_0, .int .i64 a0_1, .int .i64 a0_2, .slice Av2 l0_3.length cv2] 26))
  have n3_ := Aside0.mk (Kd.R_alloc HO.out (.cells #[.int .i64 a0_0, .int .i64 a0_1, .int .i64 a0_2, .slice Av2 l0_3.length cv2] 26))
  clear BM BZ HB HO
  have BM := n0_
  have BZ := n1_
  have HB := n2_
  have HO := n3_
  clear n0_ n1_ n2_ n3_
  go_wp2
  go_loopg [22] a1.toNat (fun gg v22 wr => ∃ (i : Nat) (tw th : Int) (E : List Int) (v : Value), v22 = .int .i64 i ∧ Aside0 ((tw, th, E) = turnN a0_2 i (a0_0, a0_1, l0_3)) ∧ Aside0 ((i : Int) ≤ a1 ∧ (a1 - i).toNat ≤ gg) ∧ Aside0 (wr.heap[w.heap.size]? = some (.cells #[.int .i64 a0_0, .int .i64 a0_1, .int .i64 a0_2, .slice A0_3 l0_3.length c0_3] 26 (0, 0))) ∧ Aside0 (wr.heap[w.heap.size + 1]? = some (.cells #[.int .i64 0, .int .i64 0, .int .i64 0, .slice none 0 0] 26 (0, 0))) ∧ Aside0 (wr.heap[w2.heap.size]? = some (.cells #[.int .i64 tw, .int .i64 th, .int .i64 a0_2, v] 26 (0, 0))) ∧ Aside0 (Kd.R (Kd.int .i64) 3 wr w.heap.size (fun _ => True) v E) ∧ Aside0 (Below w.heap.size w wr))
  case atStart => exact ⟨0, a0_0, a0_1, l0_3, .slice Av2 l0_3.length cv2, rfl, ⟨rfl⟩, ⟨by have := HK.out; omega⟩, BM, BZ, BO, HO, HB⟩
  case round =>
    clear BM BZ BO HO HB
    obtain ⟨i, tw, th, E, v, rfl, HT, HI, BM, BZ, BO, HO, HB⟩ := hrel
    obtain ⟨Av, cv, ev⟩ := Kd.R_slice HO.out
    subst ev
    have OI : Aside0 (B.ImgI tw th a0_2 E) := ⟨by have := HIM.out i; rw [← HT.out] at this; exact this⟩
    have hcBO0 := B.bc BO 0
    have hcBO1 := B.bc BO 1
    have hcBO2 := B.bc BO 2
    have hcBO3 := B.bc BO 3
    have hcBM0 := B.bc BM 0
    have hcBM1 := B.bc BM 1
    have hcBM2 := B.bc BM 2
    have hcBM3 := B.bc BM 3
    by_cases ci : (i : Int) < a1
    · have cib : decide ((i : Int) < a1) = true := decide_eq_true ci
      have HCI := Aside0.mk ci
      clear ci
      have hwi : wrap64 ((i : Int) + 1) = ((i + 1 : Nat) : Int) := by have := HI.out; have := HK.out; rw [B.w64 (by omega) (by omega)]; omega
      have HWI := Aside0.mk hwi
      clear hwi
      have hlt1 := blk_lt BM.out
      have hlt2 := blk_lt BO.out
      have BN : Aside0 ((wr.alloc (.cells #[.int .i64 tw, .int .i64 th, .int .i64 a0_2, .slice Av E.length cv] 26)).heap[wr.heap.size]? = some (.cells #[.int .i64 tw, .int .i64 th, .int .i64 a0_2, .slice Av E.length cv] 26 (0, 0))) := ⟨blk_new wr _⟩
      have n0_ := Aside0.mk (blk_alloc BM.out (.cells #[.int .i64 tw, .int .i64 th, .int .i64 a0_2, .slice Av E.length cv] 26))
      have n1_ := Aside0.mk (blk_alloc BZ.out (.cells #[.int .i64 tw, .int .i64 th, .int .i64 a0_2, .slice Av E.length cv] 26))
      have n2_ := Aside0.mk (below_alloc HB.out (.cells #[.int .i64 tw, .int .i64 th, .int .i64 a0_2, .slice Av E.length cv] 26))
      have n3_ := Aside0.mk (Kd.R_alloc HO.out (.cells #[.int .i64 tw, .int .i64 th, .int .i64 a0_2, .slice Av E.length cv] 26))
      have n4_ := Aside0.mk (blk_alloc BO.out (.cells #[.int .i64 tw, .int .i64 th, .int .i64 a0_2, .slice Av E.length cv] 26))
      have HR := Aside0.mk (Kd.R_reads' n3_.out).2.2
      have HRC := Aside0.mk (Kd.R_reads' n3_.out).2.1
      clear BM BZ HB HO BO
      have BM := n0_
      have BZ := n1_
      have HB := n2_
      have HO := n3_
      have BO := n4_
      clear n0_ n1_ n2_ n3_ n4_
      go_wp2_with fail
      refine (H3.out tw th E Av cv wr.heap.size _ OI.out BN.out HR.out HRC.out).mono ?_
      rintro e w3 ⟨v3, rfl, hrow, hb3⟩
      clear hcBO0 hcBM0 hcBO1 hcBM1 hcBO2 hcBM2 hcBO3 hcBM3 hlt1 hlt2 BN HR HRC
      have HO3 := Aside0.mk (Kd.R_lower hrow HB.out.size)
      clear hrow HO
      have n0_ := Aside0.mk (blk_below BM.out hb3)
      have n1_ := Aside0.mk (blk_below BZ.out hb3)
      have n2_ := Aside0.mk (below_step HB.out hb3)
      have n4_ := Aside0.mk (blk_below BO.out hb3)
      clear BM BZ HB BO hb3
      have BM := n0_
      have BZ := n1_
      have HB := n2_
      have BO := n4_
      clear n0_ n1_ n2_ n4_
      obtain ⟨Av3, cv3, ev⟩ := Kd.R_slice HO3.out
      subst ev
      have hcBO0 := B.bc BO 0
      have hcBO1 := B.bc BO 1
      have hcBO2 := B.bc BO 2
      have hcBO3 := B.bc BO 3
      have hfBO0 := blk_frozen BO.out 0
      have hfBO1 := blk_frozen BO.out 1
      have hfBO2 := blk_frozen BO.out 2
      have hfBO3 := blk_frozen BO.out 3
      go_wp2
      go_roundg (a1 - (i + 1 : Nat)).toNat
      case measure => have := HI.out; have := HCI.out; omega
      case rel =>
        refine ⟨i + 1, th, tw, _, .slice Av3 _ cv3, ?_, ⟨?_⟩, ⟨by have := HI.out; have := HCI.out; omega⟩, ⟨B.bf4 BM NM⟩, ⟨B.bf4 BZ NZ⟩, ⟨B.bp4 BO⟩, ⟨Kd.R_mono (B.rf4 HO3 BO) (fun _ _ => trivial)⟩, ⟨below_set (below_set (below_set (below_set HB.out GE.out) GE.out) GE.out) GE.out⟩⟩
        · rw [HWI.out]
        · show (th, tw, _) = turn1 a0_2 (turnN a0_2 i (a0_0, a0_1, l0_3))
          rw [← HT.out]
          rfl
    · have cib : decide ((i : Int) < a1) = false := decide_eq_false ci
      have HCI := Aside0.mk ci
      clear ci
      have ei : i = a1.toNat := by have := HI.out; have := HCI.out; omega
      have HE := Aside0.mk ei
      clear ei
      have hcBZ0 := B.bc BZ 0
      have hcBZ1 := B.bc BZ 1
      have hcBZ2 := B.bc BZ 2
      have hcBZ3 := B.bc BZ 3
      have hfBZ0 := blk_frozen BZ.out 0
      have hfBZ1 := blk_frozen BZ.out 1
      have hfBZ2 := blk_frozen BZ.out 2
      have hfBZ3 := blk_frozen BZ.out 3
      go_wp2
      rw [← HE.out, ← HT.out]
      refine bodyPost_ret (results_cell_row rfl _ _ (w.heap.size + 1) 26 #[.int .i64 tw, .int .i64 th, .int .i64 a0_2, .slice Av E.length cv] (0, 0) _ rfl (by first | exact BZ.out | (refine blk_put (cs := #[.int .i64 tw, .int .i64 th, .int .i64 a0_2, .slice none 0 0]) ?_ 3 _ rfl; refine blk_put (cs := #[.int .i64 tw, .int .i64 th, .int .i64 0, .slice none 0 0]) ?_ 2 _ rfl; refine blk_put (cs := #[.int .i64 tw, .int .i64 0, .int .i64 0, .slice none 0 0]) ?_ 1 _ rfl; refine blk_put (cs := #[.int .i64 0, .int .i64 0, .int .i64 0, .slice none 0 0]) ?_ 0 _ rfl; exact BZ.out)) Try.underlying26 rfl (by kernel_rfl)) rfl ?_
      exact ⟨_, by first | rfl | (simp; done), Kd.R_mono (Kd.R_far (p := ⟨w.heap.size + 1, 3, none⟩) (Kd.R_far (p := ⟨w.heap.size + 1, 2, none⟩) (Kd.R_far (p := ⟨w.heap.size + 1, 1, none⟩) (Kd.R_far (p := ⟨w.heap.size + 1, 0, none⟩) (Kd.R_types HO.out BZ.out (by decide)) (fun _ hk => hk.2) (.int .i64 tw)) (fun _ hk => hk.2) (.int .i64 th)) (fun _ hk => hk.2) (.int .i64 a0_2)) (fun _ hk => hk.2) (.slice Av E.length cv)) (fun _ _ => trivial), by first | exact HB.out | exact (below_set (below_set (below_set (below_set HB.out (by omega)) (by omega)) (by omega)) (by omega))⟩
theorem impl_TurnImage.calls (a0_0 : Int) (a0_1 : Int) (a0_2 : Int) (A0_3 : Option Addr) (c0_3 : Nat) (l0_3 : List Int) (a1 : Int) (r1 : Int) (r2 : Int) (r3 : Int) (r4 : List Int) (w : World) (hr0_3 : Kd.C (Kd.int .i64) w A0_3 l0_3.length l0_3) (hc0_3 : l0_3.length ≤ c0_3) (h : impl_TurnImage.f a0_0 a0_1 a0_2 l0_3 a1 = some (r1, r2, r3, r4)) :
    Calls Try.prog 22 #[.agg #[.int .i64 a0_0, .int .i64 a0_1, .int .i64 a0_2, .slice A0_3 l0_3.length c0_3], .int .i64 a1] w fun e w' => ∃ v3_ : Value, e = .returned (.agg #[.int .i64 r1, .int .i64 r2, .int .i64 r3, v3_]) ∧ Kd.R (Kd.int .i64) 3 w' w.heap.size (fun _ => True) v3_ r4 ∧ Below w.heap.size w w' := by
  unfold impl_TurnImage.f at h
  by_cases hv : B.okImg a0_0 a0_1 a0_2 l0_3 = true
  case neg =>
    exact (by
    rw [if_neg (fun g => hv g.1)] at h
    simp only [Option.some.injEq, Prod.mk.injEq] at h
    obtain ⟨rfl, rfl, rfl, rfl⟩ := h
    exact turn_no a0_0 a0_1 a0_2 A0_3 c0_3 l0_3 a1 w hr0_3 hc0_3 (Bool.eq_false_iff.2 hv))
  by_cases t1 : a1 < 0
  · exact (by
    rw [if_neg (fun g => by have := g.2; omega)] at h
    simp only [Option.some.injEq, Prod.mk.injEq] at h
    obtain ⟨rfl, rfl, rfl, rfl⟩ := h
    exact turn_lo a0_0 a0_1 a0_2 A0_3 c0_3 l0_3 a1 w hr0_3 hc0_3 hv t1)
  by_cases t2 : 3 < a1
  · exact (by
    rw [if_neg (fun g => by have := g.2; omega)] at h
    simp only [Option.some.injEq, Prod.mk.injEq] at h
    obtain ⟨rfl, rfl, rfl, rfl⟩ := h
    exact turn_hi a0_0 a0_1 a0_2 A0_3 c0_3 l0_3 a1 w hr0_3 hc0_3 hv t1 t2)
  rw [if_pos ⟨hv, by omega, by omega⟩] at h
  simp only [Option.some.injEq, Prod.mk.injEq] at h
  obtain ⟨rfl, rfl, rfl, rfl⟩ := h
  exact turn_yes a0_0 a0_1 a0_2 A0_3 c0_3 l0_3 a1 w hr0_3 hc0_3 hv t1 t2

end Go.Proofs.Ytibbkaoghbmncaa.Q
