-- Written by a program of this session (the kit's printer, with hand-proved contracts for the functions that it does not take).
import Derived.Test.YtpadegboplcapaaQ0
import Derived.Test.YtpadegboplcapaaQ1
import Derived.Test.YtpadegboplcapaaQ5
import Derived.Test.YtpadegboplcapaaQ6
namespace Go.Proofs.Ytpadegboplcapaa.Q
open Go.RowKit Go.Proofs.YtpadegboplcapaaW.PrintWords Go.Proofs.YtpadegboplcapaaW.PrintLast Go.Proofs.YtpadegboplcapaaW.PrintMore
attribute [local go_sem] max2_int min2_int max_two min_two max_three min_three max_four min_four   -- for this text's walks alone
set_option linter.unusedVariables false
set_option linter.unusedSimpArgs false

/-! ### spec_randomImage: function 59 -/
def spec_randomImage.l0 : Nat → Int → Int → Int → List Int → Int → Int → Int → Int → List Int → Option (Int × Int × Int × List Int × Int)
  | 0, _, _, _, _, _, _, _, _, _ => none
  | k + 1, x6, x7, x8, x1000, x1001, x328000, x328001, x328002, x328003 => if x8 < (x328003.length : Int) then (if x6 = 0 then ((spec_reader_pick.f k x1000 x1001 256).bind fun bt332 => (if 0 ≤ x8 then (spec_randomImage.l0 k x6 bt332.1 (wrap64 (x8 + 1)) x1000 bt332.2 x328000 x328001 x328002 (x328003.set (x8 : Int).toNat bt332.1)) else (none))) else (if x6 = 1 then ((spec_reader_pick.f k x1000 x1001 5).bind fun bt335 => (if 0 ≤ x8 then (spec_randomImage.l0 k x6 (Int.tmod (wrap64 ((wrap64 (x7 + bt335.1)) + 254)) 256) (wrap64 (x8 + 1)) x1000 bt335.2 x328000 x328001 x328002 (x328003.set (x8 : Int).toNat (Int.tmod (wrap64 ((wrap64 (x7 + bt335.1)) + 254)) 256))) else (none))) else (if x6 = 2 then ((spec_reader_pick.f k x1000 x1001 4).bind fun bt338 => (if 0 ≤ x8 then (spec_randomImage.l0 k x6 (wrap64 (60 * bt338.1)) (wrap64 (x8 + 1)) x1000 bt338.2 x328000 x328001 x328002 (x328003.set (x8 : Int).toNat (wrap64 (60 * bt338.1)))) else (none))) else (if 0 ≤ x8 then (spec_randomImage.l0 k x6 x7 (wrap64 (x8 + 1)) x1000 x1001 x328000 x328001 x328002 (x328003.set (x8 : Int).toNat x7)) else (none))))) else (some (x328000, x328001, x328002, x328003, x1001))
def spec_randomImage.f (k : Nat) (s0_0 : List Int) (s0_1 : Int) (a1 : Int) : Option (Int × Int × Int × List Int × Int) := (spec_reader_one.f k s0_0 s0_1 (([3, 4, 2, 5, 1, 8, 6] : List Int))).bind fun bt314 => ((spec_reader_one.f k s0_0 bt314.2 (([3, 2, 4, 1, 5, 8] : List Int))).bind fun bt319 => ((spec_newImage.f bt314.1 bt319.1 a1).bind fun bt321 => ((spec_reader_pick.f k s0_0 bt319.2 4).bind fun bt328 => ((spec_reader_pick.f k s0_0 bt328.2 256).bind fun bt330 => (spec_randomImage.l0 k bt328.1 bt330.1 0 s0_0 bt330.2 bt321.1 bt321.2.1 bt321.2.2.1 bt321.2.2.2)))))
theorem spec_randomImage.mono_l : ∀ k, (∀ y0 y1 y2 y3 y4 y5 y6 y7 y8, LeO (spec_randomImage.l0 k y0 y1 y2 y3 y4 y5 y6 y7 y8) (spec_randomImage.l0 (k + 1) y0 y1 y2 y3 y4 y5 y6 y7 y8))
  | 0 => fun _ _ _ _ _ _ _ _ _ r h => by simp [spec_randomImage.l0] at h
  | k + 1 => by
    have ih0 := spec_randomImage.mono_l k
    · intro y0 y1 y2 y3 y4 y5 y6 y7 y8
      unfold spec_randomImage.l0
      repeat' first
      | (with_reducible exact ih0 _ _ _ _ _ _ _ _ _)
      | (with_reducible exact spec_reader_one.mono _ _ _ _)
      | (with_reducible exact spec_reader_pick.mono _ _ _ _)
      | (with_reducible exact LeO.refl _)
      | (with_reducible exact LeO.none _)
      | (with_reducible refine LeO.ite ?_ ?_)
      | (with_reducible refine LeO.bind ?_ (fun _ => ?_))
      | exact ih0 _ _ _ _ _ _ _ _ _
      | exact spec_reader_one.mono _ _ _ _
      | exact spec_reader_pick.mono _ _ _ _
      | exact LeO.none _
      | refine LeO.ite ?_ ?_
      | refine LeO.bind ?_ (fun _ => ?_)
theorem spec_randomImage.mono : ∀ a0 a1 a2 k, LeO (spec_randomImage.f k a0 a1 a2) (spec_randomImage.f (k + 1) a0 a1 a2) := by
  intro a0 a1 a2 k
  have ih0 := spec_randomImage.mono_l k
  unfold spec_randomImage.f
  repeat' first
      | (with_reducible exact ih0 _ _ _ _ _ _ _ _ _)
      | (with_reducible exact spec_reader_one.mono _ _ _ _)
      | (with_reducible exact spec_reader_pick.mono _ _ _ _)
      | (with_reducible exact LeO.refl _)
      | (with_reducible exact LeO.none _)
      | (with_reducible refine LeO.ite ?_ ?_)
      | (with_reducible refine LeO.bind ?_ (fun _ => ?_))
      | exact ih0 _ _ _ _ _ _ _ _ _
      | exact spec_reader_one.mono _ _ _ _
      | exact spec_reader_pick.mono _ _ _ _
      | exact LeO.none _
      | refine LeO.ite ?_ ?_
      | refine LeO.bind ?_ (fun _ => ?_)
set_option maxHeartbeats 8000000 in
set_option maxRecDepth 100000 in
theorem spec_randomImage.calls (k : Nat) (g : Nat) (s0_0 : List Int) (s0_1 : Int) (a1 : Int) (r1 : Int) (r2 : Int) (r3 : Int) (r4 : List Int) (r5 : Int) (w0 w : World) (hI : IsS74 w0 w g s0_0 s0_1) (hB : Below w0.heap.size w0 w) (h : spec_randomImage.f k s0_0 s0_1 a1 = some (r1, r2, r3, r4, r5)) :
    Calls Try.prog 59 #[.pointer (some ⟨g, 0, none⟩), .int .i64 a1] w fun e w' => ∃ v3_ : Value, e = .returned (.agg #[.int .i64 r1, .int .i64 r2, .int .i64 r3, v3_]) ∧ Kd.R (Kd.int .i64) 3 w' w.heap.size (fun _ => True) v3_ r4 ∧ IsS74 w0 w' g s0_0 r5 ∧ Below w0.heap.size w0 w' ∧ KeepBut w w' g none := by
  have hu34 := Try.underlying34
  have HI0 := Aside0.mk hI
  have HK := Aside0.mk (KeepBut.refl w g none)
  have HL := Aside0.mk hB.size
  clear hI
  have HW0 := Aside0.mk hB.size
  have HB := Aside0.mk hB
  clear hB
  have H : ((spec_reader_one.f k s0_0 s0_1 (([3, 4, 2, 5, 1, 8, 6] : List Int))).bind fun bt314 => ((spec_reader_one.f k s0_0 bt314.2 (([3, 2, 4, 1, 5, 8] : List Int))).bind fun bt319 => ((spec_newImage.f bt314.1 bt319.1 a1).bind fun bt321 => ((spec_reader_pick.f k s0_0 bt319.2 4).bind fun bt328 => ((spec_reader_pick.f k s0_0 bt328.2 256).bind fun bt330 => (spec_randomImage.l0 k bt328.1 bt330.1 0 s0_0 bt330.2 bt321.1 bt321.2.1 bt321.2.2.1 bt321.2.2.2)))))) = some (r1, r2, r3, r4, r5) := h
  clear h
  obtain ⟨y311, hy311⟩ : ∃ y_ : List Int, y_ = (([3, 4, 2, 5, 1, 8, 6] : List Int)) := ⟨_, rfl⟩
  replace H : ((spec_reader_one.f k s0_0 s0_1 y311).bind fun bt314 => ((spec_reader_one.f k s0_0 bt314.2 (([3, 2, 4, 1, 5, 8] : List Int))).bind fun bt319 => ((spec_newImage.f bt314.1 bt319.1 a1).bind fun bt321 => ((spec_reader_pick.f k s0_0 bt319.2 4).bind fun bt328 => ((spec_reader_pick.f k s0_0 bt328.2 256).bind fun bt330 => (spec_randomImage.l0 k bt328.1 bt330.1 0 s0_0 bt330.2 bt321.1 bt321.2.1 bt321.2.2.1 bt321.2.2.2)))))) = some (r1, r2, r3, r4, r5) := by first | (rw [hy311]; with_reducible exact H) | (have H2_ := (Option.bind_some _ _).symm.trans H; rw [hy311]; with_reducible exact H2_) | (have H2_ := (Option.bind_some _ _).symm.trans H; with_reducible exact H2_) | with_reducible exact H | (rw [hy311]; exact H) | exact H
  have Ny311 := Aside0.mk hy311
  clear hy311
  replace H := Option.bind_eq_some_iff.mp H
  obtain ⟨⟨t314, t315⟩, A30, H⟩ := H
  replace H : ((spec_reader_one.f k s0_0 t315 (([3, 2, 4, 1, 5, 8] : List Int))).bind fun bt319 => ((spec_newImage.f t314 bt319.1 a1).bind fun bt321 => ((spec_reader_pick.f k s0_0 bt319.2 4).bind fun bt328 => ((spec_reader_pick.f k s0_0 bt328.2 256).bind fun bt330 => (spec_randomImage.l0 k bt328.1 bt330.1 0 s0_0 bt330.2 bt321.1 bt321.2.1 bt321.2.2.1 bt321.2.2.2))))) = some (r1, r2, r3, r4, r5) := H
  have A3 := Aside0.mk A30
  clear A30
  obtain ⟨y316, hy316⟩ : ∃ y_ : List Int, y_ = (([3, 2, 4, 1, 5, 8] : List Int)) := ⟨_, rfl⟩
  replace H : ((spec_reader_one.f k s0_0 t315 y316).bind fun bt319 => ((spec_newImage.f t314 bt319.1 a1).bind fun bt321 => ((spec_reader_pick.f k s0_0 bt319.2 4).bind fun bt328 => ((spec_reader_pick.f k s0_0 bt328.2 256).bind fun bt330 => (spec_randomImage.l0 k bt328.1 bt330.1 0 s0_0 bt330.2 bt321.1 bt321.2.1 bt321.2.2.1 bt321.2.2.2))))) = some (r1, r2, r3, r4, r5) := by first | (rw [hy316]; with_reducible exact H) | (have H2_ := (Option.bind_some _ _).symm.trans H; rw [hy316]; with_reducible exact H2_) | (have H2_ := (Option.bind_some _ _).symm.trans H; with_reducible exact H2_) | with_reducible exact H | (rw [hy316]; exact H) | exact H
  have Ny316 := Aside0.mk hy316
  clear hy316
  replace H := Option.bind_eq_some_iff.mp H
  obtain ⟨⟨t319, t320⟩, A40, H⟩ := H
  replace H : ((spec_newImage.f t314 t319 a1).bind fun bt321 => ((spec_reader_pick.f k s0_0 t320 4).bind fun bt328 => ((spec_reader_pick.f k s0_0 bt328.2 256).bind fun bt330 => (spec_randomImage.l0 k bt328.1 bt330.1 0 s0_0 bt330.2 bt321.1 bt321.2.1 bt321.2.2.1 bt321.2.2.2)))) = some (r1, r2, r3, r4, r5) := H
  have A4 := Aside0.mk A40
  clear A40
  replace H := Option.bind_eq_some_iff.mp H
  obtain ⟨⟨t321, t322, t323, t324⟩, A50, H⟩ := H
  replace H : ((spec_reader_pick.f k s0_0 t320 4).bind fun bt328 => ((spec_reader_pick.f k s0_0 bt328.2 256).bind fun bt330 => (spec_randomImage.l0 k bt328.1 bt330.1 0 s0_0 bt330.2 t321 t322 t323 t324))) = some (r1, r2, r3, r4, r5) := H
  have A5 := Aside0.mk A50
  clear A50
  replace H := Option.bind_eq_some_iff.mp H
  obtain ⟨⟨t328, t329⟩, A60, H⟩ := H
  replace H : ((spec_reader_pick.f k s0_0 t329 256).bind fun bt330 => (spec_randomImage.l0 k t328 bt330.1 0 s0_0 bt330.2 t321 t322 t323 t324)) = some (r1, r2, r3, r4, r5) := H
  have A6 := Aside0.mk A60
  clear A60
  replace H := Option.bind_eq_some_iff.mp H
  obtain ⟨⟨t330, t331⟩, A70, H⟩ := H
  replace H : (spec_randomImage.l0 k t328 t330 0 s0_0 t331 t321 t322 t323 t324) = some (r1, r2, r3, r4, r5) := H
  have A7 := Aside0.mk A70
  clear A70
  have H' := Aside0.mk H
  clear H
  go_enter Try.func59, Try.ntmps59
  go_wp2_with (first | ((with_reducible refine gate_dst (N := 4) rfl ?_); refine box_event ?hg (N := 4) ?hd (cs := #[.int .i64 0, .int .i64 0, .int .i64 0, .slice none 0 0]) (t := 34) ?hr ?_; (case hd => rfl); (case hg => rfl); (case hr => first | (go_simp; done) | (go_simp; rfl)); intro gb310 hg w8 hbox hb; have n0_ := Aside0.mk (IsS74.below (B.st HI0) hb); have n1_ := Aside0.mk (KeepBut.trans (B.kk HK) (KeepBut.of_below hb g none) (.inl rfl)); have n2_ := Aside0.mk (below_step (B.bs HB) hb); have n3_ := Aside0.mk (hbox); have n4_ := Aside0.mk ((by rw [hg]; exact (keep_size (w := w) (g := g) (row := none) (B.kk HK)) : w.heap.size ≤ gb310)); have n5_ := Aside0.mk ((Nat.le_trans HW0.out (by rw [hg]; exact (keep_size (w := w) (g := g) (row := none) (B.kk HK)) : w.heap.size ≤ gb310) : w0.heap.size ≤ gb310)); have n6_ := Aside0.mk ((by rw [hg]; exact Nat.ne_of_lt (IsS74.lt (show IsS74 w0 _ g s0_0 s0_1 from B.st HI0)) : g ≠ gb310)); have n7_ := Aside0.mk ((by rw [hg]; exact Nat.ne_of_gt (IsS74.lt (show IsS74 w0 _ g s0_0 s0_1 from B.st HI0)) : gb310 ≠ g)); clear HI0 HK HB; have HI0 := n0_; have HK := n1_; have HB := n2_; have BK310 := n3_; have GW310 := n4_; have GE310 := n5_; have NB0_310 := n6_; have NB310_0 := n7_; clear n0_ n1_ n2_ n3_ n4_ n5_ n6_ n7_; clear hb hbox hg) | ((with_reducible refine gate_dst (N := 10) rfl ?_); refine Kd.R_lit (Kd.int .i64) _ 3 ?hg (N := 10) ?hd (xs := ([3, 4, 2, 5, 1, 8, 6] : List Int)) (inner := [.int .i64 3, .int .i64 4, .int .i64 2, .int .i64 5, .int .i64 1, .int .i64 8, .int .i64 6]) (ok := fun _ => True) (okp := fun _ => True) ?hr ?hp (fun _ hk => hk) trivial (Below.refl _ _) (Nat.le_refl _) (by simp) ?_; (case hd => rfl); (case hg => rfl); (case hr => first | (go_simp; done) | (go_simp; rfl)); (case hp => exact (Reps.one (show Kd.M (Kd.int .i64) _ _ _ 3 [.int .i64 3] from rfl) (Reps.one (show Kd.M (Kd.int .i64) _ _ _ 4 [.int .i64 4] from rfl) (Reps.one (show Kd.M (Kd.int .i64) _ _ _ 2 [.int .i64 2] from rfl) (Reps.one (show Kd.M (Kd.int .i64) _ _ _ 5 [.int .i64 5] from rfl) (Reps.one (show Kd.M (Kd.int .i64) _ _ _ 1 [.int .i64 1] from rfl) (Reps.one (show Kd.M (Kd.int .i64) _ _ _ 8 [.int .i64 8] from rfl) (Reps.one (show Kd.M (Kd.int .i64) _ _ _ 6 [.int .i64 6] from rfl) (Reps.none _ _))))))))); intro v312 w9 ho10 hb hg_ hnew_; clear hg_ hnew_; (first | rw [← Ny311.out] at ho10 | (simp only [Int.reduceToNat] at ho10; rw [← Ny311.out] at ho10)); have n0_ := Aside0.mk (Kd.R_lower ho10 (keep_size (w := w) (g := g) (row := none) (B.kk HK))); have n1_ := Aside0.mk (IsS74.below (B.st HI0) hb); have n2_ := Aside0.mk (blk_below (B.kb BK310) hb); have n3_ := Aside0.mk (KeepBut.trans (B.kk HK) (KeepBut.of_below hb g none) (.inl rfl)); have n4_ := Aside0.mk (below_step (B.bs HB) hb); clear HI0 BK310 HK HB; have HO313 := n0_; have HI0 := n1_; have BK310 := n2_; have HK := n3_; have HB := n4_; clear n0_ n1_ n2_ n3_ n4_; clear hb ho10; obtain ⟨Ao11, co11, eo11⟩ := Kd.R_slice HO313.out; subst eo11) | ((with_reducible refine gate_callee (f := 62) rfl ?_); refine goesL_ (some 11) rfl rfl Try.func62 (by kernel_rfl) rfl #[.pointer (some ⟨g, 0, none⟩), .slice Ao11 y311.length co11] rfl B.am ?_; (with_reducible refine (spec_reader_one.calls k g s0_0 s0_1 _ _ y311 t314 t315 w0 _ ?side1 ?side2 ?side3 ?side4 ?side5 A3.out).mono ?_); (case side1 => exact B.st HI0); (case side2 => exact B.bs HB); (case side3 => exact B.kc ((Kd.R_reads' HO313.out).2.2)); (case side4 => exact (Kd.R_reads' HO313.out).2.1); (case side5 => exact far_slice (IsS74.own_ne HI0.out HO313.out (by decide))); rintro e w12 ⟨rfl, hi, hb, hk⟩; refine ⟨_, rfl, ?_⟩; have n0_ := Aside0.mk (KeepBut.blk hk (g' := gb310) (o := .cells #[.int .i64 0, .int .i64 0, .int .i64 0, .slice none 0 0] 34 (0, 0)) (B.kb BK310) NB310_0.out (by simp)); have n1_ := Aside0.mk (Kd.R_mono (Kd.R_keep (IsS74.apart (show IsS74 w0 _ g s0_0 s0_1 from B.st HI0) (B.kr HO313) (by decide)) hk (fun _ h => h.2)) (fun _ h => h.1)); have n2_ := Aside0.mk (KeepBut.trans (B.kk HK) hk (.inl rfl)); have n3_ := Aside0.mk (hb); have n4_ := Aside0.mk (hi); clear BK310 HO313 HK HB HI0; have BK310 := n0_; have HO313 := n1_; have HK := n2_; have HB := n3_; have HI0 := n4_; clear n0_ n1_ n2_ n3_ n4_; (try clear hb); (try clear hb2); (try clear hk); (try clear hi)) | ((with_reducible refine gate_dst (N := 13) rfl ?_); refine Kd.R_lit (Kd.int .i64) _ 3 ?hg (N := 13) ?hd (xs := ([3, 2, 4, 1, 5, 8] : List Int)) (inner := [.int .i64 3, .int .i64 2, .int .i64 4, .int .i64 1, .int .i64 5, .int .i64 8]) (ok := fun _ => True) (okp := fun _ => True) ?hr ?hp (fun _ hk => hk) trivial (Below.refl _ _) (Nat.le_refl _) (by simp) ?_; (case hd => rfl); (case hg => rfl); (case hr => first | (go_simp; done) | (go_simp; rfl)); (case hp => exact (Reps.one (show Kd.M (Kd.int .i64) _ _ _ 3 [.int .i64 3] from rfl) (Reps.one (show Kd.M (Kd.int .i64) _ _ _ 2 [.int .i64 2] from rfl) (Reps.one (show Kd.M (Kd.int .i64) _ _ _ 4 [.int .i64 4] from rfl) (Reps.one (show Kd.M (Kd.int .i64) _ _ _ 1 [.int .i64 1] from rfl) (Reps.one (show Kd.M (Kd.int .i64) _ _ _ 5 [.int .i64 5] from rfl) (Reps.one (show Kd.M (Kd.int .i64) _ _ _ 8 [.int .i64 8] from rfl) (Reps.none _ _)))))))); intro v317 w13 ho14 hb hg_ hnew_; clear hg_ hnew_; (first | rw [← Ny316.out] at ho14 | (simp only [Int.reduceToNat] at ho14; rw [← Ny316.out] at ho14)); have n0_ := Aside0.mk (Kd.R_elder' (B.kr HO313) (Kd.R_base ho14) hb); have n1_ := Aside0.mk (Kd.R_lower (Kd.R_new' ho14 (Kd.R_lt (B.kr HO313))) (keep_size (w := w) (g := g) (row := none) (B.kk HK))); have n2_ := Aside0.mk (IsS74.below (B.st HI0) hb); have n3_ := Aside0.mk (blk_below (B.kb BK310) hb); have n4_ := Aside0.mk (KeepBut.trans (B.kk HK) (KeepBut.of_below hb g none) (.inl rfl)); have n5_ := Aside0.mk (below_step (B.bs HB) hb); clear HO313 HI0 BK310 HK HB; have HO313 := n0_; have HO318 := n1_; have HI0 := n2_; have BK310 := n3_; have HK := n4_; have HB := n5_; clear n0_ n1_ n2_ n3_ n4_ n5_; clear hb ho14; obtain ⟨Ao15, co15, eo15⟩ := Kd.R_slice HO318.out; subst eo15) | ((with_reducible refine gate_callee (f := 62) rfl ?_); refine goesL_ (some 14) rfl rfl Try.func62 (by kernel_rfl) rfl #[.pointer (some ⟨g, 0, none⟩), .slice Ao15 y316.length co15] rfl B.am ?_; (with_reducible refine (spec_reader_one.calls k g s0_0 t315 _ _ y316 t319 t320 w0 _ ?side1 ?side2 ?side3 ?side4 ?side5 A4.out).mono ?_); (case side1 => exact B.st HI0); (case side2 => exact B.bs HB); (case side3 => exact B.kc ((Kd.R_reads' HO318.out).2.2)); (case side4 => exact (Kd.R_reads' HO318.out).2.1); (case side5 => exact far_slice (IsS74.own_ne HI0.out HO318.out (by decide))); rintro e w16 ⟨rfl, hi, hb, hk⟩; refine ⟨_, rfl, ?_⟩; have n0_ := Aside0.mk (KeepBut.blk hk (g' := gb310) (o := .cells #[.int .i64 0, .int .i64 0, .int .i64 0, .slice none 0 0] 34 (0, 0)) (B.kb BK310) NB310_0.out (by simp)); have n1_ := Aside0.mk (Kd.R_mono (Kd.R_keep (IsS74.apart (show IsS74 w0 _ g s0_0 t315 from B.st HI0) (B.kr HO313) (by decide)) hk (fun _ h => h.2)) (fun _ h => h.1)); have n2_ := Aside0.mk (Kd.R_mono (Kd.R_keep (IsS74.apart (show IsS74 w0 _ g s0_0 t315 from B.st HI0) (B.kr HO318) (by decide)) hk (fun _ h => h.2)) (fun _ h => h.1)); have n3_ := Aside0.mk (KeepBut.trans (B.kk HK) hk (.inl rfl)); have n4_ := Aside0.mk (hb); have n5_ := Aside0.mk (hi); clear BK310 HO313 HO318 HK HB HI0; have BK310 := n0_; have HO313 := n1_; have HO318 := n2_; have HK := n3_; have HB := n4_; have HI0 := n5_; clear n0_ n1_ n2_ n3_ n4_ n5_; (try clear hb); (try clear hb2); (try clear hk); (try clear hi)) | ((with_reducible refine gate_callee (f := 65) rfl ?_); refine goesL_ (some 16) rfl rfl Try.func65 (by kernel_rfl) rfl #[.int .i64 t314, .int .i64 t319, .int .i64 a1] rfl B.am ?_; (with_reducible refine (spec_newImage.calls t314 t319 a1 t321 t322 t323 t324 _ A5.out).mono ?_); rintro e w17 ⟨v325, rfl, ho0, hb⟩; refine ⟨_, rfl, ?_⟩; have n0_ := Aside0.mk (Kd.R_elder' (B.kr HO313) (Kd.R_base ho0) hb); have n1_ := Aside0.mk (Kd.R_elder' (B.kr HO318) (Kd.R_base ho0) hb); have n2_ := Aside0.mk (Kd.R_lower (Kd.R_new' (Kd.R_new' ho0 (Kd.R_lt (B.kr HO313))) (Kd.R_lt (B.kr HO318))) (keep_size (w := w) (g := g) (row := none) (B.kk HK))); have n3_ := Aside0.mk (IsS74.below (B.st HI0) hb); have n4_ := Aside0.mk (blk_below (B.kb BK310) hb); have n5_ := Aside0.mk (KeepBut.trans (B.kk HK) (KeepBut.of_below hb g none) (.inl rfl)); have n6_ := Aside0.mk (below_step (B.bs HB) hb); clear HO313 HO318 HI0 BK310 HK HB; have HO313 := n0_; have HO318 := n1_; have HO326 := n2_; have HI0 := n3_; have BK310 := n4_; have HK := n5_; have HB := n6_; clear n0_ n1_ n2_ n3_ n4_ n5_ n6_; (try clear hb); (try clear hb2); (try clear hk); (try clear hi); (try clear ho0)) | ((with_reducible refine gate_dst (N := 5) rfl ?_); refine box_event ?hg (N := 5) ?hd (cs := #[.int .i64 0, .int .i64 0, .int .i64 0, .slice none 0 0]) (t := 34) ?hr ?_; (case hd => rfl); (case hg => rfl); (case hr => first | (go_simp; done) | (go_simp; rfl)); intro gb327 hg w18 hbox hb; have n0_ := Aside0.mk (Kd.R_below (B.kr HO313) hb); have n1_ := Aside0.mk (Kd.R_below (B.kr HO318) hb); have n2_ := Aside0.mk (Kd.R_below (B.kr HO326) hb); have n3_ := Aside0.mk (IsS74.below (B.st HI0) hb); have n4_ := Aside0.mk (blk_below (B.kb BK310) hb); have n5_ := Aside0.mk (KeepBut.trans (B.kk HK) (KeepBut.of_below hb g none) (.inl rfl)); have n6_ := Aside0.mk (below_step (B.bs HB) hb); have n7_ := Aside0.mk (hbox); have n8_ := Aside0.mk ((by rw [hg]; exact (keep_size (w := w) (g := g) (row := none) (B.kk HK)) : w.heap.size ≤ gb327)); have n9_ := Aside0.mk ((Nat.le_trans HW0.out (by rw [hg]; exact (keep_size (w := w) (g := g) (row := none) (B.kk HK)) : w.heap.size ≤ gb327) : w0.heap.size ≤ gb327)); have n10_ := Aside0.mk (B.nlt hg (blk_lt (B.kb BK310))); have n11_ := Aside0.mk (B.ngt hg (blk_lt (B.kb BK310))); have n12_ := Aside0.mk ((by rw [hg]; exact Nat.ne_of_lt (IsS74.lt (show IsS74 w0 _ g s0_0 t320 from B.st HI0)) : g ≠ gb327)); have n13_ := Aside0.mk ((by rw [hg]; exact Nat.ne_of_gt (IsS74.lt (show IsS74 w0 _ g s0_0 t320 from B.st HI0)) : gb327 ≠ g)); clear HO313 HO318 HO326 HI0 BK310 HK HB; have HO313 := n0_; have HO318 := n1_; have HO326 := n2_; have HI0 := n3_; have BK310 := n4_; have HK := n5_; have HB := n6_; have BK327 := n7_; have GW327 := n8_; have GE327 := n9_; have NB310_327 := n10_; have NB327_310 := n11_; have NB0_327 := n12_; have NB327_0 := n13_; clear n0_ n1_ n2_ n3_ n4_ n5_ n6_ n7_ n8_ n9_ n10_ n11_ n12_ n13_; clear hb hbox hg; have hnb19 := NB327_310.out; have hnc19 := NB310_327.out; have hnb20 := NB327_0.out; have hnc20 := NB0_327.out; have hcz21_0 : w18.cell? ⟨gb327, 0, none⟩ = some (.int .i64 0) := B.bc BK327 0; have hcz21_1 : w18.cell? ⟨gb327, 1, none⟩ = some (.int .i64 0) := B.bc BK327 1; have hcz21_2 : w18.cell? ⟨gb327, 2, none⟩ = some (.int .i64 0) := B.bc BK327 2; have hcz21_3 : w18.cell? ⟨gb327, 3, none⟩ = some (.slice none 0 0) := B.bc BK327 3; have hfz21_0 := blk_frozen BK327.out 0; have hfz21_1 := blk_frozen BK327.out 1; have hfz21_2 := blk_frozen BK327.out 2; have hfz21_3 := blk_frozen BK327.out 3; obtain ⟨Ao22, co22, eo22⟩ := Kd.R_slice HO326.out; subst eo22) | ((with_reducible refine gate_callee (f := 43) rfl ?_); refine goesL_ (some 18) rfl rfl Try.func43 (by kernel_rfl) rfl #[.pointer (some ⟨g, 0, none⟩), .int .i64 4] rfl B.am ?_; (with_reducible refine (spec_reader_pick.calls k g s0_0 t320 4 t328 t329 w0 _ ?side1 ?side2 A6.out).mono ?_); (case side1 => exact B.st HI0); (case side2 => exact B.bs HB); rintro e w23 ⟨rfl, hi, hb, hk⟩; refine ⟨_, rfl, ?_⟩; have n0_ := Aside0.mk (KeepBut.blk hk (g' := gb310) (o := .cells #[.int .i64 0, .int .i64 0, .int .i64 0, .slice none 0 0] 34 (0, 0)) (B.kb0 (B.bf4 BK310 NB310_327)) NB310_0.out (by simp)); have n1_ := Aside0.mk (Kd.R_mono (Kd.R_keep (IsS74.apart (show IsS74 w0 _ g s0_0 t320 from B.st HI0) (B.kr0 (B.rs4 HO313 BK327)) (by decide)) hk (fun _ h => h.2)) (fun _ h => h.1)); have n2_ := Aside0.mk (Kd.R_mono (Kd.R_keep (IsS74.apart (show IsS74 w0 _ g s0_0 t320 from B.st HI0) (B.kr0 (B.rs4 HO318 BK327)) (by decide)) hk (fun _ h => h.2)) (fun _ h => h.1)); have n3_ := Aside0.mk (Kd.R_mono (Kd.R_keep (IsS74.apart (show IsS74 w0 _ g s0_0 t320 from B.st HI0) (B.kr0 (B.rs4 HO326 BK327)) (by decide)) hk (fun _ h => h.2)) (fun _ h => h.1)); have n4_ := Aside0.mk (KeepBut.blk hk (g' := gb327) (o := .cells #[.int .i64 t321, .int .i64 t322, .int .i64 t323, .slice Ao22 t324.length co22] 34 (0, 0)) (B.kb0 (B.bp4 BK327)) NB327_0.out (by simp)); have n5_ := Aside0.mk (KeepBut.trans (B.kk HK) hk (.inl rfl)); have n6_ := Aside0.mk (hb); have n7_ := Aside0.mk (hi); clear BK310 HO313 HO318 HO326 BK327 HK HB HI0; have BK310 := n0_; have HO313 := n1_; have HO318 := n2_; have HO326 := n3_; have BK327 := n4_; have HK := n5_; have HB := n6_; have HI0 := n7_; clear n0_ n1_ n2_ n3_ n4_ n5_ n6_ n7_; (try clear hb); (try clear hb2); (try clear hk); (try clear hi)) | ((with_reducible refine gate_callee (f := 43) rfl ?_); refine goesL_ (some 20) rfl rfl Try.func43 (by kernel_rfl) rfl #[.pointer (some ⟨g, 0, none⟩), .int .i64 256] rfl B.am ?_; (with_reducible refine (spec_reader_pick.calls k g s0_0 t329 256 t330 t331 w0 _ ?side1 ?side2 A7.out).mono ?_); (case side1 => exact B.st HI0); (case side2 => exact B.bs HB); rintro e w24 ⟨rfl, hi, hb, hk⟩; refine ⟨_, rfl, ?_⟩; have n0_ := Aside0.mk (KeepBut.blk hk (g' := gb310) (o := .cells #[.int .i64 0, .int .i64 0, .int .i64 0, .slice none 0 0] 34 (0, 0)) (B.kb BK310) NB310_0.out (by simp)); have n1_ := Aside0.mk (Kd.R_mono (Kd.R_keep (IsS74.apart (show IsS74 w0 _ g s0_0 t329 from B.st HI0) (B.kr HO313) (by decide)) hk (fun _ h => h.2)) (fun _ h => h.1)); have n2_ := Aside0.mk (Kd.R_mono (Kd.R_keep (IsS74.apart (show IsS74 w0 _ g s0_0 t329 from B.st HI0) (B.kr HO318) (by decide)) hk (fun _ h => h.2)) (fun _ h => h.1)); have n3_ := Aside0.mk (Kd.R_mono (Kd.R_keep (IsS74.apart (show IsS74 w0 _ g s0_0 t329 from B.st HI0) (B.kr HO326) (by decide)) hk (fun _ h => h.2)) (fun _ h => h.1)); have n4_ := Aside0.mk (KeepBut.blk hk (g' := gb327) (o := .cells #[.int .i64 t321, .int .i64 t322, .int .i64 t323, .slice Ao22 t324.length co22] 34 (0, 0)) (B.kb BK327) NB327_0.out (by simp)); have n5_ := Aside0.mk (KeepBut.trans (B.kk HK) hk (.inl rfl)); have n6_ := Aside0.mk (hb); have n7_ := Aside0.mk (hi); clear BK310 HO313 HO318 HO326 BK327 HK HB HI0; have BK310 := n0_; have HO313 := n1_; have HO318 := n2_; have HO326 := n3_; have BK327 := n4_; have HK := n5_; have HB := n6_; have HI0 := n7_; clear n0_ n1_ n2_ n3_ n4_ n5_ n6_ n7_; (try clear hb); (try clear hb2); (try clear hk); (try clear hi)))
  go_loopg [7, 8] k (fun kq v7 v8 w' => ∃ (x7_1 : Int) (x8_1 : Int) (x1001_1 : Int) (x328003_1 : List Int) (u328003 : Value), v7 = .int .i64 x7_1 ∧ v8 = .int .i64 x8_1 ∧ Aside0 (spec_randomImage.l0 kq t328 x7_1 x8_1 s0_0 x1001_1 t321 t322 t323 x328003_1 = some (r1, r2, r3, r4, r5)) ∧ Aside0 (kq ≤ k) ∧ Aside0 (Kd.R (Kd.int .i64) 3 w' w.heap.size (fun _ => True) u328003 x328003_1) ∧ Aside0 (w'.heap[gb310]? = some (.cells #[.int .i64 0, .int .i64 0, .int .i64 0, (.slice none 0 0)] 34 (0, 0))) ∧ Aside0 (w'.heap[gb327]? = some (.cells #[.int .i64 t321, .int .i64 t322, .int .i64 t323, u328003] 34 (0, 0))) ∧ Aside0 (IsS74 w0 w' g s0_0 x1001_1) ∧ Aside0 (KeepBut w w' g none) ∧ Aside0 (Below w0.heap.size w0 w'))
  case atStart => exact ⟨(t330), (0), (t331), (t324), (.slice Ao22 t324.length co22), (by first | rfl | (simp; done) | (simp [*]; done)), (by first | rfl | (simp; done) | (simp [*]; done)), H', ⟨Nat.le_refl _⟩, ⟨B.kr0 (Kd.R_mono HO326.out (fun _ hk => trivial))⟩, ⟨B.kb BK310⟩, ⟨B.kb BK327⟩, ⟨B.st HI0⟩, ⟨B.kk HK⟩, ⟨B.bs HB⟩⟩
  case round =>
    clear H'
    try clear c1
    try clear c2
    try clear p2
    try clear c4
    try clear c5
    try clear c6
    try clear c19
    try clear c20
    try clear hcz21_0
    try clear hcz21_1
    try clear hcz21_2
    try clear hcz21_3
    try clear hfz21_0
    try clear hfz21_1
    try clear hfz21_2
    try clear hfz21_3
    obtain ⟨x7_1, x8_1, x1001_1, x328003_1, u328003, rfl, rfl, HA, HK1, HO_328003, BK310, BK327, HI0, HK, HB⟩ := hrel
    cases gk with
    | zero => exact absurd HA.out (by simp [spec_randomImage.l0])
    | succ k1 =>
      have H := HA.out
      clear HA
      simp only [spec_randomImage.l0] at H
      by_cases c25 : x8_1 < (x328003_1.length : Int)
      · rw [if_pos c25] at H
        have c25b0 : decide (x8_1 < (x328003_1.length : Int)) = true := decide_eq_true c25
        clear c25
        by_cases c26 : t328 = 0
        · rw [if_pos c26] at H
          have c26b0 : (t328 == 0) = true := beq_iff_eq.mpr c26
          have c26b1 : (t328 != 0) = false := bne_eq_false_iff_eq.mpr c26
          clear c26
          replace H := Option.bind_eq_some_iff.mp H
          obtain ⟨⟨t332, t333⟩, A270, H⟩ := H
          replace H : (if 0 ≤ x8_1 then (spec_randomImage.l0 k1 t328 t332 (wrap64 (x8_1 + 1)) s0_0 t333 t321 t322 t323 (x328003_1.set (x8_1 : Int).toNat t332)) else (none)) = some (r1, r2, r3, r4, r5) := H
          have A27 := Aside0.mk A270
          clear A270
          by_cases c28 : 0 ≤ x8_1
          · rw [if_pos c28] at H
            have c28b0 : decide (0 ≤ x8_1) = true := decide_eq_true c28
            clear c28
            obtain ⟨y334, hy334⟩ : ∃ y_ : List Int, y_ = (x328003_1.set (x8_1 : Int).toNat t332) := ⟨_, rfl⟩
            replace H : (spec_randomImage.l0 k1 t328 t332 (wrap64 (x8_1 + 1)) s0_0 t333 t321 t322 t323 y334) = some (r1, r2, r3, r4, r5) := by first | (rw [hy334]; with_reducible exact H) | (have H2_ := (Option.bind_some _ _).symm.trans H; rw [hy334]; with_reducible exact H2_) | (have H2_ := (Option.bind_some _ _).symm.trans H; with_reducible exact H2_) | with_reducible exact H | (rw [hy334]; exact H) | exact H
            have Ny334 := Aside0.mk hy334
            clear hy334
            have H' := Aside0.mk H
            clear H
            have hnb30 := NB327_310.out
            have hnc30 := NB310_327.out
            have hnb31 := NB327_0.out
            have hnc31 := NB0_327.out
            have hcz32_0 : wr.cell? ⟨gb327, 0, none⟩ = some (.int .i64 t321) := B.bc BK327 0
            have hcz32_1 : wr.cell? ⟨gb327, 1, none⟩ = some (.int .i64 t322) := B.bc BK327 1
            have hcz32_2 : wr.cell? ⟨gb327, 2, none⟩ = some (.int .i64 t323) := B.bc BK327 2
            have hcz32_3 : wr.cell? ⟨gb327, 3, none⟩ = some (u328003) := B.bc BK327 3
            have hfz32_0 := blk_frozen BK327.out 0
            have hfz32_1 := blk_frozen BK327.out 1
            have hfz32_2 := blk_frozen BK327.out 2
            have hfz32_3 := blk_frozen BK327.out 3
            obtain ⟨Ao33, co33, eo33⟩ := Kd.R_slice HO_328003.out
            subst eo33
            go_wp2_with (first | ((with_reducible refine gate_callee (f := 43) rfl ?_); refine goesL_ (some 32) rfl rfl Try.func43 (by kernel_rfl) rfl #[.pointer (some ⟨g, 0, none⟩), .int .i64 256] rfl B.am ?_; (with_reducible refine (spec_reader_pick.calls k1 g s0_0 x1001_1 256 t332 t333 w0 _ ?side1 ?side2 A27.out).mono ?_); (case side1 => exact B.st HI0); (case side2 => exact B.bs HB); rintro e w34 ⟨rfl, hi, hb, hk⟩; refine ⟨_, rfl, ?_⟩; have n0_ := Aside0.mk (Kd.R_mono (Kd.R_keep (IsS74.apart (show IsS74 w0 _ g s0_0 x1001_1 from B.st HI0) (B.kr HO_328003) (by decide)) hk (fun _ h => h.2)) (fun _ h => h.1)); have n1_ := Aside0.mk (KeepBut.blk hk (g' := gb310) (o := .cells #[.int .i64 0, .int .i64 0, .int .i64 0, .slice none 0 0] 34 (0, 0)) (B.kb BK310) NB310_0.out (by simp)); have n2_ := Aside0.mk (KeepBut.blk hk (g' := gb327) (o := .cells #[.int .i64 t321, .int .i64 t322, .int .i64 t323, .slice Ao33 x328003_1.length co33] 34 (0, 0)) (B.kb BK327) NB327_0.out (by simp)); have n3_ := Aside0.mk (KeepBut.trans (B.kk HK) hk (.inl rfl)); have n4_ := Aside0.mk (hb); have n5_ := Aside0.mk (hi); clear HO_328003 BK310 BK327 HK HB HI0; have HO_328003 := n0_; have BK310 := n1_; have BK327 := n2_; have HK := n3_; have HB := n4_; have HI0 := n5_; clear n0_ n1_ n2_ n3_ n4_ n5_; (try clear hb); (try clear hb2); (try clear hk); (try clear hi); have hcz35_0 : w34.cell? ⟨gb327, 0, none⟩ = some (.int .i64 t321) := B.bc BK327 0; have hcz35_1 : w34.cell? ⟨gb327, 1, none⟩ = some (.int .i64 t322) := B.bc BK327 1; have hcz35_2 : w34.cell? ⟨gb327, 2, none⟩ = some (.int .i64 t323) := B.bc BK327 2; have hcz35_3 : w34.cell? ⟨gb327, 3, none⟩ = some (.slice Ao33 x328003_1.length co33) := B.bc BK327 3; have hfz35_0 := blk_frozen BK327.out 0; have hfz35_1 := blk_frozen BK327.out 1; have hfz35_2 := blk_frozen BK327.out 2; have hfz35_3 := blk_frozen BK327.out 3; have p29 : 0 ≤ (x8_1 : Int) := of_decide_eq_true (by first | (with_reducible assumption) | assumption); have q29 : (x8_1 : Int) < ((x328003_1.length : Int) : Int) := of_decide_eq_true (by first | (with_reducible assumption) | assumption); obtain ⟨go29, co29, eo29, gb29, gl29, cl29, HG29⟩ := Kd.R_form HO_328003.out (by omega); (first | cases eo29 | (injection eo29 with ea_ en_ ec_; (first | subst ea_ | (injection ea_ with ea_; subst ea_)); subst ec_; clear en_)); have GB29 := Aside0.mk gb29; have GG29 := Aside0.mk HG29; clear gb29 gl29 HG29; obtain ⟨hx29_0, hf29_0⟩ := Kd.R_celln 0 HO_328003.out (x8_1 : Int) p29 q29; replace p29 := eq_true p29; replace q29 := eq_true q29; obtain ⟨hy36_, hz36_⟩ := Kd.R_celln 0 HO_328003.out (x8_1 : Int) (of_decide_eq_true (by first | (with_reducible assumption) | assumption)) (of_decide_eq_true (by first | (with_reducible assumption) | assumption)); have HP36 := Kd.R_putg HO_328003.out (x8_1 : Int) t332) | ((with_reducible refine gate_store (t := 3) (p := 50) rfl ?_); refine store_event (t := 3) (p := 50) (v := ?vo_w37) (w1 := (w34.setCell ⟨go29, (x8_1 : Int).toNat, none⟩ (.int .i64 t332))) ?hg ?ho ?hn ?hr ?_; (case ho => rfl); (case hg => rfl); (case hn => rfl); (case hr => first | (go_simp; done) | (go_simp; rfl)); intro w37 hw; have hg : w34.grownBy w37 (some go29) := (by rw [hw]; exact HP36.2); have hp_ : Kd.R (Kd.int .i64) 3 w37 w.heap.size (fun _ => True) (.slice (some ⟨go29, 0, none⟩) x328003_1.length co33) y334 := (by rw [hw, Ny334.out]; exact HP36.1); clear HP36; have n0_ := Aside0.mk (hp_); have n1_ := Aside0.mk (blk_grown (g := gb310) (o := .cells #[.int .i64 0, .int .i64 0, .int .i64 0, .slice none 0 0] 34 (0, 0)) (B.kb BK310) hg (Kd.R_ne HO_328003.out BK310.out (by decide))); have n2_ := Aside0.mk (blk_grown (g := gb327) (o := .cells #[.int .i64 t321, .int .i64 t322, .int .i64 t323, .slice (some ⟨go29, 0, none⟩) x328003_1.length co33] 34 (0, 0)) (B.kb BK327) hg (Kd.R_ne HO_328003.out BK327.out (by decide))); have n3_ := Aside0.mk (IsS74.grown (B.st HI0) hg (IsS74.own_ne HI0.out HO_328003.out (by decide))); have n4_ := Aside0.mk ((by rw [hw]; exact below_set (HB.out) (Nat.le_trans HL.out GB29.out) : Below w0.heap.size w0 w37)); have n5_ := Aside0.mk (KeepBut.trans (B.kk HK) (KeepBut.of_grown hg g) (Kd.R_base2 HO_328003.out)); clear HO_328003 BK310 BK327 HI0 HB HK; have HO_328003 := n0_; have BK310 := n1_; have BK327 := n2_; have HI0 := n3_; have HB := n4_; have HK := n5_; clear n0_ n1_ n2_ n3_ n4_ n5_; clear hg hw hp_))
            go_roundg k1
            case measure => have := HK1.out; omega
            case rel => exact ⟨(t332), (wrap64 (x8_1 + 1)), (t333), (y334), (.slice (some ⟨go29, 0, none⟩) x328003_1.length co33), (by first | rfl | (simp; done) | (simp [*]; done)), (by first | rfl | (simp; done) | (simp [*]; done)), H', ⟨by have := HK1.out; omega⟩, ⟨B.kr HO_328003⟩, ⟨B.kb BK310⟩, ⟨B.kb BK327⟩, ⟨B.st HI0⟩, ⟨B.kk HK⟩, ⟨B.bs HB⟩⟩
          rw [if_neg c28] at H
          exact absurd H (by simp)
        rw [if_neg c26] at H
        have c26b0 : (t328 == 0) = false := beq_eq_false_iff_ne.mpr c26
        have c26b1 : (t328 != 0) = true := bne_iff_ne.mpr c26
        by_cases c38 : t328 = 1
        · rw [if_pos c38] at H
          have c38b0 : (t328 == 1) = true := beq_iff_eq.mpr c38
          have c38b1 : (t328 != 1) = false := bne_eq_false_iff_eq.mpr c38
          clear c38
          replace H := Option.bind_eq_some_iff.mp H
          obtain ⟨⟨t335, t336⟩, A390, H⟩ := H
          replace H : (if 0 ≤ x8_1 then (spec_randomImage.l0 k1 t328 (Int.tmod (wrap64 ((wrap64 (x7_1 + t335)) + 254)) 256) (wrap64 (x8_1 + 1)) s0_0 t336 t321 t322 t323 (x328003_1.set (x8_1 : Int).toNat (Int.tmod (wrap64 ((wrap64 (x7_1 + t335)) + 254)) 256))) else (none)) = some (r1, r2, r3, r4, r5) := H
          have A39 := Aside0.mk A390
          clear A390
          by_cases c40 : 0 ≤ x8_1
          · rw [if_pos c40] at H
            have c40b0 : decide (0 ≤ x8_1) = true := decide_eq_true c40
            clear c40
            obtain ⟨y337, hy337⟩ : ∃ y_ : List Int, y_ = (x328003_1.set (x8_1 : Int).toNat (Int.tmod (wrap64 ((wrap64 (x7_1 + t335)) + 254)) 256)) := ⟨_, rfl⟩
            replace H : (spec_randomImage.l0 k1 t328 (Int.tmod (wrap64 ((wrap64 (x7_1 + t335)) + 254)) 256) (wrap64 (x8_1 + 1)) s0_0 t336 t321 t322 t323 y337) = some (r1, r2, r3, r4, r5) := by first | (rw [hy337]; with_reducible exact H) | (have H2_ := (Option.bind_some _ _).symm.trans H; rw [hy337]; with_reducible exact H2_) | (have H2_ := (Option.bind_some _ _).symm.trans H; with_reducible exact H2_) | with_reducible exact H | (rw [hy337]; exact H) | exact H
            have Ny337 := Aside0.mk hy337
            clear hy337
            have H' := Aside0.mk H
            clear H
            have hnb42 := NB327_310.out
            have hnc42 := NB310_327.out
            have hnb43 := NB327_0.out
            have hnc43 := NB0_327.out
            have hcz44_0 : wr.cell? ⟨gb327, 0, none⟩ = some (.int .i64 t321) := B.bc BK327 0
            have hcz44_1 : wr.cell? ⟨gb327, 1, none⟩ = some (.int .i64 t322) := B.bc BK327 1
            have hcz44_2 : wr.cell? ⟨gb327, 2, none⟩ = some (.int .i64 t323) := B.bc BK327 2
            have hcz44_3 : wr.cell? ⟨gb327, 3, none⟩ = some (u328003) := B.bc BK327 3
            have hfz44_0 := blk_frozen BK327.out 0
            have hfz44_1 := blk_frozen BK327.out 1
            have hfz44_2 := blk_frozen BK327.out 2
            have hfz44_3 := blk_frozen BK327.out 3
            obtain ⟨Ao45, co45, eo45⟩ := Kd.R_slice HO_328003.out
            subst eo45
            go_wp2_with (first | ((with_reducible refine gate_callee (f := 43) rfl ?_); refine goesL_ (some 37) rfl rfl Try.func43 (by kernel_rfl) rfl #[.pointer (some ⟨g, 0, none⟩), .int .i64 5] rfl B.am ?_; (with_reducible refine (spec_reader_pick.calls k1 g s0_0 x1001_1 5 t335 t336 w0 _ ?side1 ?side2 A39.out).mono ?_); (case side1 => exact B.st HI0); (case side2 => exact B.bs HB); rintro e w46 ⟨rfl, hi, hb, hk⟩; refine ⟨_, rfl, ?_⟩; have n0_ := Aside0.mk (Kd.R_mono (Kd.R_keep (IsS74.apart (show IsS74 w0 _ g s0_0 x1001_1 from B.st HI0) (B.kr HO_328003) (by decide)) hk (fun _ h => h.2)) (fun _ h => h.1)); have n1_ := Aside0.mk (KeepBut.blk hk (g' := gb310) (o := .cells #[.int .i64 0, .int .i64 0, .int .i64 0, .slice none 0 0] 34 (0, 0)) (B.kb BK310) NB310_0.out (by simp)); have n2_ := Aside0.mk (KeepBut.blk hk (g' := gb327) (o := .cells #[.int .i64 t321, .int .i64 t322, .int .i64 t323, .slice Ao45 x328003_1.length co45] 34 (0, 0)) (B.kb BK327) NB327_0.out (by simp)); have n3_ := Aside0.mk (KeepBut.trans (B.kk HK) hk (.inl rfl)); have n4_ := Aside0.mk (hb); have n5_ := Aside0.mk (hi); clear HO_328003 BK310 BK327 HK HB HI0; have HO_328003 := n0_; have BK310 := n1_; have BK327 := n2_; have HK := n3_; have HB := n4_; have HI0 := n5_; clear n0_ n1_ n2_ n3_ n4_ n5_; (try clear hb); (try clear hb2); (try clear hk); (try clear hi); have hcz47_0 : w46.cell? ⟨gb327, 0, none⟩ = some (.int .i64 t321) := B.bc BK327 0; have hcz47_1 : w46.cell? ⟨gb327, 1, none⟩ = some (.int .i64 t322) := B.bc BK327 1; have hcz47_2 : w46.cell? ⟨gb327, 2, none⟩ = some (.int .i64 t323) := B.bc BK327 2; have hcz47_3 : w46.cell? ⟨gb327, 3, none⟩ = some (.slice Ao45 x328003_1.length co45) := B.bc BK327 3; have hfz47_0 := blk_frozen BK327.out 0; have hfz47_1 := blk_frozen BK327.out 1; have hfz47_2 := blk_frozen BK327.out 2; have hfz47_3 := blk_frozen BK327.out 3; have p41 : 0 ≤ (x8_1 : Int) := of_decide_eq_true (by first | (with_reducible assumption) | assumption); have q41 : (x8_1 : Int) < ((x328003_1.length : Int) : Int) := of_decide_eq_true (by first | (with_reducible assumption) | assumption); obtain ⟨go41, co41, eo41, gb41, gl41, cl41, HG41⟩ := Kd.R_form HO_328003.out (by omega); (first | cases eo41 | (injection eo41 with ea_ en_ ec_; (first | subst ea_ | (injection ea_ with ea_; subst ea_)); subst ec_; clear en_)); have GB41 := Aside0.mk gb41; have GG41 := Aside0.mk HG41; clear gb41 gl41 HG41; obtain ⟨hx41_0, hf41_0⟩ := Kd.R_celln 0 HO_328003.out (x8_1 : Int) p41 q41; replace p41 := eq_true p41; replace q41 := eq_true q41; obtain ⟨hy48_, hz48_⟩ := Kd.R_celln 0 HO_328003.out (x8_1 : Int) (of_decide_eq_true (by first | (with_reducible assumption) | assumption)) (of_decide_eq_true (by first | (with_reducible assumption) | assumption)); have HP48 := Kd.R_putg HO_328003.out (x8_1 : Int) (Int.tmod (wrap64 ((wrap64 (x7_1 + t335)) + 254)) 256)) | ((with_reducible refine gate_store (t := 3) (p := 50) rfl ?_); refine store_event (t := 3) (p := 50) (v := ?vo_w49) (w1 := (w46.setCell ⟨go41, (x8_1 : Int).toNat, none⟩ (.int .i64 (Int.tmod (wrap64 ((wrap64 (x7_1 + t335)) + 254)) 256)))) ?hg ?ho ?hn ?hr ?_; (case ho => rfl); (case hg => rfl); (case hn => rfl); (case hr => first | (go_simp; done) | (go_simp; rfl)); intro w49 hw; have hg : w46.grownBy w49 (some go41) := (by rw [hw]; exact HP48.2); have hp_ : Kd.R (Kd.int .i64) 3 w49 w.heap.size (fun _ => True) (.slice (some ⟨go41, 0, none⟩) x328003_1.length co45) y337 := (by rw [hw, Ny337.out]; exact HP48.1); clear HP48; have n0_ := Aside0.mk (hp_); have n1_ := Aside0.mk (blk_grown (g := gb310) (o := .cells #[.int .i64 0, .int .i64 0, .int .i64 0, .slice none 0 0] 34 (0, 0)) (B.kb BK310) hg (Kd.R_ne HO_328003.out BK310.out (by decide))); have n2_ := Aside0.mk (blk_grown (g := gb327) (o := .cells #[.int .i64 t321, .int .i64 t322, .int .i64 t323, .slice (some ⟨go41, 0, none⟩) x328003_1.length co45] 34 (0, 0)) (B.kb BK327) hg (Kd.R_ne HO_328003.out BK327.out (by decide))); have n3_ := Aside0.mk (IsS74.grown (B.st HI0) hg (IsS74.own_ne HI0.out HO_328003.out (by decide))); have n4_ := Aside0.mk ((by rw [hw]; exact below_set (HB.out) (Nat.le_trans HL.out GB41.out) : Below w0.heap.size w0 w49)); have n5_ := Aside0.mk (KeepBut.trans (B.kk HK) (KeepBut.of_grown hg g) (Kd.R_base2 HO_328003.out)); clear HO_328003 BK310 BK327 HI0 HB HK; have HO_328003 := n0_; have BK310 := n1_; have BK327 := n2_; have HI0 := n3_; have HB := n4_; have HK := n5_; clear n0_ n1_ n2_ n3_ n4_ n5_; clear hg hw hp_))
            go_roundg k1
            case measure => have := HK1.out; omega
            case rel => exact ⟨(Int.tmod (wrap64 ((wrap64 (x7_1 + t335)) + 254)) 256), (wrap64 (x8_1 + 1)), (t336), (y337), (.slice (some ⟨go41, 0, none⟩) x328003_1.length co45), (by first | rfl | (simp; done) | (simp [*]; done)), (by first | rfl | (simp; done) | (simp [*]; done)), H', ⟨by have := HK1.out; omega⟩, ⟨B.kr HO_328003⟩, ⟨B.kb BK310⟩, ⟨B.kb BK327⟩, ⟨B.st HI0⟩, ⟨B.kk HK⟩, ⟨B.bs HB⟩⟩
          rw [if_neg c40] at H
          exact absurd H (by simp)
        rw [if_neg c38] at H
        have c38b0 : (t328 == 1) = false := beq_eq_false_iff_ne.mpr c38
        have c38b1 : (t328 != 1) = true := bne_iff_ne.mpr c38
        by_cases c50 : t328 = 2
        · rw [if_pos c50] at H
          have c50b0 : (t328 == 2) = true := beq_iff_eq.mpr c50
          have c50b1 : (t328 != 2) = false := bne_eq_false_iff_eq.mpr c50
          clear c50
          replace H := Option.bind_eq_some_iff.mp H
          obtain ⟨⟨t338, t339⟩, A510, H⟩ := H
          replace H : (if 0 ≤ x8_1 then (spec_randomImage.l0 k1 t328 (wrap64 (60 * t338)) (wrap64 (x8_1 + 1)) s0_0 t339 t321 t322 t323 (x328003_1.set (x8_1 : Int).toNat (wrap64 (60 * t338)))) else (none)) = some (r1, r2, r3, r4, r5) := H
          have A51 := Aside0.mk A510
          clear A510
          by_cases c52 : 0 ≤ x8_1
          · rw [if_pos c52] at H
            have c52b0 : decide (0 ≤ x8_1) = true := decide_eq_true c52
            clear c52
            obtain ⟨y340, hy340⟩ : ∃ y_ : List Int, y_ = (x328003_1.set (x8_1 : Int).toNat (wrap64 (60 * t338))) := ⟨_, rfl⟩
            replace H : (spec_randomImage.l0 k1 t328 (wrap64 (60 * t338)) (wrap64 (x8_1 + 1)) s0_0 t339 t321 t322 t323 y340) = some (r1, r2, r3, r4, r5) := by first | (rw [hy340]; with_reducible exact H) | (have H2_ := (Option.bind_some _ _).symm.trans H; rw [hy340]; with_reducible exact H2_) | (have H2_ := (Option.bind_some _ _).symm.trans H; with_reducible exact H2_) | with_reducible exact H | (rw [hy340]; exact H) | exact H
            have Ny340 := Aside0.mk hy340
            clear hy340
            have H' := Aside0.mk H
            clear H
            have hnb54 := NB327_310.out
            have hnc54 := NB310_327.out
            have hnb55 := NB327_0.out
            have hnc55 := NB0_327.out
            have hcz56_0 : wr.cell? ⟨gb327, 0, none⟩ = some (.int .i64 t321) := B.bc BK327 0
            have hcz56_1 : wr.cell? ⟨gb327, 1, none⟩ = some (.int .i64 t322) := B.bc BK327 1
            have hcz56_2 : wr.cell? ⟨gb327, 2, none⟩ = some (.int .i64 t323) := B.bc BK327 2
            have hcz56_3 : wr.cell? ⟨gb327, 3, none⟩ = some (u328003) := B.bc BK327 3
            have hfz56_0 := blk_frozen BK327.out 0
            have hfz56_1 := blk_frozen BK327.out 1
            have hfz56_2 := blk_frozen BK327.out 2
            have hfz56_3 := blk_frozen BK327.out 3
            obtain ⟨Ao57, co57, eo57⟩ := Kd.R_slice HO_328003.out
            subst eo57
            go_wp2_with (first | ((with_reducible refine gate_callee (f := 43) rfl ?_); refine goesL_ (some 44) rfl rfl Try.func43 (by kernel_rfl) rfl #[.pointer (some ⟨g, 0, none⟩), .int .i64 4] rfl B.am ?_; (with_reducible refine (spec_reader_pick.calls k1 g s0_0 x1001_1 4 t338 t339 w0 _ ?side1 ?side2 A51.out).mono ?_); (case side1 => exact B.st HI0); (case side2 => exact B.bs HB); rintro e w58 ⟨rfl, hi, hb, hk⟩; refine ⟨_, rfl, ?_⟩; have n0_ := Aside0.mk (Kd.R_mono (Kd.R_keep (IsS74.apart (show IsS74 w0 _ g s0_0 x1001_1 from B.st HI0) (B.kr HO_328003) (by decide)) hk (fun _ h => h.2)) (fun _ h => h.1)); have n1_ := Aside0.mk (KeepBut.blk hk (g' := gb310) (o := .cells #[.int .i64 0, .int .i64 0, .int .i64 0, .slice none 0 0] 34 (0, 0)) (B.kb BK310) NB310_0.out (by simp)); have n2_ := Aside0.mk (KeepBut.blk hk (g' := gb327) (o := .cells #[.int .i64 t321, .int .i64 t322, .int .i64 t323, .slice Ao57 x328003_1.length co57] 34 (0, 0)) (B.kb BK327) NB327_0.out (by simp)); have n3_ := Aside0.mk (KeepBut.trans (B.kk HK) hk (.inl rfl)); have n4_ := Aside0.mk (hb); have n5_ := Aside0.mk (hi); clear HO_328003 BK310 BK327 HK HB HI0; have HO_328003 := n0_; have BK310 := n1_; have BK327 := n2_; have HK := n3_; have HB := n4_; have HI0 := n5_; clear n0_ n1_ n2_ n3_ n4_ n5_; (try clear hb); (try clear hb2); (try clear hk); (try clear hi); have hcz59_0 : w58.cell? ⟨gb327, 0, none⟩ = some (.int .i64 t321) := B.bc BK327 0; have hcz59_1 : w58.cell? ⟨gb327, 1, none⟩ = some (.int .i64 t322) := B.bc BK327 1; have hcz59_2 : w58.cell? ⟨gb327, 2, none⟩ = some (.int .i64 t323) := B.bc BK327 2; have hcz59_3 : w58.cell? ⟨gb327, 3, none⟩ = some (.slice Ao57 x328003_1.length co57) := B.bc BK327 3; have hfz59_0 := blk_frozen BK327.out 0; have hfz59_1 := blk_frozen BK327.out 1; have hfz59_2 := blk_frozen BK327.out 2; have hfz59_3 := blk_frozen BK327.out 3; have p53 : 0 ≤ (x8_1 : Int) := of_decide_eq_true (by first | (with_reducible assumption) | assumption); have q53 : (x8_1 : Int) < ((x328003_1.length : Int) : Int) := of_decide_eq_true (by first | (with_reducible assumption) | assumption); obtain ⟨go53, co53, eo53, gb53, gl53, cl53, HG53⟩ := Kd.R_form HO_328003.out (by omega); (first | cases eo53 | (injection eo53 with ea_ en_ ec_; (first | subst ea_ | (injection ea_ with ea_; subst ea_)); subst ec_; clear en_)); have GB53 := Aside0.mk gb53; have GG53 := Aside0.mk HG53; clear gb53 gl53 HG53; obtain ⟨hx53_0, hf53_0⟩ := Kd.R_celln 0 HO_328003.out (x8_1 : Int) p53 q53; replace p53 := eq_true p53; replace q53 := eq_true q53; obtain ⟨hy60_, hz60_⟩ := Kd.R_celln 0 HO_328003.out (x8_1 : Int) (of_decide_eq_true (by first | (with_reducible assumption) | assumption)) (of_decide_eq_true (by first | (with_reducible assumption) | assumption)); have HP60 := Kd.R_putg HO_328003.out (x8_1 : Int) (wrap64 (60 * t338))) | ((with_reducible refine gate_store (t := 3) (p := 50) rfl ?_); refine store_event (t := 3) (p := 50) (v := ?vo_w61) (w1 := (w58.setCell ⟨go53, (x8_1 : Int).toNat, none⟩ (.int .i64 (wrap64 (60 * t338))))) ?hg ?ho ?hn ?hr ?_; (case ho => rfl); (case hg => rfl); (case hn => rfl); (case hr => first | (go_simp; done) | (go_simp; rfl)); intro w61 hw; have hg : w58.grownBy w61 (some go53) := (by rw [hw]; exact HP60.2); have hp_ : Kd.R (Kd.int .i64) 3 w61 w.heap.size (fun _ => True) (.slice (some ⟨go53, 0, none⟩) x328003_1.length co57) y340 := (by rw [hw, Ny340.out]; exact HP60.1); clear HP60; have n0_ := Aside0.mk (hp_); have n1_ := Aside0.mk (blk_grown (g := gb310) (o := .cells #[.int .i64 0, .int .i64 0, .int .i64 0, .slice none 0 0] 34 (0, 0)) (B.kb BK310) hg (Kd.R_ne HO_328003.out BK310.out (by decide))); have n2_ := Aside0.mk (blk_grown (g := gb327) (o := .cells #[.int .i64 t321, .int .i64 t322, .int .i64 t323, .slice (some ⟨go53, 0, none⟩) x328003_1.length co57] 34 (0, 0)) (B.kb BK327) hg (Kd.R_ne HO_328003.out BK327.out (by decide))); have n3_ := Aside0.mk (IsS74.grown (B.st HI0) hg (IsS74.own_ne HI0.out HO_328003.out (by decide))); have n4_ := Aside0.mk ((by rw [hw]; exact below_set (HB.out) (Nat.le_trans HL.out GB53.out) : Below w0.heap.size w0 w61)); have n5_ := Aside0.mk (KeepBut.trans (B.kk HK) (KeepBut.of_grown hg g) (Kd.R_base2 HO_328003.out)); clear HO_328003 BK310 BK327 HI0 HB HK; have HO_328003 := n0_; have BK310 := n1_; have BK327 := n2_; have HI0 := n3_; have HB := n4_; have HK := n5_; clear n0_ n1_ n2_ n3_ n4_ n5_; clear hg hw hp_))
            go_roundg k1
            case measure => have := HK1.out; omega
            case rel => exact ⟨(wrap64 (60 * t338)), (wrap64 (x8_1 + 1)), (t339), (y340), (.slice (some ⟨go53, 0, none⟩) x328003_1.length co57), (by first | rfl | (simp; done) | (simp [*]; done)), (by first | rfl | (simp; done) | (simp [*]; done)), H', ⟨by have := HK1.out; omega⟩, ⟨B.kr HO_328003⟩, ⟨B.kb BK310⟩, ⟨B.kb BK327⟩, ⟨B.st HI0⟩, ⟨B.kk HK⟩, ⟨B.bs HB⟩⟩
          rw [if_neg c52] at H
          exact absurd H (by simp)
        rw [if_neg c50] at H
        have c50b0 : (t328 == 2) = false := beq_eq_false_iff_ne.mpr c50
        have c50b1 : (t328 != 2) = true := bne_iff_ne.mpr c50
        by_cases c62 : 0 ≤ x8_1
        · rw [if_pos c62] at H
          have c62b0 : decide (0 ≤ x8_1) = true := decide_eq_true c62
          clear c62
          obtain ⟨y341, hy341⟩ : ∃ y_ : List Int, y_ = (x328003_1.set (x8_1 : Int).toNat x7_1) := ⟨_, rfl⟩
          replace H : (spec_randomImage.l0 k1 t328 x7_1 (wrap64 (x8_1 + 1)) s0_0 x1001_1 t321 t322 t323 y341) = some (r1, r2, r3, r4, r5) := by first | (rw [hy341]; with_reducible exact H) | (have H2_ := (Option.bind_some _ _).symm.trans H; rw [hy341]; with_reducible exact H2_) | (have H2_ := (Option.bind_some _ _).symm.trans H; with_reducible exact H2_) | with_reducible exact H | (rw [hy341]; exact H) | exact H
          have Ny341 := Aside0.mk hy341
          clear hy341
          have H' := Aside0.mk H
          clear H
          have hnb64 := NB327_310.out
          have hnc64 := NB310_327.out
          have hnb65 := NB327_0.out
          have hnc65 := NB0_327.out
          have hcz66_0 : wr.cell? ⟨gb327, 0, none⟩ = some (.int .i64 t321) := B.bc BK327 0
          have hcz66_1 : wr.cell? ⟨gb327, 1, none⟩ = some (.int .i64 t322) := B.bc BK327 1
          have hcz66_2 : wr.cell? ⟨gb327, 2, none⟩ = some (.int .i64 t323) := B.bc BK327 2
          have hcz66_3 : wr.cell? ⟨gb327, 3, none⟩ = some (u328003) := B.bc BK327 3
          have hfz66_0 := blk_frozen BK327.out 0
          have hfz66_1 := blk_frozen BK327.out 1
          have hfz66_2 := blk_frozen BK327.out 2
          have hfz66_3 := blk_frozen BK327.out 3
          obtain ⟨Ao67, co67, eo67⟩ := Kd.R_slice HO_328003.out
          subst eo67
          have p63 : 0 ≤ (x8_1 : Int) := of_decide_eq_true (by first | (with_reducible assumption) | assumption)
          have q63 : (x8_1 : Int) < ((x328003_1.length : Int) : Int) := of_decide_eq_true (by first | (with_reducible assumption) | assumption)
          obtain ⟨go63, co63, eo63, gb63, gl63, cl63, HG63⟩ := Kd.R_form HO_328003.out (by omega)
          (first | cases eo63 | (injection eo63 with ea_ en_ ec_; (first | subst ea_ | (injection ea_ with ea_; subst ea_)); subst ec_; clear en_))
          have GB63 := Aside0.mk gb63
          have GG63 := Aside0.mk HG63
          clear gb63 gl63 HG63
          obtain ⟨hx63_0, hf63_0⟩ := Kd.R_celln 0 HO_328003.out (x8_1 : Int) p63 q63
          replace p63 := eq_true p63
          replace q63 := eq_true q63
          have HP68 := Kd.R_putg HO_328003.out (x8_1 : Int) x7_1
          go_wp2_with (first | ((with_reducible refine gate_store (t := 3) (p := 50) rfl ?_); refine store_event (t := 3) (p := 50) (v := ?vo_w69) (w1 := (wr.setCell ⟨go63, (x8_1 : Int).toNat, none⟩ (.int .i64 x7_1))) ?hg ?ho ?hn ?hr ?_; (case ho => rfl); (case hg => rfl); (case hn => rfl); (case hr => first | (go_simp; done) | (go_simp; rfl)); intro w69 hw; have hg : wr.grownBy w69 (some go63) := (by rw [hw]; exact HP68.2); have hp_ : Kd.R (Kd.int .i64) 3 w69 w.heap.size (fun _ => True) (.slice (some ⟨go63, 0, none⟩) x328003_1.length co67) y341 := (by rw [hw, Ny341.out]; exact HP68.1); clear HP68; have n0_ := Aside0.mk (hp_); have n1_ := Aside0.mk (blk_grown (g := gb310) (o := .cells #[.int .i64 0, .int .i64 0, .int .i64 0, .slice none 0 0] 34 (0, 0)) (B.kb BK310) hg (Kd.R_ne HO_328003.out BK310.out (by decide))); have n2_ := Aside0.mk (blk_grown (g := gb327) (o := .cells #[.int .i64 t321, .int .i64 t322, .int .i64 t323, .slice (some ⟨go63, 0, none⟩) x328003_1.length co67] 34 (0, 0)) (B.kb BK327) hg (Kd.R_ne HO_328003.out BK327.out (by decide))); have n3_ := Aside0.mk (IsS74.grown (B.st HI0) hg (IsS74.own_ne HI0.out HO_328003.out (by decide))); have n4_ := Aside0.mk ((by rw [hw]; exact below_set (HB.out) (Nat.le_trans HL.out GB63.out) : Below w0.heap.size w0 w69)); have n5_ := Aside0.mk (KeepBut.trans (B.kk HK) (KeepBut.of_grown hg g) (Kd.R_base2 HO_328003.out)); clear HO_328003 BK310 BK327 HI0 HB HK; have HO_328003 := n0_; have BK310 := n1_; have BK327 := n2_; have HI0 := n3_; have HB := n4_; have HK := n5_; clear n0_ n1_ n2_ n3_ n4_ n5_; clear hg hw hp_))
          go_roundg k1
          case measure => have := HK1.out; omega
          case rel => exact ⟨(x7_1), (wrap64 (x8_1 + 1)), (x1001_1), (y341), (.slice (some ⟨go63, 0, none⟩) x328003_1.length co67), (by first | rfl | (simp; done) | (simp [*]; done)), (by first | rfl | (simp; done) | (simp [*]; done)), H', ⟨by have := HK1.out; omega⟩, ⟨B.kr HO_328003⟩, ⟨B.kb BK310⟩, ⟨B.kb BK327⟩, ⟨B.st HI0⟩, ⟨B.kk HK⟩, ⟨B.bs HB⟩⟩
        rw [if_neg c62] at H
        exact absurd H (by simp)
      rw [if_neg c25] at H
      have c25b0 : decide (x8_1 < (x328003_1.length : Int)) = false := decide_eq_false c25
      clear c25
      simp only [Option.some.injEq, Prod.mk.injEq] at H
      obtain ⟨rfl, rfl, rfl, rfl, rfl⟩ := H
      have hnb70 := NB327_310.out
      have hnc70 := NB310_327.out
      have hnb71 := NB327_0.out
      have hnc71 := NB0_327.out
      have hcz72_0 : wr.cell? ⟨gb327, 0, none⟩ = some (.int .i64 t321) := B.bc BK327 0
      have hcz72_1 : wr.cell? ⟨gb327, 1, none⟩ = some (.int .i64 t322) := B.bc BK327 1
      have hcz72_2 : wr.cell? ⟨gb327, 2, none⟩ = some (.int .i64 t323) := B.bc BK327 2
      have hcz72_3 : wr.cell? ⟨gb327, 3, none⟩ = some (u328003) := B.bc BK327 3
      have hfz72_0 := blk_frozen BK327.out 0
      have hfz72_1 := blk_frozen BK327.out 1
      have hfz72_2 := blk_frozen BK327.out 2
      have hfz72_3 := blk_frozen BK327.out 3
      obtain ⟨Ao73, co73, eo73⟩ := Kd.R_slice HO_328003.out
      subst eo73
      have hnb74 := NB310_0.out
      have hnc74 := NB0_310.out
      have hcz75_0 : wr.cell? ⟨gb310, 0, none⟩ = some (.int .i64 0) := B.bc BK310 0
      have hcz75_1 : wr.cell? ⟨gb310, 1, none⟩ = some (.int .i64 0) := B.bc BK310 1
      have hcz75_2 : wr.cell? ⟨gb310, 2, none⟩ = some (.int .i64 0) := B.bc BK310 2
      have hcz75_3 : wr.cell? ⟨gb310, 3, none⟩ = some (.slice none 0 0) := B.bc BK310 3
      have hfz75_0 := blk_frozen BK310.out 0
      have hfz75_1 := blk_frozen BK310.out 1
      have hfz75_2 := blk_frozen BK310.out 2
      have hfz75_3 := blk_frozen BK310.out 3
      go_wp2
      refine bodyPost_ret (results_cell_row rfl _ _ gb310 34 #[.int .i64 t321, .int .i64 t322, .int .i64 t323, .slice Ao73 x328003_1.length co73] (0, 0) _ rfl (B.kb0 (B.bp4 BK310)) Try.underlying34 rfl (by kernel_rfl)) rfl ?_
      exact ⟨_, by first | rfl | (simp [errW_none, errW_some] <;> rfl) | (simp [*, errW_none, errW_some] <;> rfl), by (with_reducible repeat (first | apply Kd.R_alloc | apply Kd.R_drewN | apply Kd.R_drew)); exact Kd.R_mono (B.rf4 HO_328003 BK310) (fun _ hk => trivial), B.st HI0, B.bs HB, B.kk HK⟩

/-! ### spec_anyPlanes: function 60 -/
def spec_anyPlanes.f (k : Nat) (s0_0 : List Int) (s0_1 : Int) : Option (Int × Int) := (spec_reader_one.f k s0_0 s0_1 (([1, 3, 1, 4, 2] : List Int))).bind fun bt345 => (some (bt345.1, bt345.2))
theorem spec_anyPlanes.mono : ∀ a0 a1 k, LeO (spec_anyPlanes.f k a0 a1) (spec_anyPlanes.f (k + 1) a0 a1) := by
  intro a0 a1 k
  unfold spec_anyPlanes.f
  repeat' first
      | (with_reducible exact spec_reader_one.mono _ _ _ _)
      | (with_reducible exact LeO.refl _)
      | (with_reducible exact LeO.none _)
      | (with_reducible refine LeO.ite ?_ ?_)
      | (with_reducible refine LeO.bind ?_ (fun _ => ?_))
      | exact spec_reader_one.mono _ _ _ _
      | exact LeO.none _
      | refine LeO.ite ?_ ?_
      | refine LeO.bind ?_ (fun _ => ?_)
set_option maxHeartbeats 8000000 in
set_option maxRecDepth 100000 in
theorem spec_anyPlanes.calls (k : Nat) (g : Nat) (s0_0 : List Int) (s0_1 : Int) (r1 : Int) (r2 : Int) (w0 w : World) (hI : IsS74 w0 w g s0_0 s0_1) (hB : Below w0.heap.size w0 w) (h : spec_anyPlanes.f k s0_0 s0_1 = some (r1, r2)) :
    Calls Try.prog 60 #[.pointer (some ⟨g, 0, none⟩)] w fun e w' => e = .returned (.int .i64 r1) ∧ IsS74 w0 w' g s0_0 r2 ∧ Below w0.heap.size w0 w' ∧ KeepBut w w' g none := by
  have HI0 := Aside0.mk hI
  have HK := Aside0.mk (KeepBut.refl w g none)
  have HL := Aside0.mk hB.size
  clear hI
  have HW0 := Aside0.mk hB.size
  have HB := Aside0.mk hB
  clear hB
  have H : ((spec_reader_one.f k s0_0 s0_1 (([1, 3, 1, 4, 2] : List Int))).bind fun bt345 => (some (bt345.1, bt345.2))) = some (r1, r2) := h
  clear h
  obtain ⟨y342, hy342⟩ : ∃ y_ : List Int, y_ = (([1, 3, 1, 4, 2] : List Int)) := ⟨_, rfl⟩
  replace H : ((spec_reader_one.f k s0_0 s0_1 y342).bind fun bt345 => (some (bt345.1, bt345.2))) = some (r1, r2) := by first | (rw [hy342]; with_reducible exact H) | (have H2_ := (Option.bind_some _ _).symm.trans H; rw [hy342]; with_reducible exact H2_) | (have H2_ := (Option.bind_some _ _).symm.trans H; with_reducible exact H2_) | with_reducible exact H | (rw [hy342]; exact H) | exact H
  have Ny342 := Aside0.mk hy342
  clear hy342
  replace H := Option.bind_eq_some_iff.mp H
  obtain ⟨⟨t345, t346⟩, A20, H⟩ := H
  replace H : (some (t345, t346)) = some (r1, r2) := H
  have A2 := Aside0.mk A20
  clear A20
  simp only [Option.some.injEq, Prod.mk.injEq] at H
  obtain ⟨rfl, rfl⟩ := H
  go_enter Try.func60, Try.ntmps60
  go_wp2_with (first | ((with_reducible refine gate_dst (N := 4) rfl ?_); refine Kd.R_lit (Kd.int .i64) _ 3 ?hg (N := 4) ?hd (xs := ([1, 3, 1, 4, 2] : List Int)) (inner := [.int .i64 1, .int .i64 3, .int .i64 1, .int .i64 4, .int .i64 2]) (ok := fun _ => True) (okp := fun _ => True) ?hr ?hp (fun _ hk => hk) trivial (Below.refl _ _) (Nat.le_refl _) (by simp) ?_; (case hd => rfl); (case hg => rfl); (case hr => first | (go_simp; done) | (go_simp; rfl)); (case hp => exact (Reps.one (show Kd.M (Kd.int .i64) _ _ _ 1 [.int .i64 1] from rfl) (Reps.one (show Kd.M (Kd.int .i64) _ _ _ 3 [.int .i64 3] from rfl) (Reps.one (show Kd.M (Kd.int .i64) _ _ _ 1 [.int .i64 1] from rfl) (Reps.one (show Kd.M (Kd.int .i64) _ _ _ 4 [.int .i64 4] from rfl) (Reps.one (show Kd.M (Kd.int .i64) _ _ _ 2 [.int .i64 2] from rfl) (Reps.none _ _))))))); intro v343 w3 ho4 hb hg_ hnew_; clear hg_ hnew_; (first | rw [← Ny342.out] at ho4 | (simp only [Int.reduceToNat] at ho4; rw [← Ny342.out] at ho4)); have n0_ := Aside0.mk (Kd.R_lower ho4 (keep_size (w := w) (g := g) (row := none) (B.kk HK))); have n1_ := Aside0.mk (IsS74.below (B.st HI0) hb); have n2_ := Aside0.mk (KeepBut.trans (B.kk HK) (KeepBut.of_below hb g none) (.inl rfl)); have n3_ := Aside0.mk (below_step (B.bs HB) hb); clear HI0 HK HB; have HO344 := n0_; have HI0 := n1_; have HK := n2_; have HB := n3_; clear n0_ n1_ n2_ n3_; clear hb ho4; obtain ⟨Ao5, co5, eo5⟩ := Kd.R_slice HO344.out; subst eo5) | ((with_reducible refine gate_callee (f := 62) rfl ?_); refine goesL_ (some 5) rfl rfl Try.func62 (by kernel_rfl) rfl #[.pointer (some ⟨g, 0, none⟩), .slice Ao5 y342.length co5] rfl B.am ?_; (with_reducible refine (spec_reader_one.calls k g s0_0 s0_1 _ _ y342 t345 t346 w0 _ ?side1 ?side2 ?side3 ?side4 ?side5 A2.out).mono ?_); (case side1 => exact B.st HI0); (case side2 => exact B.bs HB); (case side3 => exact B.kc ((Kd.R_reads' HO344.out).2.2)); (case side4 => exact (Kd.R_reads' HO344.out).2.1); (case side5 => exact far_slice (IsS74.own_ne HI0.out HO344.out (by decide))); rintro e w6 ⟨rfl, hi, hb, hk⟩; refine ⟨_, rfl, ?_⟩; have n0_ := Aside0.mk (Kd.R_mono (Kd.R_keep (IsS74.apart (show IsS74 w0 _ g s0_0 s0_1 from B.st HI0) (B.kr HO344) (by decide)) hk (fun _ h => h.2)) (fun _ h => h.1)); have n1_ := Aside0.mk (KeepBut.trans (B.kk HK) hk (.inl rfl)); have n2_ := Aside0.mk (hb); have n3_ := Aside0.mk (hi); clear HO344 HK HB HI0; have HO344 := n0_; have HK := n1_; have HB := n2_; have HI0 := n3_; clear n0_ n1_ n2_ n3_; (try clear hb); (try clear hb2); (try clear hk); (try clear hi)))
  go_ret
  exact ⟨by first | rfl | (simp [errW_none, errW_some] <;> rfl) | (simp [*, errW_none, errW_some] <;> rfl), B.st HI0, B.bs HB, B.kk HK⟩

/-! ### spec_anyImage: function 44 -/
def spec_anyImage.f (k : Nat) (s0_0 : List Int) (s0_1 : Int) : Option (Int × Int × Int × List Int × Int) := (spec_anyPlanes.f k s0_0 s0_1).bind fun bt348 => ((spec_randomImage.f k s0_0 bt348.2 bt348.1).bind fun bt350 => ((spec_spoilImage.f k s0_0 bt350.2.2.2.2 bt350.1 bt350.2.1 bt350.2.2.1 bt350.2.2.2.1).bind fun bt357 => (some (bt357.1, bt357.2.1, bt357.2.2.1, bt357.2.2.2.1, bt357.2.2.2.2))))
theorem spec_anyImage.mono : ∀ a0 a1 k, LeO (spec_anyImage.f k a0 a1) (spec_anyImage.f (k + 1) a0 a1) := by
  intro a0 a1 k
  unfold spec_anyImage.f
  repeat' first
      | (with_reducible exact spec_anyPlanes.mono _ _ _)
      | (with_reducible exact spec_randomImage.mono _ _ _ _)
      | (with_reducible exact spec_spoilImage.mono _ _ _ _ _ _ _)
      | (with_reducible exact LeO.refl _)
      | (with_reducible exact LeO.none _)
      | (with_reducible refine LeO.ite ?_ ?_)
      | (with_reducible refine LeO.bind ?_ (fun _ => ?_))
      | exact spec_anyPlanes.mono _ _ _
      | exact spec_randomImage.mono _ _ _ _
      | exact spec_spoilImage.mono _ _ _ _ _ _ _
      | exact LeO.none _
      | refine LeO.ite ?_ ?_
      | refine LeO.bind ?_ (fun _ => ?_)
set_option maxHeartbeats 8000000 in
set_option maxRecDepth 100000 in
theorem spec_anyImage.calls (k : Nat) (g : Nat) (s0_0 : List Int) (s0_1 : Int) (r1 : Int) (r2 : Int) (r3 : Int) (r4 : List Int) (r5 : Int) (w0 w : World) (hI : IsS74 w0 w g s0_0 s0_1) (hB : Below w0.heap.size w0 w) (h : spec_anyImage.f k s0_0 s0_1 = some (r1, r2, r3, r4, r5)) :
    Calls Try.prog 44 #[.pointer (some ⟨g, 0, none⟩)] w fun e w' => ∃ v3_ : Value, e = .returned (.agg #[.int .i64 r1, .int .i64 r2, .int .i64 r3, v3_]) ∧ Kd.Q (Kd.int .i64) 3 w' w.heap.size (fun _ => True) v3_ r4 ∧ IsS74 w0 w' g s0_0 r5 ∧ Below w0.heap.size w0 w' ∧ KeepBut w w' g none := by
  have hu34 := Try.underlying34
  have HI0 := Aside0.mk hI
  have HK := Aside0.mk (KeepBut.refl w g none)
  have HL := Aside0.mk hB.size
  clear hI
  have HW0 := Aside0.mk hB.size
  have HB := Aside0.mk hB
  clear hB
  have H : ((spec_anyPlanes.f k s0_0 s0_1).bind fun bt348 => ((spec_randomImage.f k s0_0 bt348.2 bt348.1).bind fun bt350 => ((spec_spoilImage.f k s0_0 bt350.2.2.2.2 bt350.1 bt350.2.1 bt350.2.2.1 bt350.2.2.2.1).bind fun bt357 => (some (bt357.1, bt357.2.1, bt357.2.2.1, bt357.2.2.2.1, bt357.2.2.2.2))))) = some (r1, r2, r3, r4, r5) := h
  clear h
  replace H := Option.bind_eq_some_iff.mp H
  obtain ⟨⟨t348, t349⟩, A20, H⟩ := H
  replace H : ((spec_randomImage.f k s0_0 t349 t348).bind fun bt350 => ((spec_spoilImage.f k s0_0 bt350.2.2.2.2 bt350.1 bt350.2.1 bt350.2.2.1 bt350.2.2.2.1).bind fun bt357 => (some (bt357.1, bt357.2.1, bt357.2.2.1, bt357.2.2.2.1, bt357.2.2.2.2)))) = some (r1, r2, r3, r4, r5) := H
  have A2 := Aside0.mk A20
  clear A20
  replace H := Option.bind_eq_some_iff.mp H
  obtain ⟨⟨t350, t351, t352, t353, t356⟩, A30, H⟩ := H
  replace H : ((spec_spoilImage.f k s0_0 t356 t350 t351 t352 t353).bind fun bt357 => (some (bt357.1, bt357.2.1, bt357.2.2.1, bt357.2.2.2.1, bt357.2.2.2.2))) = some (r1, r2, r3, r4, r5) := H
  have A3 := Aside0.mk A30
  clear A30
  replace H := Option.bind_eq_some_iff.mp H
  obtain ⟨⟨t357, t358, t359, t360, t363⟩, A40, H⟩ := H
  replace H : (some (t357, t358, t359, t360, t363)) = some (r1, r2, r3, r4, r5) := H
  have A4 := Aside0.mk A40
  clear A40
  simp only [Option.some.injEq, Prod.mk.injEq] at H
  obtain ⟨rfl, rfl, rfl, rfl, rfl⟩ := H
  go_enter Try.func44, Try.ntmps44
  go_wp2_with (first | ((with_reducible refine gate_dst (N := 2) rfl ?_); refine box_event ?hg (N := 2) ?hd (cs := #[.int .i64 0, .int .i64 0, .int .i64 0, .slice none 0 0]) (t := 34) ?hr ?_; (case hd => rfl); (case hg => rfl); (case hr => first | (go_simp; done) | (go_simp; rfl)); intro gb347 hg w5 hbox hb; have n0_ := Aside0.mk (IsS74.below (B.st HI0) hb); have n1_ := Aside0.mk (KeepBut.trans (B.kk HK) (KeepBut.of_below hb g none) (.inl rfl)); have n2_ := Aside0.mk (below_step (B.bs HB) hb); have n3_ := Aside0.mk (hbox); have n4_ := Aside0.mk ((by rw [hg]; exact (keep_size (w := w) (g := g) (row := none) (B.kk HK)) : w.heap.size ≤ gb347)); have n5_ := Aside0.mk ((Nat.le_trans HW0.out (by rw [hg]; exact (keep_size (w := w) (g := g) (row := none) (B.kk HK)) : w.heap.size ≤ gb347) : w0.heap.size ≤ gb347)); have n6_ := Aside0.mk ((by rw [hg]; exact Nat.ne_of_lt (IsS74.lt (show IsS74 w0 _ g s0_0 s0_1 from B.st HI0)) : g ≠ gb347)); have n7_ := Aside0.mk ((by rw [hg]; exact Nat.ne_of_gt (IsS74.lt (show IsS74 w0 _ g s0_0 s0_1 from B.st HI0)) : gb347 ≠ g)); clear HI0 HK HB; have HI0 := n0_; have HK := n1_; have HB := n2_; have BK347 := n3_; have GW347 := n4_; have GE347 := n5_; have NB0_347 := n6_; have NB347_0 := n7_; clear n0_ n1_ n2_ n3_ n4_ n5_ n6_ n7_; clear hb hbox hg) | ((with_reducible refine gate_callee (f := 60) rfl ?_); refine goesL_ (some 6) rfl rfl Try.func60 (by kernel_rfl) rfl #[.pointer (some ⟨g, 0, none⟩)] rfl B.am ?_; (with_reducible refine (spec_anyPlanes.calls k g s0_0 s0_1 t348 t349 w0 _ ?side1 ?side2 A2.out).mono ?_); (case side1 => exact B.st HI0); (case side2 => exact B.bs HB); rintro e w6 ⟨rfl, hi, hb, hk⟩; refine ⟨_, rfl, ?_⟩; have n0_ := Aside0.mk (KeepBut.blk hk (g' := gb347) (o := .cells #[.int .i64 0, .int .i64 0, .int .i64 0, .slice none 0 0] 34 (0, 0)) (B.kb BK347) NB347_0.out (by simp)); have n1_ := Aside0.mk (KeepBut.trans (B.kk HK) hk (.inl rfl)); have n2_ := Aside0.mk (hb); have n3_ := Aside0.mk (hi); clear BK347 HK HB HI0; have BK347 := n0_; have HK := n1_; have HB := n2_; have HI0 := n3_; clear n0_ n1_ n2_ n3_; (try clear hb); (try clear hb2); (try clear hk); (try clear hi)) | ((with_reducible refine gate_callee (f := 59) rfl ?_); refine goesL_ (some 7) rfl rfl Try.func59 (by kernel_rfl) rfl #[.pointer (some ⟨g, 0, none⟩), .int .i64 t348] rfl B.am ?_; (with_reducible refine (spec_randomImage.calls k g s0_0 t349 t348 t350 t351 t352 t353 t356 w0 _ ?side1 ?side2 A3.out).mono ?_); (case side1 => exact B.st HI0); (case side2 => exact B.bs HB); rintro e w7 ⟨v354, rfl, ho0, hi, hb, hk⟩; refine ⟨_, rfl, ?_⟩; have n0_ := Aside0.mk (KeepBut.blk hk (g' := gb347) (o := .cells #[.int .i64 0, .int .i64 0, .int .i64 0, .slice none 0 0] 34 (0, 0)) (B.kb BK347) NB347_0.out (by simp)); have n1_ := Aside0.mk (Kd.R_lower ho0 (keep_size (w := w) (g := g) (row := none) (B.kk HK))); have n2_ := Aside0.mk (KeepBut.trans (B.kk HK) hk (.inl rfl)); have n3_ := Aside0.mk (hb); have n4_ := Aside0.mk (hi); clear BK347 HK HB HI0; have BK347 := n0_; have HO355 := n1_; have HK := n2_; have HB := n3_; have HI0 := n4_; clear n0_ n1_ n2_ n3_ n4_; (try clear hb); (try clear hb2); (try clear hk); (try clear hi); (try clear ho0); obtain ⟨Ao8, co8, eo8⟩ := Kd.R_slice HO355.out; subst eo8) | ((with_reducible refine gate_callee (f := 58) rfl ?_); refine goesL_ (some 8) rfl rfl Try.func58 (by kernel_rfl) rfl #[.pointer (some ⟨g, 0, none⟩), .agg #[.int .i64 t350, .int .i64 t351, .int .i64 t352, .slice Ao8 t353.length co8]] rfl B.am ?_; (with_reducible refine (spec_spoilImage.calls k g s0_0 t356 t350 t351 t352 (fun k_ => some k_ = (.slice Ao8 t353.length co8 : Value).ownBlock) (.slice Ao8 t353.length co8) t353 t357 t358 t359 t360 t363 w0 _ ?side1 ?side2 ?side3 A4.out).mono ?_); (case side1 => exact B.st HI0); (case side2 => exact B.bs HB); (case side3 => exact Kd.R_lower (Kd.R_tight rfl HO355.out) HL.out); rintro e w9 ⟨v361, rfl, ho0, hi, hb, hkp⟩; refine ⟨_, rfl, ?_⟩; have n0_ := Aside0.mk (hi); have n1_ := Aside0.mk (blk_kept (B.kb BK347) hkp (fun hs_ => Or.elim hs_ (fun hs_ => (fun e_ => (Kd.R_ne HO355.out BK347.out (by decide)) e_) hs_) (fun e_ => NB347_0.out e_))); have n2_ := Aside0.mk (Kd.Q_mono (ok' := fun k_ => True) (B.Q_raise (d := (Kd.int .i64)) (b := w0.heap.size) (b' := w.heap.size) (fun _ _ _ _ h_ => h_) ho0 (fun k_ e_ => Or.elim (ho0.1 k_ e_) (fun hs_ => (fun e_ => Kd.R_base HO355.out k_ e_.symm) hs_) (fun hn_ => Nat.le_trans (keep_size (w := w) (g := g) (row := none) (B.kk HK)) hn_))) (fun k_ hk_ => trivial)); have n3_ := Aside0.mk (Kept.keepG (B.kk HK) hkp (fun k_ hs_ => Or.elim hs_ (fun hs_ => (fun e_ => .inr (Kd.R_base HO355.out k_ e_.symm)) hs_) (fun e_ => .inl e_))); have n4_ := Aside0.mk (hb); clear HI0 BK347 HK HB HO355; have HI0 := n0_; have BK347 := n1_; have HO362 := n2_; have HK := n3_; have HB := n4_; clear n0_ n1_ n2_ n3_ n4_; (try clear hb); (try clear hkp); (try clear ho0); have hnb10 := NB347_0.out; have hnc10 := NB0_347.out; have hcz11_0 : w9.cell? ⟨gb347, 0, none⟩ = some (.int .i64 0) := B.bc BK347 0; have hcz11_1 : w9.cell? ⟨gb347, 1, none⟩ = some (.int .i64 0) := B.bc BK347 1; have hcz11_2 : w9.cell? ⟨gb347, 2, none⟩ = some (.int .i64 0) := B.bc BK347 2; have hcz11_3 : w9.cell? ⟨gb347, 3, none⟩ = some (.slice none 0 0) := B.bc BK347 3; have hfz11_0 := blk_frozen BK347.out 0; have hfz11_1 := blk_frozen BK347.out 1; have hfz11_2 := blk_frozen BK347.out 2; have hfz11_3 := blk_frozen BK347.out 3; obtain ⟨Ao12, co12, eo12, _⟩ := Kd.Q_slice HO362.out; subst eo12))
  refine bodyPost_ret (results_cell_row rfl _ _ gb347 34 #[.int .i64 t357, .int .i64 t358, .int .i64 t359, .slice Ao12 t360.length co12] (0, 0) _ rfl (B.kb0 (B.bp4 BK347)) Try.underlying34 rfl (by kernel_rfl)) rfl ?_
  exact ⟨_, by first | rfl | (simp [errW_none, errW_some] <;> rfl) | (simp [*, errW_none, errW_some] <;> rfl), by (with_reducible repeat (first | apply Kd.Q_alloc | apply Kd.Q_drewN | apply Kd.Q_drew)); exact Kd.Q_mono (Kd.Q_far (p := ⟨gb347, 3, none⟩) (Kd.Q_far (p := ⟨gb347, 2, none⟩) (Kd.Q_far (p := ⟨gb347, 1, none⟩) (Kd.Q_far (p := ⟨gb347, 0, none⟩) (Kd.Q_types HO362.out BK347.out (by decide)) (fun _ hk => hk.2) (.int .i64 t357)) (fun _ hk => hk.2) (.int .i64 t358)) (fun _ hk => hk.2) (.int .i64 t359)) (fun _ hk => hk.2) (.slice Ao12 t360.length co12)) (fun _ hk => trivial), B.st HI0, B.bs HB, B.kk HK⟩

/-! ### spec_DrawPassData: function 28 -/
def spec_DrawPassData.f (k : Nat) (l0 : List Int) : Option (Int × Int × Int × List Int × Int) := (spec_newReader.f l0).bind fun bt365 => ((spec_anyImage.f k bt365.1 bt365.2).bind fun bt368 => ((spec_reader_pick.f k bt365.1 bt368.2.2.2.2 9).bind fun bt376 => (some (bt368.1, bt368.2.1, bt368.2.2.1, bt368.2.2.2.1, wrap64 (bt376.1 - 1)))))
theorem spec_DrawPassData.mono : ∀ a0 k, LeO (spec_DrawPassData.f k a0) (spec_DrawPassData.f (k + 1) a0) := by
  intro a0 k
  unfold spec_DrawPassData.f
  repeat' first
      | (with_reducible exact spec_anyImage.mono _ _ _)
      | (with_reducible exact spec_reader_pick.mono _ _ _ _)
      | (with_reducible exact LeO.refl _)
      | (with_reducible exact LeO.none _)
      | (with_reducible refine LeO.ite ?_ ?_)
      | (with_reducible refine LeO.bind ?_ (fun _ => ?_))
      | exact spec_anyImage.mono _ _ _
      | exact spec_reader_pick.mono _ _ _ _
      | exact LeO.none _
      | refine LeO.ite ?_ ?_
      | refine LeO.bind ?_ (fun _ => ?_)
set_option maxHeartbeats 8000000 in
set_option maxRecDepth 100000 in
theorem spec_DrawPassData.calls (k : Nat) (A0 : Option Addr) (c0 : Nat) (l0 : List Int) (r1 : Int) (r2 : Int) (r3 : Int) (r4 : List Int) (r5 : Int) (w : World) (hr0 : Kd.C (Kd.int .u8) w A0 l0.length l0) (hc0 : l0.length ≤ c0) (h : spec_DrawPassData.f k l0 = some (r1, r2, r3, r4, r5)) :
    Calls Try.prog 28 #[.slice A0 l0.length c0] w fun e w' => ∃ v3_ : Value, e = .returned (.tuple #[.agg #[.int .i64 r1, .int .i64 r2, .int .i64 r3, v3_], .int .i64 r5]) ∧ Kd.Q (Kd.int .i64) 3 w' w.heap.size (fun _ => True) v3_ r4 ∧ Below w.heap.size w w' := by
  have hu34 := Try.underlying34
  have HR0 := Aside0.mk hr0
  have HC0 := Aside0.mk hc0
  clear hr0 hc0
  have HB := Aside0.mk (Below.refl w.heap.size w)
  have H : ((spec_newReader.f l0).bind fun bt365 => ((spec_anyImage.f k bt365.1 bt365.2).bind fun bt368 => ((spec_reader_pick.f k bt365.1 bt368.2.2.2.2 9).bind fun bt376 => (some (bt368.1, bt368.2.1, bt368.2.2.1, bt368.2.2.2.1, wrap64 (bt376.1 - 1)))))) = some (r1, r2, r3, r4, r5) := h
  clear h
  replace H := Option.bind_eq_some_iff.mp H
  obtain ⟨⟨t365, t366⟩, A20, H⟩ := H
  replace H : ((spec_anyImage.f k t365 t366).bind fun bt368 => ((spec_reader_pick.f k t365 bt368.2.2.2.2 9).bind fun bt376 => (some (bt368.1, bt368.2.1, bt368.2.2.1, bt368.2.2.2.1, wrap64 (bt376.1 - 1))))) = some (r1, r2, r3, r4, r5) := H
  have A2 := Aside0.mk A20
  clear A20
  replace H := Option.bind_eq_some_iff.mp H
  obtain ⟨⟨t368, t369, t370, t371, t374⟩, A30, H⟩ := H
  replace H : ((spec_reader_pick.f k t365 t374 9).bind fun bt376 => (some (t368, t369, t370, t371, wrap64 (bt376.1 - 1)))) = some (r1, r2, r3, r4, r5) := H
  have A3 := Aside0.mk A30
  clear A30
  replace H := Option.bind_eq_some_iff.mp H
  obtain ⟨⟨t376, t377⟩, A40, H⟩ := H
  replace H : (some (t368, t369, t370, t371, wrap64 (t376 - 1))) = some (r1, r2, r3, r4, r5) := H
  have A4 := Aside0.mk A40
  clear A40
  simp only [Option.some.injEq, Prod.mk.injEq] at H
  obtain ⟨rfl, rfl, rfl, rfl, rfl⟩ := H
  go_enter Try.func28, Try.ntmps28
  try go_wp2_with (first | ((with_reducible refine gate_dst (N := 2) rfl ?_); refine box_event ?hg (N := 2) ?hd (cs := #[.int .i64 0, .int .i64 0, .int .i64 0, .slice none 0 0]) (t := 34) ?hr ?_; (case hd => rfl); (case hg => rfl); (case hr => first | (go_simp; done) | (go_simp; rfl)); intro gb364 hg w5 hbox hb; have n0_ := Aside0.mk (below_step (B.bl HB) hb); have n1_ := Aside0.mk (hbox); have n2_ := Aside0.mk (B.nle hg (below_size (B.bl HB))); have n3_ := Aside0.mk (B.nle hg (below_size (B.bl HB))); clear HB; have HB := n0_; have BK364 := n1_; have GW364 := n2_; have GE364 := n3_; clear n0_ n1_ n2_ n3_; clear hb hbox hg) | ((with_reducible refine gate_callee (f := 42) rfl ?_); refine goesL_ (some 7) rfl rfl Try.func42 (by kernel_rfl) rfl #[.slice A0 l0.length c0] rfl B.am ?_; (with_reducible refine (spec_newReader.calls _ _ l0 t365 t366 w _ ?side1 ?side2 ?side3 A2.out).mono ?_); (case side1 => exact B.bl HB); (case side2 => exact HR0.out); (case side3 => exact HC0.out); rintro e w6 ⟨g367, rfl, hi, hb, hb2⟩; refine ⟨_, rfl, ?_⟩; have n0_ := Aside0.mk (blk_below (B.kb BK364) hb2); have n1_ := Aside0.mk (hb); have n2_ := Aside0.mk (hi); have n3_ := Aside0.mk (IsS74.ne_blk hi (blk_below (B.kb BK364) hb2) (by decide)); have n4_ := Aside0.mk (Ne.symm (IsS74.ne_blk hi (blk_below (B.kb BK364) hb2) (by decide))); clear BK364 HB; have BK364 := n0_; have HB := n1_; have HI367 := n2_; have NB367_364 := n3_; have NB364_367 := n4_; clear n0_ n1_ n2_ n3_ n4_; (try clear hb); (try clear hb2); (try clear hk); (try clear hi)) | ((with_reducible refine gate_callee (f := 44) rfl ?_); refine goesL_ (some 9) rfl rfl Try.func44 (by kernel_rfl) rfl #[.pointer (some ⟨g367, 0, none⟩)] rfl B.am ?_; (with_reducible refine (spec_anyImage.calls k g367 t365 t366 t368 t369 t370 t371 t374 w _ ?side1 ?side2 A3.out).mono ?_); (case side1 => exact B.st HI367); (case side2 => exact B.bs HB); rintro e w7 ⟨v372, rfl, ho0, hi, hb, hk⟩; refine ⟨_, rfl, ?_⟩; have n0_ := Aside0.mk (KeepBut.blk hk (g' := gb364) (o := .cells #[.int .i64 0, .int .i64 0, .int .i64 0, .slice none 0 0] 34 (0, 0)) (B.kb BK364) NB364_367.out (by simp)); have n1_ := Aside0.mk (Kd.Q_lower ho0 (below_size (B.bs HB))); have n2_ := Aside0.mk (hb); have n3_ := Aside0.mk (hi); clear BK364 HB HI367; have BK364 := n0_; have HO373 := n1_; have HB := n2_; have HI367 := n3_; clear n0_ n1_ n2_ n3_; (try clear hb); (try clear hb2); (try clear hk); (try clear hi); (try clear ho0)) | ((with_reducible refine gate_dst (N := 5) rfl ?_); refine box_event ?hg (N := 5) ?hd (cs := #[.int .i64 0, .int .i64 0, .int .i64 0, .slice none 0 0]) (t := 34) ?hr ?_; (case hd => rfl); (case hg => rfl); (case hr => first | (go_simp; done) | (go_simp; rfl)); intro gb375 hg w8 hbox hb; have n0_ := Aside0.mk (Kd.Q_below (B.kq HO373) hb); have n1_ := Aside0.mk (blk_below (B.kb BK364) hb); have n2_ := Aside0.mk (IsS74.below (B.st HI367) hb); have n3_ := Aside0.mk (below_step (B.bs HB) hb); have n4_ := Aside0.mk (hbox); have n5_ := Aside0.mk ((by rw [hg]; exact (below_size (B.bs HB)) : w.heap.size ≤ gb375)); have n6_ := Aside0.mk ((by rw [hg]; exact (below_size (B.bs HB)) : w.heap.size ≤ gb375)); have n7_ := Aside0.mk (B.nlt hg (blk_lt (B.kb BK364))); have n8_ := Aside0.mk (B.ngt hg (blk_lt (B.kb BK364))); have n9_ := Aside0.mk ((by rw [hg]; exact Nat.ne_of_lt (IsS74.lt (show IsS74 w _ g367 t365 t374 from B.st HI367)) : g367 ≠ gb375)); have n10_ := Aside0.mk ((by rw [hg]; exact Nat.ne_of_gt (IsS74.lt (show IsS74 w _ g367 t365 t374 from B.st HI367)) : gb375 ≠ g367)); clear HO373 BK364 HI367 HB; have HO373 := n0_; have BK364 := n1_; have HI367 := n2_; have HB := n3_; have BK375 := n4_; have GW375 := n5_; have GE375 := n6_; have NB364_375 := n7_; have NB375_364 := n8_; have NB367_375 := n9_; have NB375_367 := n10_; clear n0_ n1_ n2_ n3_ n4_ n5_ n6_ n7_ n8_ n9_ n10_; clear hb hbox hg; have hnb9 := NB375_364.out; have hnc9 := NB364_375.out; have hnb10 := NB375_367.out; have hnc10 := NB367_375.out; have hcz11_0 : w8.cell? ⟨gb375, 0, none⟩ = some (.int .i64 0) := B.bc BK375 0; have hcz11_1 : w8.cell? ⟨gb375, 1, none⟩ = some (.int .i64 0) := B.bc BK375 1; have hcz11_2 : w8.cell? ⟨gb375, 2, none⟩ = some (.int .i64 0) := B.bc BK375 2; have hcz11_3 : w8.cell? ⟨gb375, 3, none⟩ = some (.slice none 0 0) := B.bc BK375 3; have hfz11_0 := blk_frozen BK375.out 0; have hfz11_1 := blk_frozen BK375.out 1; have hfz11_2 := blk_frozen BK375.out 2; have hfz11_3 := blk_frozen BK375.out 3; obtain ⟨Ao12, co12, eo12, _⟩ := Kd.Q_slice HO373.out; subst eo12))
  have n0_ : Aside0 (Kd.Q (Kd.int .i64) 3 ((((w8.setCell ⟨gb375, 0, none⟩ (.int .i64 t368)).setCell ⟨gb375, 1, none⟩ (.int .i64 t369)).setCell ⟨gb375, 2, none⟩ (.int .i64 t370)).setCell ⟨gb375, 3, none⟩ (.slice Ao12 t371.length co12)) w.heap.size (fun _ => True) (.slice Ao12 t371.length co12) t371) := ⟨by (with_reducible repeat (first | apply Kd.Q_alloc | apply Kd.Q_drewN | apply Kd.Q_drew)); exact Kd.Q_mono (Kd.Q_far (p := ⟨gb375, 3, none⟩) (Kd.Q_far (p := ⟨gb375, 2, none⟩) (Kd.Q_far (p := ⟨gb375, 1, none⟩) (Kd.Q_far (p := ⟨gb375, 0, none⟩) (Kd.Q_types HO373.out BK375.out (by decide)) (fun _ hk => hk.2) (.int .i64 t368)) (fun _ hk => hk.2) (.int .i64 t369)) (fun _ hk => hk.2) (.int .i64 t370)) (fun _ hk => hk.2) (.slice Ao12 t371.length co12)) (fun _ hk => trivial)⟩
  have n1_ : Aside0 (((((w8.setCell ⟨gb375, 0, none⟩ (.int .i64 t368)).setCell ⟨gb375, 1, none⟩ (.int .i64 t369)).setCell ⟨gb375, 2, none⟩ (.int .i64 t370)).setCell ⟨gb375, 3, none⟩ (.slice Ao12 t371.length co12)).heap[gb364]? = some (.cells #[.int .i64 0, .int .i64 0, .int .i64 0, .slice none 0 0] 34 (0, 0))) := ⟨B.kb0 (B.bf4 BK364 NB364_375)⟩
  have n2_ : Aside0 (((((w8.setCell ⟨gb375, 0, none⟩ (.int .i64 t368)).setCell ⟨gb375, 1, none⟩ (.int .i64 t369)).setCell ⟨gb375, 2, none⟩ (.int .i64 t370)).setCell ⟨gb375, 3, none⟩ (.slice Ao12 t371.length co12)).heap[gb375]? = some (.cells #[.int .i64 t368, .int .i64 t369, .int .i64 t370, .slice Ao12 t371.length co12] 34 (0, 0))) := ⟨B.kb0 (B.bp4 BK375)⟩
  have n3_ : Aside0 (IsS74 w ((((w8.setCell ⟨gb375, 0, none⟩ (.int .i64 t368)).setCell ⟨gb375, 1, none⟩ (.int .i64 t369)).setCell ⟨gb375, 2, none⟩ (.int .i64 t370)).setCell ⟨gb375, 3, none⟩ (.slice Ao12 t371.length co12)) g367 t365 t374) := ⟨B.st HI367⟩
  have n4_ : Aside0 (Below w.heap.size w ((((w8.setCell ⟨gb375, 0, none⟩ (.int .i64 t368)).setCell ⟨gb375, 1, none⟩ (.int .i64 t369)).setCell ⟨gb375, 2, none⟩ (.int .i64 t370)).setCell ⟨gb375, 3, none⟩ (.slice Ao12 t371.length co12))) := ⟨B.bs HB⟩
  (try clear HO373)
  (try clear BK364)
  (try clear BK375)
  (try clear HI367)
  (try clear HB)
  generalize ((((w8.setCell ⟨gb375, 0, none⟩ (.int .i64 t368)).setCell ⟨gb375, 1, none⟩ (.int .i64 t369)).setCell ⟨gb375, 2, none⟩ (.int .i64 t370)).setCell ⟨gb375, 3, none⟩ (.slice Ao12 t371.length co12)) = w13 at n0_ n1_ n2_ n3_ n4_ ⊢
  have HO373 := n0_
  have BK364 := n1_
  have BK375 := n2_
  have HI367 := n3_
  have HB := n4_
  clear n0_ n1_ n2_ n3_ n4_
  have n0_ := Aside0.mk (Kd.Q_drew HO373.out)
  have n1_ := Aside0.mk (blk_drew BK364.out)
  have n2_ := Aside0.mk (blk_drew BK375.out)
  have n3_ := Aside0.mk (IsS74.drew HI367.out)
  have n4_ := Aside0.mk (below_drew1 HB.out)
  clear HO373 BK364 BK375 HI367 HB
  have HO373 := n0_
  have BK364 := n1_
  have BK375 := n2_
  have HI367 := n3_
  have HB := n4_
  clear n0_ n1_ n2_ n3_ n4_
  refine start_ (n := 6) (S := fun w' => w'.cell? ⟨gb375, 0, none⟩ = some (.int .i64 t368) ∧ w'.cell? ⟨gb375, 1, none⟩ = some (.int .i64 t369) ∧ w'.cell? ⟨gb375, 2, none⟩ = some (.int .i64 t370) ∧ w'.cell? ⟨gb375, 3, none⟩ = some (.slice Ao12 t371.length co12)) (ds := []) #[false, false, false, false, false, false] (by kernel_rfl) rfl rfl ⟨B.bc BK375 0, B.bc BK375 1, B.bc BK375 2, B.bc BK375 3⟩ (fun hHeld => ?_)
  generalize w13.drew = w14 at HO373 BK364 BK375 HI367 HB hHeld ⊢
  refine pure_ (i := 1) (N := some 11) (v := ?_) (a' := ?_) #[false, true, false, false, false, false] rfl rfl (by kernel_rfl) (fun _ _ _ h => h) (Or.inl ⟨by rfl, ?_⟩) ?_ ?_
  rotate_left
  · intro w'
    go_simp
    with_reducible rfl
  rotate_left
  · simp only [Act.put, List.setIfInBounds_toArray, List.set_cons_zero, List.set_cons_succ, i64_w, i32_w]
    rfl
  refine take_ (i := 0) (N := some 10) (v := ?_) (a' := ?_) #[true, true, false, false, false, false] rfl rfl (by kernel_rfl) (fun _ _ _ h => h) (Or.inl ⟨by rfl, ?_⟩) hHeld ?_ ?_
  rotate_left
  · rintro w' ⟨s0, s1, s2, s3⟩
    go_simp
    with_reducible rfl
  rotate_left
  · simp only [Act.put, List.setIfInBounds_toArray, List.set_cons_zero, List.set_cons_succ, i64_w, i32_w]
    rfl
  refine one_ (i := 2) (N := some 12) #[true, true, true, false, false, false] rfl rfl (by kernel_rfl) (by decide) (fun K hK => ?_)
  refine goes_ Try.func43 (by kernel_rfl) rfl #[.pointer (some ⟨g367, 0, none⟩), .int .i64 9] (by rfl) rfl rfl B.am ?_
  with_reducible refine (spec_reader_pick.calls k g367 t365 t374 9 t376 t377 w _ ?side1 ?side2 A4.out).mono ?_
  (case side1 => exact B.st HI367)
  (case side2 => exact B.bs HB)
  rintro e w15 ⟨rfl, hi, hb, hk⟩
  refine ⟨_, rfl, ?_⟩
  have n0_ := Aside0.mk (KeepBut.blk hk (g' := gb364) (o := .cells #[.int .i64 0, .int .i64 0, .int .i64 0, .slice none 0 0] 34 (0, 0)) (B.kb BK364) NB364_367.out (by simp))
  have n1_ := Aside0.mk (Kd.Q_mono (Kd.Q_keep (IsS74.apartQ (show IsS74 w _ g367 t365 t374 from B.st HI367) (B.kq HO373) (by decide)) hk (fun _ h => h.2)) (fun _ h => h.1))
  have n2_ := Aside0.mk (KeepBut.blk hk (g' := gb375) (o := .cells #[.int .i64 t368, .int .i64 t369, .int .i64 t370, .slice Ao12 t371.length co12] 34 (0, 0)) (B.kb BK375) NB375_367.out (by simp))
  have n3_ := Aside0.mk (hb)
  have n4_ := Aside0.mk (hi)
  clear BK364 HO373 BK375 HB HI367
  have BK364 := n0_
  have HO373 := n1_
  have BK375 := n2_
  have HB := n3_
  have HI367 := n4_
  clear n0_ n1_ n2_ n3_ n4_
  (try clear hb)
  (try clear hb2)
  (try clear hk)
  (try clear hi)
  refine hK.out _ _ ⟨B.bc BK375 0, B.bc BK375 1, B.bc BK375 2, B.bc BK375 3⟩ (fun hHeld => ?_)
  clear hK K
  refine norm_ (a' := ?_) ?_ ?_
  rotate_left
  · show Act.put _ (some 12) _ = _
    simp only [Act.put, List.setIfInBounds_toArray, List.set_cons_zero, List.set_cons_succ, i64_w, i32_w]
    rfl
  refine pure_ (i := 3) (N := some 13) (v := ?_) (a' := ?_) #[true, true, true, true, false, false] rfl rfl (by kernel_rfl) (fun _ _ _ h => h) (Or.inl ⟨by rfl, ?_⟩) ?_ ?_
  rotate_left
  · intro w'
    go_simp
    with_reducible rfl
  rotate_left
  · simp only [Act.put, List.setIfInBounds_toArray, List.set_cons_zero, List.set_cons_succ, i64_w, i32_w]
    rfl
  refine one_ (i := 4) (N := none) #[true, true, true, true, true, false] rfl rfl (by kernel_rfl) (by decide) (fun K hK => ?_)
  have hs16 : w15.cell? ⟨gb364, 0, none⟩ = some (.int .i64 0) := B.bc BK364 0
  have hfs16 := blk_frozen BK364.out 0
  have hns16_1 := NB375_364.out
  have hms16_1 := NB364_375.out
  have hs17 : w15.cell? ⟨gb364, 1, none⟩ = some (.int .i64 0) := B.bc BK364 1
  have hfs17 := blk_frozen BK364.out 1
  have hns17_1 := NB375_364.out
  have hms17_1 := NB364_375.out
  have hs18 : w15.cell? ⟨gb364, 2, none⟩ = some (.int .i64 0) := B.bc BK364 2
  have hfs18 := blk_frozen BK364.out 2
  have hns18_1 := NB375_364.out
  have hms18_1 := NB364_375.out
  have hs19 : w15.cell? ⟨gb364, 3, none⟩ = some (.slice none 0 0) := B.bc BK364 3
  have hfs19 := blk_frozen BK364.out 3
  have hns19_1 := NB375_364.out
  have hms19_1 := NB364_375.out
  refine skip_ (w1 := ?_) (by rfl) rfl ?_ ?_
  rotate_left
  · go_simp
    rfl
  refine hK.out _ _ ⟨(B.cf4 NB375_364 hHeld.1), (B.cf4 NB375_364 hHeld.2.1), (B.cf4 NB375_364 hHeld.2.2.1), (B.cf4 NB375_364 hHeld.2.2.2)⟩ (fun hHeld => ?_)
  clear hK K
  refine pure_ (i := 5) (N := some 3) (v := ?_) (a' := ?_) #[true, true, true, true, true, true] rfl rfl (by kernel_rfl) (fun _ _ _ h => h) (Or.inl ⟨by rfl, ?_⟩) ?_ ?_
  rotate_left
  · intro w'
    go_simp
    with_reducible rfl
  rotate_left
  · simp only [Act.put, List.setIfInBounds_toArray, List.set_cons_zero, List.set_cons_succ, i64_w, i32_w]
    rfl
  refine done_ (by kernel_rfl) ?_
  try go_wp2
  refine bodyPost_ret (results_ct rfl _ _ gb364 34 #[.int .i64 t368, .int .i64 t369, .int .i64 t370, .slice Ao12 t371.length co12] (0, 0) _ rfl (B.kb0 (B.bp4 BK364)) Try.underlying34 rfl (by kernel_rfl)) rfl ?_
  exact ⟨_, by first | rfl | (simp [errW_none, errW_some] <;> rfl) | (simp [*, errW_none, errW_some] <;> rfl), by (with_reducible repeat (first | apply Kd.Q_alloc | apply Kd.Q_drewN | apply Kd.Q_drew)); exact Kd.Q_mono (Kd.Q_far (p := ⟨gb364, 3, none⟩) (Kd.Q_far (p := ⟨gb364, 2, none⟩) (Kd.Q_far (p := ⟨gb364, 1, none⟩) (Kd.Q_far (p := ⟨gb364, 0, none⟩) (Kd.Q_types HO373.out BK364.out (by decide)) (fun _ hk => hk.2) (.int .i64 t368)) (fun _ hk => hk.2) (.int .i64 t369)) (fun _ hk => hk.2) (.int .i64 t370)) (fun _ hk => hk.2) (.slice Ao12 t371.length co12)) (fun _ hk => trivial), B.bs HB⟩

/-! ### impl_PixelAt: function 29 (by hand) -/
-- GIVEN loop.example/pixelworks/impl.PixelAt
-- ROUNDS no
-- MAKING yes
def onImg (w h x y : Int) : Bool := (decide (0 ≤ x) && decide (x < w)) && (decide (0 ≤ y) && decide (y < h))
def impl_PixelAt.f (a0_0 : Int) (a0_1 : Int) (a0_2 : Int) (l0_3 : List Int) (a1 : Int) (a2 : Int) : Option (List Int) :=
  if B.okImg a0_0 a0_1 a0_2 l0_3 = true ∧ onImg a0_0 a0_1 a1 a2 = true then some (B.pix l0_3 a0_0.toNat a0_2.toNat a1.toNat a2.toNat) else some []
set_option maxHeartbeats 4000000 in
theorem pixel_no (a0_0 : Int) (a0_1 : Int) (a0_2 : Int) (A0_3 : Option Addr) (c0_3 : Nat) (l0_3 : List Int) (a1 : Int) (a2 : Int) (w : World) (hr0_3 : Kd.C (Kd.int .i64) w A0_3 l0_3.length l0_3) (hc0_3 : l0_3.length ≤ c0_3) (hv : B.okImg a0_0 a0_1 a0_2 l0_3 = false) :
    Calls Try.prog 29 #[.agg #[.int .i64 a0_0, .int .i64 a0_1, .int .i64 a0_2, .slice A0_3 l0_3.length c0_3], .int .i64 a1, .int .i64 a2] w fun e w' => ∃ v0_ : Value, e = .returned (v0_) ∧ Kd.R (Kd.int .i64) 3 w' w.heap.size (fun _ => True) v0_ [] ∧ Below w.heap.size w w' := by
  have hu28 := Try.underlying34
  have H1 := Aside0.mk (fun (W : World) (hW : Below w.heap.size w W) => impl_isImage.calls a0_0 a0_1 a0_2 A0_3 c0_3 l0_3 false W (Kd.C_below hr0_3 hW) hc0_3 (by rw [isImage_ok, hv]))
  have BM : Aside0 ((w.alloc (.cells #[.int .i64 a0_0, .int .i64 a0_1, .int .i64 a0_2, .slice A0_3 l0_3.length c0_3] 34)).heap[w.heap.size]? = some (.cells #[.int .i64 a0_0, .int .i64 a0_1, .int .i64 a0_2, .slice A0_3 l0_3.length c0_3] 34 (0, 0))) := ⟨(heap_alloc_new w (.cells #[.int .i64 a0_0, .int .i64 a0_1, .int .i64 a0_2, .slice A0_3 l0_3.length c0_3] 34))⟩
  have HB : Aside0 (Below w.heap.size w (w.alloc (.cells #[.int .i64 a0_0, .int .i64 a0_1, .int .i64 a0_2, .slice A0_3 l0_3.length c0_3] 34))) := ⟨(below_alloc (Below.refl _ _) _)⟩
  clear hv hr0_3 hc0_3
  go_enter Try.func29, Try.ntmps29
  go_wp2_with fail
  refine (H1.out _ HB.out).mono ?_
  rintro e w1 ⟨rfl, hb1⟩
  have n0_ := Aside0.mk (blk_below BM.out hb1)
  have nb_ := Aside0.mk (below_step HB.out hb1)
  clear BM HB hb1
  have BM := n0_
  have HB := nb_
  clear n0_ nb_
  have hcBM0 := B.bc BM 0
  have hcBM1 := B.bc BM 1
  have hcBM2 := B.bc BM 2
  have hcBM3 := B.bc BM 3
  go_wp2
  go_ret
  exact ⟨_, rfl, Kd.R_nil _ _ _ _ _, HB.out⟩
set_option maxHeartbeats 4000000 in
theorem pixel_x0 (a0_0 : Int) (a0_1 : Int) (a0_2 : Int) (A0_3 : Option Addr) (c0_3 : Nat) (l0_3 : List Int) (a1 : Int) (a2 : Int) (w : World) (hr0_3 : Kd.C (Kd.int .i64) w A0_3 l0_3.length l0_3) (hc0_3 : l0_3.length ≤ c0_3) (hv : B.okImg a0_0 a0_1 a0_2 l0_3 = true) (t1 : a1 < 0) :
    Calls Try.prog 29 #[.agg #[.int .i64 a0_0, .int .i64 a0_1, .int .i64 a0_2, .slice A0_3 l0_3.length c0_3], .int .i64 a1, .int .i64 a2] w fun e w' => ∃ v0_ : Value, e = .returned (v0_) ∧ Kd.R (Kd.int .i64) 3 w' w.heap.size (fun _ => True) v0_ [] ∧ Below w.heap.size w w' := by
  have hu28 := Try.underlying34
  have H1 := Aside0.mk (fun (W : World) (hW : Below w.heap.size w W) => impl_isImage.calls a0_0 a0_1 a0_2 A0_3 c0_3 l0_3 true W (Kd.C_below hr0_3 hW) hc0_3 (by rw [isImage_ok, hv]))
  have u1 : decide (a1 < 0) = true := decide_eq_true t1
  clear t1
  have BM : Aside0 ((w.alloc (.cells #[.int .i64 a0_0, .int .i64 a0_1, .int .i64 a0_2, .slice A0_3 l0_3.length c0_3] 34)).heap[w.heap.size]? = some (.cells #[.int .i64 a0_0, .int .i64 a0_1, .int .i64 a0_2, .slice A0_3 l0_3.length c0_3] 34 (0, 0))) := ⟨(heap_alloc_new w (.cells #[.int .i64 a0_0, .int .i64 a0_1, .int .i64 a0_2, .slice A0_3 l0_3.length c0_3] 34))⟩
  have HB : Aside0 (Below w.heap.size w (w.alloc (.cells #[.int .i64 a0_0, .int .i64 a0_1, .int .i64 a0_2, .slice A0_3 l0_3.length c0_3] 34))) := ⟨(below_alloc (Below.refl _ _) _)⟩
  clear hv hr0_3 hc0_3
  go_enter Try.func29, Try.ntmps29
  go_wp2_with fail
  refine (H1.out _ HB.out).mono ?_
  rintro e w1 ⟨rfl, hb1⟩
  have n0_ := Aside0.mk (blk_below BM.out hb1)
  have nb_ := Aside0.mk (below_step HB.out hb1)
  clear BM HB hb1
  have BM := n0_
  have HB := nb_
  clear n0_ nb_
  have hcBM0 := B.bc BM 0
  have hcBM1 := B.bc BM 1
  have hcBM2 := B.bc BM 2
  have hcBM3 := B.bc BM 3
  go_wp2
  go_ret
  exact ⟨_, rfl, Kd.R_nil _ _ _ _ _, HB.out⟩
set_option maxHeartbeats 4000000 in
theorem pixel_x1 (a0_0 : Int) (a0_1 : Int) (a0_2 : Int) (A0_3 : Option Addr) (c0_3 : Nat) (l0_3 : List Int) (a1 : Int) (a2 : Int) (w : World) (hr0_3 : Kd.C (Kd.int .i64) w A0_3 l0_3.length l0_3) (hc0_3 : l0_3.length ≤ c0_3) (hv : B.okImg a0_0 a0_1 a0_2 l0_3 = true) (t1 : ¬ a1 < 0) (t2 : a0_0 ≤ a1) :
    Calls Try.prog 29 #[.agg #[.int .i64 a0_0, .int .i64 a0_1, .int .i64 a0_2, .slice A0_3 l0_3.length c0_3], .int .i64 a1, .int .i64 a2] w fun e w' => ∃ v0_ : Value, e = .returned (v0_) ∧ Kd.R (Kd.int .i64) 3 w' w.heap.size (fun _ => True) v0_ [] ∧ Below w.heap.size w w' := by
  have hu28 := Try.underlying34
  have H1 := Aside0.mk (fun (W : World) (hW : Below w.heap.size w W) => impl_isImage.calls a0_0 a0_1 a0_2 A0_3 c0_3 l0_3 true W (Kd.C_below hr0_3 hW) hc0_3 (by rw [isImage_ok, hv]))
  have u1 : decide (a1 < 0) = false := decide_eq_false t1
  clear t1
  have u2 : decide (a0_0 ≤ a1) = true := decide_eq_true t2
  clear t2
  have BM : Aside0 ((w.alloc (.cells #[.int .i64 a0_0, .int .i64 a0_1, .int .i64 a0_2, .slice A0_3 l0_3.length c0_3] 34)).heap[w.heap.size]? = some (.cells #[.int .i64 a0_0, .int .i64 a0_1, .int .i64 a0_2, .slice A0_3 l0_3.length c0_3] 34 (0, 0))) := ⟨(heap_alloc_new w (.cells #[.int .i64 a0_0, .int .i64 a0_1, .int .i64 a0_2, .slice A0_3 l0_3.length c0_3] 34))⟩
  have HB : Aside0 (Below w.heap.size w (w.alloc (.cells #[.int .i64 a0_0, .int .i64 a0_1, .int .i64 a0_2, .slice A0_3 l0_3.length c0_3] 34))) := ⟨(below_alloc (Below.refl _ _) _)⟩
  clear hv hr0_3 hc0_3
  go_enter Try.func29, Try.ntmps29
  go_wp2_with fail
  refine (H1.out _ HB.out).mono ?_
  rintro e w1 ⟨rfl, hb1⟩
  have n0_ := Aside0.mk (blk_below BM.out hb1)
  have nb_ := Aside0.mk (below_step HB.out hb1)
  clear BM HB hb1
  have BM := n0_
  have HB := nb_
  clear n0_ nb_
  have hcBM0 := B.bc BM 0
  have hcBM1 := B.bc BM 1
  have hcBM2 := B.bc BM 2
  have hcBM3 := B.bc BM 3
  go_wp2
  go_ret
  exact ⟨_, rfl, Kd.R_nil _ _ _ _ _, HB.out⟩
set_option maxHeartbeats 4000000 in
theorem pixel_y0 (a0_0 : Int) (a0_1 : Int) (a0_2 : Int) (A0_3 : Option Addr) (c0_3 : Nat) (l0_3 : List Int) (a1 : Int) (a2 : Int) (w : World) (hr0_3 : Kd.C (Kd.int .i64) w A0_3 l0_3.length l0_3) (hc0_3 : l0_3.length ≤ c0_3) (hv : B.okImg a0_0 a0_1 a0_2 l0_3 = true) (t1 : ¬ a1 < 0) (t2 : ¬ a0_0 ≤ a1) (t3 : a2 < 0) :
    Calls Try.prog 29 #[.agg #[.int .i64 a0_0, .int .i64 a0_1, .int .i64 a0_2, .slice A0_3 l0_3.length c0_3], .int .i64 a1, .int .i64 a2] w fun e w' => ∃ v0_ : Value, e = .returned (v0_) ∧ Kd.R (Kd.int .i64) 3 w' w.heap.size (fun _ => True) v0_ [] ∧ Below w.heap.size w w' := by
  have hu28 := Try.underlying34
  have H1 := Aside0.mk (fun (W : World) (hW : Below w.heap.size w W) => impl_isImage.calls a0_0 a0_1 a0_2 A0_3 c0_3 l0_3 true W (Kd.C_below hr0_3 hW) hc0_3 (by rw [isImage_ok, hv]))
  have u1 : decide (a1 < 0) = false := decide_eq_false t1
  clear t1
  have u2 : decide (a0_0 ≤ a1) = false := decide_eq_false t2
  clear t2
  have u3 : decide (a2 < 0) = true := decide_eq_true t3
  clear t3
  have BM : Aside0 ((w.alloc (.cells #[.int .i64 a0_0, .int .i64 a0_1, .int .i64 a0_2, .slice A0_3 l0_3.length c0_3] 34)).heap[w.heap.size]? = some (.cells #[.int .i64 a0_0, .int .i64 a0_1, .int .i64 a0_2, .slice A0_3 l0_3.length c0_3] 34 (0, 0))) := ⟨(heap_alloc_new w (.cells #[.int .i64 a0_0, .int .i64 a0_1, .int .i64 a0_2, .slice A0_3 l0_3.length c0_3] 34))⟩
  have HB : Aside0 (Below w.heap.size w (w.alloc (.cells #[.int .i64 a0_0, .int .i64 a0_1, .int .i64 a0_2, .slice A0_3 l0_3.length c0_3] 34))) := ⟨(below_alloc (Below.refl _ _) _)⟩
  clear hv hr0_3 hc0_3
  go_enter Try.func29, Try.ntmps29
  go_wp2_with fail
  refine (H1.out _ HB.out).mono ?_
  rintro e w1 ⟨rfl, hb1⟩
  have n0_ := Aside0.mk (blk_below BM.out hb1)
  have nb_ := Aside0.mk (below_step HB.out hb1)
  clear BM HB hb1
  have BM := n0_
  have HB := nb_
  clear n0_ nb_
  have hcBM0 := B.bc BM 0
  have hcBM1 := B.bc BM 1
  have hcBM2 := B.bc BM 2
  have hcBM3 := B.bc BM 3
  go_wp2
  go_ret
  exact ⟨_, rfl, Kd.R_nil _ _ _ _ _, HB.out⟩
set_option maxHeartbeats 4000000 in
theorem pixel_y1 (a0_0 : Int) (a0_1 : Int) (a0_2 : Int) (A0_3 : Option Addr) (c0_3 : Nat) (l0_3 : List Int) (a1 : Int) (a2 : Int) (w : World) (hr0_3 : Kd.C (Kd.int .i64) w A0_3 l0_3.length l0_3) (hc0_3 : l0_3.length ≤ c0_3) (hv : B.okImg a0_0 a0_1 a0_2 l0_3 = true) (t1 : ¬ a1 < 0) (t2 : ¬ a0_0 ≤ a1) (t3 : ¬ a2 < 0) (t4 : a0_1 ≤ a2) :
    Calls Try.prog 29 #[.agg #[.int .i64 a0_0, .int .i64 a0_1, .int .i64 a0_2, .slice A0_3 l0_3.length c0_3], .int .i64 a1, .int .i64 a2] w fun e w' => ∃ v0_ : Value, e = .returned (v0_) ∧ Kd.R (Kd.int .i64) 3 w' w.heap.size (fun _ => True) v0_ [] ∧ Below w.heap.size w w' := by
  have hu28 := Try.underlying34
  have H1 := Aside0.mk (fun (W : World) (hW : Below w.heap.size w W) => impl_isImage.calls a0_0 a0_1 a0_2 A0_3 c0_3 l0_3 true W (Kd.C_below hr0_3 hW) hc0_3 (by rw [isImage_ok, hv]))
  have u1 : decide (a1 < 0) = false := decide_eq_false t1
  clear t1
  have u2 : decide (a0_0 ≤ a1) = false := decide_eq_false t2
  clear t2
  have u3 : decide (a2 < 0) = false := decide_eq_false t3
  clear t3
  have u4 : decide (a0_1 ≤ a2) = true := decide_eq_true t4
  clear t4
  have BM : Aside0 ((w.alloc (.cells #[.int .i64 a0_0, .int .i64 a0_1, .int .i64 a0_2, .slice A0_3 l0_3.length c0_3] 34)).heap[w.heap.size]? = some (.cells #[.int .i64 a0_0, .int .i64 a0_1, .int .i64 a0_2, .slice A0_3 l0_3.length c0_3] 34 (0, 0))) := ⟨(heap_alloc_new w (.cells #[.int .i64 a0_0, .int .i64 a0_1, .int .i64 a0_2, .slice A0_3 l0_3.length c0_3] 34))⟩
  have HB : Aside0 (Below w.heap.size w (w.alloc (.cells #[.int .i64 a0_0, .int .i64 a0_1, .int .i64 a0_2, .slice A0_3 l0_3.length c0_3] 34))) := ⟨(below_alloc (Below.refl _ _) _)⟩
  clear hv hr0_3 hc0_3
  go_enter Try.func29, Try.ntmps29
  go_wp2_with fail
  refine (H1.out _ HB.out).mono ?_
  rintro e w1 ⟨rfl, hb1⟩
  have n0_ := Aside0.mk (blk_below BM.out hb1)
  have nb_ := Aside0.mk (below_step HB.out hb1)
  clear BM HB hb1
  have BM := n0_
  have HB := nb_
  clear n0_ nb_
  have hcBM0 := B.bc BM 0
  have hcBM1 := B.bc BM 1
  have hcBM2 := B.bc BM 2
  have hcBM3 := B.bc BM 3
  go_wp2
  go_ret
  exact ⟨_, rfl, Kd.R_nil _ _ _ _ _, HB.out⟩
set_option maxHeartbeats 4000000 in
theorem pixel_yes (a0_0 : Int) (a0_1 : Int) (a0_2 : Int) (A0_3 : Option Addr) (c0_3 : Nat) (l0_3 : List Int) (a1 : Int) (a2 : Int) (w : World) (hr0_3 : Kd.C (Kd.int .i64) w A0_3 l0_3.length l0_3) (hc0_3 : l0_3.length ≤ c0_3) (hv : B.okImg a0_0 a0_1 a0_2 l0_3 = true) (t1 : ¬ a1 < 0) (t2 : ¬ a0_0 ≤ a1) (t3 : ¬ a2 < 0) (t4 : ¬ a0_1 ≤ a2) :
    Calls Try.prog 29 #[.agg #[.int .i64 a0_0, .int .i64 a0_1, .int .i64 a0_2, .slice A0_3 l0_3.length c0_3], .int .i64 a1, .int .i64 a2] w fun e w' => ∃ v0_ : Value, e = .returned (v0_) ∧ Kd.R (Kd.int .i64) 3 w' w.heap.size (fun _ => True) v0_ (B.pix l0_3 a0_0.toNat a0_2.toNat a1.toNat a2.toNat) ∧ Below w.heap.size w w' := by
  have hu28 := Try.underlying34
  have H1 := Aside0.mk (fun (W : World) (hW : Below w.heap.size w W) => impl_isImage.calls a0_0 a0_1 a0_2 A0_3 c0_3 l0_3 true W (Kd.C_below hr0_3 hW) hc0_3 (by rw [isImage_ok, hv]))
  have H2 := Aside0.mk (fun (W : World) (hW : Below w.heap.size w W) => at_calls a0_0 a0_1 a0_2 a1 a2 A0_3 c0_3 l0_3 W (B.okImg_img hv).1 ⟨by omega, by omega⟩ ⟨by omega, by omega⟩ (Kd.C_below hr0_3 hW) hc0_3)
  have hpl : (B.pix l0_3 a0_0.toNat a0_2.toNat a1.toNat a2.toNat).length ≤ 4 := by
    have := (B.okImg_img hv).1.2.2.2.2.2.1
    unfold B.pix B.chunk
    rw [List.length_take]
    omega
  generalize (B.pix l0_3 a0_0.toNat a0_2.toNat a1.toNat a2.toNat) = px at H2 hpl ⊢
  have HPL := Aside0.mk hpl
  clear hpl
  have u1 : decide (a1 < 0) = false := decide_eq_false t1
  clear t1
  have u2 : decide (a0_0 ≤ a1) = false := decide_eq_false t2
  clear t2
  have u3 : decide (a2 < 0) = false := decide_eq_false t3
  clear t3
  have u4 : decide (a0_1 ≤ a2) = false := decide_eq_false t4
  clear t4
  have BM : Aside0 ((w.alloc (.cells #[.int .i64 a0_0, .int .i64 a0_1, .int .i64 a0_2, .slice A0_3 l0_3.length c0_3] 34)).heap[w.heap.size]? = some (.cells #[.int .i64 a0_0, .int .i64 a0_1, .int .i64 a0_2, .slice A0_3 l0_3.length c0_3] 34 (0, 0))) := ⟨(heap_alloc_new w (.cells #[.int .i64 a0_0, .int .i64 a0_1, .int .i64 a0_2, .slice A0_3 l0_3.length c0_3] 34))⟩
  have HB : Aside0 (Below w.heap.size w (w.alloc (.cells #[.int .i64 a0_0, .int .i64 a0_1, .int .i64 a0_2, .slice A0_3 l0_3.length c0_3] 34))) := ⟨(below_alloc (Below.refl _ _) _)⟩
  clear hv hr0_3 hc0_3
  go_enter Try.func29, Try.ntmps29
  go_wp2_with fail
  refine (H1.out _ HB.out).mono ?_
  rintro e w1 ⟨rfl, hb1⟩
  have n0_ := Aside0.mk (blk_below BM.out hb1)
  have nb_ := Aside0.mk (below_step HB.out hb1)
  clear BM HB hb1
  have BM := n0_
  have HB := nb_
  clear n0_ nb_
  have hcBM0 := B.bc BM 0
  have hcBM1 := B.bc BM 1
  have hcBM2 := B.bc BM 2
  have hcBM3 := B.bc BM 3
  go_wp2_with (first | ((with_reducible refine gate_dst (N := 30) rfl ?_); refine Kd.R_lit (Kd.int .i64) _ 3 ?hg (N := 30) ?hd (xs := ([] : List Int)) (inner := []) (ok := fun _ => True) (okp := fun _ => True) ?hr ?hp (fun _ hk => hk) trivial (Below.refl _ _) (Nat.le_refl _) (by simp) ?_; (case hd => rfl); (case hg => rfl); (case hr => first | (go_simp; done) | (go_simp; rfl)); (case hp => exact (Reps.none _ _)); intro v2 w2 ho2 hb2 hg_ hnew_; clear hg_ hnew_; have n0_ := Aside0.mk (blk_below BM.out hb2); have n1_ := Aside0.mk (below_step HB.out hb2); have n2_ := Aside0.mk (Kd.R_lower ho2 HB.out.size); clear BM HB hb2 ho2; have BM := n0_; have HB := n1_; have HO := n2_; clear n0_ n1_ n2_; clear hcBM0 hcBM1 hcBM2 hcBM3; have hcBM0 : w2.cell? ⟨w.heap.size, 0, none⟩ = some (.int .i64 a0_0) := (blk_cell BM.out 0).trans rfl; have hcBM1 : w2.cell? ⟨w.heap.size, 1, none⟩ = some (.int .i64 a0_1) := (blk_cell BM.out 1).trans rfl; have hcBM2 : w2.cell? ⟨w.heap.size, 2, none⟩ = some (.int .i64 a0_2) := (blk_cell BM.out 2).trans rfl; have hcBM3 : w2.cell? ⟨w.heap.size, 3, none⟩ = some (.slice A0_3 l0_3.length c0_3) := (blk_cell BM.out 3).trans rfl))
  go_wp2_with fail
  refine (H2.out _ HB.out).mono ?_
  rintro e w3 ⟨A1, c1, rfl, hc1, hC, hb3⟩
  clear hcBM0 hcBM1 hcBM2 hcBM3
  have HO3 := Aside0.mk (Kd.R_below HO.out hb3)
  have HC := Aside0.mk hC
  have n1_ := Aside0.mk (below_step HB.out hb3)
  clear HB HO hC hc1 hb3 BM
  have HB := n1_
  clear n1_
  go_wp2_with (first | ((with_reducible refine gate_builtin (b := .append) (xs := #[.tmp 30, .tmp 34]) rfl ?_); at_builtin; refine Kd.R_append_rows (Kd.int .i64) (w0 := w) w.heap.size rfl (.tmp 30) (.tmp 34) 32 3 (.int .i64 0) 8 rfl Try.underlying32 info3 rfl (by decide) (by omega) v2 [] px _ _ _ (fun _ => True) (fun _ => False) rfl rfl ?aO ?aR (fun _ _ h => h) (fun _ h => h.elim) ?aF ?aB ?aS ?aL ?_; (case aR => exact HC.out); (case aB => exact HB.out); (case aF => exact (fun _ _ => trivial)); (case aO => exact HO3.out); (case aS => exact HB.out.size); (case aL => have := HPL.out; simp only [List.length_nil]; omega); intro v4 w4 ho4 hb4 hg4 hat4; rw [List.nil_append] at ho4; have n0_ := Aside0.mk hb4; have n1_ := Aside0.mk ho4; clear HB HO3 HC hb4 ho4 hg4 hat4; have HB := n0_; have HO := n1_; clear n0_ n1_))
  go_ret
  exact ⟨_, rfl, HO.out, HB.out⟩
theorem impl_PixelAt.calls (a0_0 : Int) (a0_1 : Int) (a0_2 : Int) (A0_3 : Option Addr) (c0_3 : Nat) (l0_3 : List Int) (a1 : Int) (a2 : Int) (r : List Int) (w : World) (hr0_3 : Kd.C (Kd.int .i64) w A0_3 l0_3.length l0_3) (hc0_3 : l0_3.length ≤ c0_3) (h : impl_PixelAt.f a0_0 a0_1 a0_2 l0_3 a1 a2 = some r) :
    Calls Try.prog 29 #[.agg #[.int .i64 a0_0, .int .i64 a0_1, .int .i64 a0_2, .slice A0_3 l0_3.length c0_3], .int .i64 a1, .int .i64 a2] w fun e w' => ∃ v0_ : Value, e = .returned (v0_) ∧ Kd.R (Kd.int .i64) 3 w' w.heap.size (fun _ => True) v0_ r ∧ Below w.heap.size w w' := by
  unfold impl_PixelAt.f at h
  by_cases hv : B.okImg a0_0 a0_1 a0_2 l0_3 = true
  case neg =>
    exact (by
    rw [if_neg (fun g => hv g.1)] at h
    obtain rfl := Option.some.inj h
    exact pixel_no a0_0 a0_1 a0_2 A0_3 c0_3 l0_3 a1 a2 w hr0_3 hc0_3 (Bool.eq_false_iff.2 hv))
  by_cases t1 : a1 < 0
  · exact (by
    rw [if_neg (fun g => by have := g.2; simp only [onImg, Bool.and_eq_true, decide_eq_true_eq] at this; omega)] at h
    obtain rfl := Option.some.inj h
    exact pixel_x0 a0_0 a0_1 a0_2 A0_3 c0_3 l0_3 a1 a2 w hr0_3 hc0_3 hv t1)
  by_cases t2 : a0_0 ≤ a1
  · exact (by
    rw [if_neg (fun g => by have := g.2; simp only [onImg, Bool.and_eq_true, decide_eq_true_eq] at this; omega)] at h
    obtain rfl := Option.some.inj h
    exact pixel_x1 a0_0 a0_1 a0_2 A0_3 c0_3 l0_3 a1 a2 w hr0_3 hc0_3 hv t1 t2)
  by_cases t3 : a2 < 0
  · exact (by
    rw [if_neg (fun g => by have := g.2; simp only [onImg, Bool.and_eq_true, decide_eq_true_eq] at this; omega)] at h
    obtain rfl := Option.some.inj h
    exact pixel_y0 a0_0 a0_1 a0_2 A0_3 c0_3 l0_3 a1 a2 w hr0_3 hc0_3 hv t1 t2 t3)
  by_cases t4 : a0_1 ≤ a2
  · exact (by
    rw [if_neg (fun g => by have := g.2; simp only [onImg, Bool.and_eq_true, decide_eq_true_eq] at this; omega)] at h
    obtain rfl := Option.some.inj h
    exact pixel_y1 a0_0 a0_1 a0_2 A0_3 c0_3 l0_3 a1 a2 w hr0_3 hc0_3 hv t1 t2 t3 t4)
  have hon : onImg a0_0 a0_1 a1 a2 = true := by
    simp only [onImg, Bool.and_eq_true, decide_eq_true_eq]
    omega
  rw [if_pos ⟨hv, hon⟩] at h
  obtain rfl := Option.some.inj h
  exact pixel_yes a0_0 a0_1 a0_2 A0_3 c0_3 l0_3 a1 a2 w hr0_3 hc0_3 hv t1 t2 t3 t4

end Go.Proofs.Ytpadegboplcapaa.Q
