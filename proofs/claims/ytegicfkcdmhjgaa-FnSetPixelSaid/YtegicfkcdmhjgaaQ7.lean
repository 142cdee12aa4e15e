-- Written by a program of this session (the kit's printer, with hand-proved contracts for the functions that it does not take).
import Derived.Test.YtegicfkcdmhjgaaQ0
import Derived.Test.YtegicfkcdmhjgaaQ1
import Derived.Test.YtegicfkcdmhjgaaQ5
import Derived.Test.YtegicfkcdmhjgaaQ6
namespace Go.Proofs.Ytegicfkcdmhjgaa.Q
open Go.RowKit Go.Proofs.YtegicfkcdmhjgaaW.PrintWords Go.Proofs.YtegicfkcdmhjgaaW.PrintLast Go.Proofs.YtegicfkcdmhjgaaW.PrintMore
attribute [local go_sem] max2_int min2_int max_two min_two max_three min_three max_four min_four   -- for this text's walks alone
set_option linter.unusedVariables false
set_option linter.unusedSimpArgs false

/-! ### spec_randomImage: function 62 -/
def spec_randomImage.l0 : Nat → Int → Int → Int → List Int → Int → Int → Int → Int → List Int → Option (Int × Int × Int × List Int × Int)
  | 0, _, _, _, _, _, _, _, _, _ => none
  | k + 1, x6, x7, x8, x1000, x1001, x312000, x312001, x312002, x312003 => if x8 < (x312003.length : Int) then (if x6 = 0 then ((spec_reader_pick.f k x1000 x1001 256).bind fun bt316 => (if 0 ≤ x8 then (spec_randomImage.l0 k x6 bt316.1 (wrap64 (x8 + 1)) x1000 bt316.2 x312000 x312001 x312002 (x312003.set (x8 : Int).toNat bt316.1)) else (none))) else (if x6 = 1 then ((spec_reader_pick.f k x1000 x1001 5).bind fun bt319 => (if 0 ≤ x8 then (spec_randomImage.l0 k x6 (Int.tmod (wrap64 ((wrap64 (x7 + bt319.1)) + 254)) 256) (wrap64 (x8 + 1)) x1000 bt319.2 x312000 x312001 x312002 (x312003.set (x8 : Int).toNat (Int.tmod (wrap64 ((wrap64 (x7 + bt319.1)) + 254)) 256))) else (none))) else (if x6 = 2 then ((spec_reader_pick.f k x1000 x1001 4).bind fun bt322 => (if 0 ≤ x8 then (spec_randomImage.l0 k x6 (wrap64 (60 * bt322.1)) (wrap64 (x8 + 1)) x1000 bt322.2 x312000 x312001 x312002 (x312003.set (x8 : Int).toNat (wrap64 (60 * bt322.1)))) else (none))) else (if 0 ≤ x8 then (spec_randomImage.l0 k x6 x7 (wrap64 (x8 + 1)) x1000 x1001 x312000 x312001 x312002 (x312003.set (x8 : Int).toNat x7)) else (none))))) else (some (x312000, x312001, x312002, x312003, x1001))
def spec_randomImage.f (k : Nat) (s0_0 : List Int) (s0_1 : Int) (a1 : Int) : Option (Int × Int × Int × List Int × Int) := (spec_reader_one.f k s0_0 s0_1 (([3, 4, 2, 5, 1, 8, 6] : List Int))).bind fun bt298 => ((spec_reader_one.f k s0_0 bt298.2 (([3, 2, 4, 1, 5, 8] : List Int))).bind fun bt303 => ((spec_newImage.f bt298.1 bt303.1 a1).bind fun bt305 => ((spec_reader_pick.f k s0_0 bt303.2 4).bind fun bt312 => ((spec_reader_pick.f k s0_0 bt312.2 256).bind fun bt314 => (spec_randomImage.l0 k bt312.1 bt314.1 0 s0_0 bt314.2 bt305.1 bt305.2.1 bt305.2.2.1 bt305.2.2.2)))))
theorem spec_randomImage.mono_l : ∀ k, (∀ y0 y1 y2 y3 y4 y5 y6 y7 y8, LeO (spec_randomImage.l0 k y0 y1 y2 y3 y4 y5 y6 y7 y8) (spec_randomImage.l0 (k + 1) y0 y1 y2 y3 y4 y5 y6 y7 y8))
  | 0 => fun _ _ _ _ _ _ _ _ _ r h => by simp [spec_randomImage.l0] at h
  | k + 1 => by
    have ih0 := spec_randomImage.mono_l k
    · intro y0 y1 y2 y3 y4 y5 y6 y7 y8
      unfold spec_randomImage.l0
      repeat' first
      | (with_reducible exact ih0 _ _ _ _ _ _ _ _ _)
      | (with_reducible exact spec_reader_one.mono _ _ _ _)
      | (with_reducible exact spec_reader_pick.mono _ _ _ _)
      | (with_reducible exact LeO.refl _)
      | (with_reducible exact LeO.none _)
      | (with_reducible refine LeO.ite ?_ ?_)
      | (with_reducible refine LeO.bind ?_ (fun _ => ?_))
      | exact ih0 _ _ _ _ _ _ _ _ _
      | exact spec_reader_one.mono _ _ _ _
      | exact spec_reader_pick.mono _ _ _ _
      | exact LeO.none _
      | refine LeO.ite ?_ ?_
      | refine LeO.bind ?_ (fun _ => ?_)
theorem spec_randomImage.mono : ∀ a0 a1 a2 k, LeO (spec_randomImage.f k a0 a1 a2) (spec_randomImage.f (k + 1) a0 a1 a2) := by
  intro a0 a1 a2 k
  have ih0 := spec_randomImage.mono_l k
  unfold spec_randomImage.f
  repeat' first
      | (with_reducible exact ih0 _ _ _ _ _ _ _ _ _)
      | (with_reducible exact spec_reader_one.mono _ _ _ _)
      | (with_reducible exact spec_reader_pick.mono _ _ _ _)
      | (with_reducible exact LeO.refl _)
      | (with_reducible exact LeO.none _)
      | (with_reducible refine LeO.ite ?_ ?_)
      | (with_reducible refine LeO.bind ?_ (fun _ => ?_))
      | exact ih0 _ _ _ _ _ _ _ _ _
      | exact spec_reader_one.mono _ _ _ _
      | exact spec_reader_pick.mono _ _ _ _
      | exact LeO.none _
      | refine LeO.ite ?_ ?_
      | refine LeO.bind ?_ (fun _ => ?_)
set_option maxHeartbeats 8000000 in
set_option maxRecDepth 100000 in
theorem spec_randomImage.calls (k : Nat) (g : Nat) (s0_0 : List Int) (s0_1 : Int) (a1 : Int) (r1 : Int) (r2 : Int) (r3 : Int) (r4 : List Int) (r5 : Int) (w0 w : World) (hI : IsS67 w0 w g s0_0 s0_1) (hB : Below w0.heap.size w0 w) (h : spec_randomImage.f k s0_0 s0_1 a1 = some (r1, r2, r3, r4, r5)) :
    Calls Try.prog 62 #[.pointer (some ⟨g, 0, none⟩), .int .i64 a1] w fun e w' => ∃ v3_ : Value, e = .returned (.agg #[.int .i64 r1, .int .i64 r2, .int .i64 r3, v3_]) ∧ Kd.R (Kd.int .i64) 3 w' w.heap.size (fun _ => True) v3_ r4 ∧ IsS67 w0 w' g s0_0 r5 ∧ Below w0.heap.size w0 w' ∧ KeepBut w w' g none := by
  have hu27 := Try.underlying27
  have HI0 := Aside0.mk hI
  have HK := Aside0.mk (KeepBut.refl w g none)
  have HL := Aside0.mk hB.size
  clear hI
  have HW0 := Aside0.mk hB.size
  have HB := Aside0.mk hB
  clear hB
  have H : ((spec_reader_one.f k s0_0 s0_1 (([3, 4, 2, 5, 1, 8, 6] : List Int))).bind fun bt298 => ((spec_reader_one.f k s0_0 bt298.2 (([3, 2, 4, 1, 5, 8] : List Int))).bind fun bt303 => ((spec_newImage.f bt298.1 bt303.1 a1).bind fun bt305 => ((spec_reader_pick.f k s0_0 bt303.2 4).bind fun bt312 => ((spec_reader_pick.f k s0_0 bt312.2 256).bind fun bt314 => (spec_randomImage.l0 k bt312.1 bt314.1 0 s0_0 bt314.2 bt305.1 bt305.2.1 bt305.2.2.1 bt305.2.2.2)))))) = some (r1, r2, r3, r4, r5) := h
  clear h
  obtain ⟨y295, hy295⟩ : ∃ y_ : List Int, y_ = (([3, 4, 2, 5, 1, 8, 6] : List Int)) := ⟨_, rfl⟩
  replace H : ((spec_reader_one.f k s0_0 s0_1 y295).bind fun bt298 => ((spec_reader_one.f k s0_0 bt298.2 (([3, 2, 4, 1, 5, 8] : List Int))).bind fun bt303 => ((spec_newImage.f bt298.1 bt303.1 a1).bind fun bt305 => ((spec_reader_pick.f k s0_0 bt303.2 4).bind fun bt312 => ((spec_reader_pick.f k s0_0 bt312.2 256).bind fun bt314 => (spec_randomImage.l0 k bt312.1 bt314.1 0 s0_0 bt314.2 bt305.1 bt305.2.1 bt305.2.2.1 bt305.2.2.2)))))) = some (r1, r2, r3, r4, r5) := by first | (rw [hy295]; with_reducible exact H) | (have H2_ := (Option.bind_some _ _).symm.trans H; rw [hy295]; with_reducible exact H2_) | (have H2_ := (Option.bind_some _ _).symm.trans H; with_reducible exact H2_) | with_reducible exact H | (rw [hy295]; exact H) | exact H
  have Ny295 := Aside0.mk hy295
  clear hy295
  replace H := Option.bind_eq_some_iff.mp H
  obtain ⟨⟨t298, t299⟩, A30, H⟩ := H
  replace H : ((spec_reader_one.f k s0_0 t299 (([3, 2, 4, 1, 5, 8] : List Int))).bind fun bt303 => ((spec_newImage.f t298 bt303.1 a1).bind fun bt305 => ((spec_reader_pick.f k s0_0 bt303.2 4).bind fun bt312 => ((spec_reader_pick.f k s0_0 bt312.2 256).bind fun bt314 => (spec_randomImage.l0 k bt312.1 bt314.1 0 s0_0 bt314.2 bt305.1 bt305.2.1 bt305.2.2.1 bt305.2.2.2))))) = some (r1, r2, r3, r4, r5) := H
  have A3 := Aside0.mk A30
  clear A30
  obtain ⟨y300, hy300⟩ : ∃ y_ : List Int, y_ = (([3, 2, 4, 1, 5, 8] : List Int)) := ⟨_, rfl⟩
  replace H : ((spec_reader_one.f k s0_0 t299 y300).bind fun bt303 => ((spec_newImage.f t298 bt303.1 a1).bind fun bt305 => ((spec_reader_pick.f k s0_0 bt303.2 4).bind fun bt312 => ((spec_reader_pick.f k s0_0 bt312.2 256).bind fun bt314 => (spec_randomImage.l0 k bt312.1 bt314.1 0 s0_0 bt314.2 bt305.1 bt305.2.1 bt305.2.2.1 bt305.2.2.2))))) = some (r1, r2, r3, r4, r5) := by first | (rw [hy300]; with_reducible exact H) | (have H2_ := (Option.bind_some _ _).symm.trans H; rw [hy300]; with_reducible exact H2_) | (have H2_ := (Option.bind_some _ _).symm.trans H; with_reducible exact H2_) | with_reducible exact H | (rw [hy300]; exact H) | exact H
  have Ny300 := Aside0.mk hy300
  clear hy300
  replace H := Option.bind_eq_some_iff.mp H
  obtain ⟨⟨t303, t304⟩, A40, H⟩ := H
  replace H : ((spec_newImage.f t298 t303 a1).bind fun bt305 => ((spec_reader_pick.f k s0_0 t304 4).bind fun bt312 => ((spec_reader_pick.f k s0_0 bt312.2 256).bind fun bt314 => (spec_randomImage.l0 k bt312.1 bt314.1 0 s0_0 bt314.2 bt305.1 bt305.2.1 bt305.2.2.1 bt305.2.2.2)))) = some (r1, r2, r3, r4, r5) := H
  have A4 := Aside0.mk A40
  clear A40
  replace H := Option.bind_eq_some_iff.mp H
  obtain ⟨⟨t305, t306, t307, t308⟩, A50, H⟩ := H
  replace H : ((spec_reader_pick.f k s0_0 t304 4).bind fun bt312 => ((spec_reader_pick.f k s0_0 bt312.2 256).bind fun bt314 => (spec_randomImage.l0 k bt312.1 bt314.1 0 s0_0 bt314.2 t305 t306 t307 t308))) = some (r1, r2, r3, r4, r5) := H
  have A5 := Aside0.mk A50
  clear A50
  replace H := Option.bind_eq_some_iff.mp H
  obtain ⟨⟨t312, t313⟩, A60, H⟩ := H
  replace H : ((spec_reader_pick.f k s0_0 t313 256).bind fun bt314 => (spec_randomImage.l0 k t312 bt314.1 0 s0_0 bt314.2 t305 t306 t307 t308)) = some (r1, r2, r3, r4, r5) := H
  have A6 := Aside0.mk A60
  clear A60
  replace H := Option.bind_eq_some_iff.mp H
  obtain ⟨⟨t314, t315⟩, A70, H⟩ := H
  replace H : (spec_randomImage.l0 k t312 t314 0 s0_0 t315 t305 t306 t307 t308) = some (r1, r2, r3, r4, r5) := H
  have A7 := Aside0.mk A70
  clear A70
  have H' := Aside0.mk H
  clear H
  go_enter Try.func62, Try.ntmps62
  go_wp2_with (first | ((with_reducible refine gate_dst (N := 4) rfl ?_); refine box_event ?hg (N := 4) ?hd (cs := #[.int .i64 0, .int .i64 0, .int .i64 0, .slice none 0 0]) (t := 27) ?hr ?_; (case hd => rfl); (case hg => rfl); (case hr => first | (go_simp; done) | (go_simp; rfl)); intro gb294 hg w8 hbox hb; have n0_ := Aside0.mk (IsS67.below (B.st HI0) hb); have n1_ := Aside0.mk (KeepBut.trans (B.kk HK) (KeepBut.of_below hb g none) (.inl rfl)); have n2_ := Aside0.mk (below_step (B.bs HB) hb); have n3_ := Aside0.mk (hbox); have n4_ := Aside0.mk ((by rw [hg]; exact (keep_size (w := w) (g := g) (row := none) (B.kk HK)) : w.heap.size ≤ gb294)); have n5_ := Aside0.mk ((Nat.le_trans HW0.out (by rw [hg]; exact (keep_size (w := w) (g := g) (row := none) (B.kk HK)) : w.heap.size ≤ gb294) : w0.heap.size ≤ gb294)); have n6_ := Aside0.mk ((by rw [hg]; exact Nat.ne_of_lt (IsS67.lt (show IsS67 w0 _ g s0_0 s0_1 from B.st HI0)) : g ≠ gb294)); have n7_ := Aside0.mk ((by rw [hg]; exact Nat.ne_of_gt (IsS67.lt (show IsS67 w0 _ g s0_0 s0_1 from B.st HI0)) : gb294 ≠ g)); clear HI0 HK HB; have HI0 := n0_; have HK := n1_; have HB := n2_; have BK294 := n3_; have GW294 := n4_; have GE294 := n5_; have NB0_294 := n6_; have NB294_0 := n7_; clear n0_ n1_ n2_ n3_ n4_ n5_ n6_ n7_; clear hb hbox hg) | ((with_reducible refine gate_dst (N := 10) rfl ?_); refine Kd.R_lit (Kd.int .i64) _ 3 ?hg (N := 10) ?hd (xs := ([3, 4, 2, 5, 1, 8, 6] : List Int)) (inner := [.int .i64 3, .int .i64 4, .int .i64 2, .int .i64 5, .int .i64 1, .int .i64 8, .int .i64 6]) (ok := fun _ => True) (okp := fun _ => True) ?hr ?hp (fun _ hk => hk) trivial (Below.refl _ _) (Nat.le_refl _) (by simp) ?_; (case hd => rfl); (case hg => rfl); (case hr => first | (go_simp; done) | (go_simp; rfl)); (case hp => exact (Reps.one (show Kd.M (Kd.int .i64) _ _ _ 3 [.int .i64 3] from rfl) (Reps.one (show Kd.M (Kd.int .i64) _ _ _ 4 [.int .i64 4] from rfl) (Reps.one (show Kd.M (Kd.int .i64) _ _ _ 2 [.int .i64 2] from rfl) (Reps.one (show Kd.M (Kd.int .i64) _ _ _ 5 [.int .i64 5] from rfl) (Reps.one (show Kd.M (Kd.int .i64) _ _ _ 1 [.int .i64 1] from rfl) (Reps.one (show Kd.M (Kd.int .i64) _ _ _ 8 [.int .i64 8] from rfl) (Reps.one (show Kd.M (Kd.int .i64) _ _ _ 6 [.int .i64 6] from rfl) (Reps.none _ _))))))))); intro v296 w9 ho10 hb hg_ hnew_; clear hg_ hnew_; (first | rw [← Ny295.out] at ho10 | (simp only [Int.reduceToNat] at ho10; rw [← Ny295.out] at ho10)); have n0_ := Aside0.mk (Kd.R_lower ho10 (keep_size (w := w) (g := g) (row := none) (B.kk HK))); have n1_ := Aside0.mk (IsS67.below (B.st HI0) hb); have n2_ := Aside0.mk (blk_below (B.kb BK294) hb); have n3_ := Aside0.mk (KeepBut.trans (B.kk HK) (KeepBut.of_below hb g none) (.inl rfl)); have n4_ := Aside0.mk (below_step (B.bs HB) hb); clear HI0 BK294 HK HB; have HO297 := n0_; have HI0 := n1_; have BK294 := n2_; have HK := n3_; have HB := n4_; clear n0_ n1_ n2_ n3_ n4_; clear hb ho10; obtain ⟨Ao11, co11, eo11⟩ := Kd.R_slice HO297.out; subst eo11) | ((with_reducible refine gate_callee (f := 64) rfl ?_); refine goesL_ (some 11) rfl rfl Try.func64 (by kernel_rfl) rfl #[.pointer (some ⟨g, 0, none⟩), .slice Ao11 y295.length co11] rfl B.am ?_; (with_reducible refine (spec_reader_one.calls k g s0_0 s0_1 _ _ y295 t298 t299 w0 _ ?side1 ?side2 ?side3 ?side4 ?side5 A3.out).mono ?_); (case side1 => exact B.st HI0); (case side2 => exact B.bs HB); (case side3 => exact B.kc ((Kd.R_reads' HO297.out).2.2)); (case side4 => exact (Kd.R_reads' HO297.out).2.1); (case side5 => exact far_slice (IsS67.own_ne HI0.out HO297.out (by decide))); rintro e w12 ⟨rfl, hi, hb, hk⟩; refine ⟨_, rfl, ?_⟩; have n0_ := Aside0.mk (KeepBut.blk hk (g' := gb294) (o := .cells #[.int .i64 0, .int .i64 0, .int .i64 0, .slice none 0 0] 27 (0, 0)) (B.kb BK294) NB294_0.out (by simp)); have n1_ := Aside0.mk (Kd.R_mono (Kd.R_keep (IsS67.apart (show IsS67 w0 _ g s0_0 s0_1 from B.st HI0) (B.kr HO297) (by decide)) hk (fun _ h => h.2)) (fun _ h => h.1)); have n2_ := Aside0.mk (KeepBut.trans (B.kk HK) hk (.inl rfl)); have n3_ := Aside0.mk (hb); have n4_ := Aside0.mk (hi); clear BK294 HO297 HK HB HI0; have BK294 := n0_; have HO297 := n1_; have HK := n2_; have HB := n3_; have HI0 := n4_; clear n0_ n1_ n2_ n3_ n4_; (try clear hb); (try clear hb2); (try clear hk); (try clear hi)) | ((with_reducible refine gate_dst (N := 13) rfl ?_); refine Kd.R_lit (Kd.int .i64) _ 3 ?hg (N := 13) ?hd (xs := ([3, 2, 4, 1, 5, 8] : List Int)) (inner := [.int .i64 3, .int .i64 2, .int .i64 4, .int .i64 1, .int .i64 5, .int .i64 8]) (ok := fun _ => True) (okp := fun _ => True) ?hr ?hp (fun _ hk => hk) trivial (Below.refl _ _) (Nat.le_refl _) (by simp) ?_; (case hd => rfl); (case hg => rfl); (case hr => first | (go_simp; done) | (go_simp; rfl)); (case hp => exact (Reps.one (show Kd.M (Kd.int .i64) _ _ _ 3 [.int .i64 3] from rfl) (Reps.one (show Kd.M (Kd.int .i64) _ _ _ 2 [.int .i64 2] from rfl) (Reps.one (show Kd.M (Kd.int .i64) _ _ _ 4 [.int .i64 4] from rfl) (Reps.one (show Kd.M (Kd.int .i64) _ _ _ 1 [.int .i64 1] from rfl) (Reps.one (show Kd.M (Kd.int .i64) _ _ _ 5 [.int .i64 5] from rfl) (Reps.one (show Kd.M (Kd.int .i64) _ _ _ 8 [.int .i64 8] from rfl) (Reps.none _ _)))))))); intro v301 w13 ho14 hb hg_ hnew_; clear hg_ hnew_; (first | rw [← Ny300.out] at ho14 | (simp only [Int.reduceToNat] at ho14; rw [← Ny300.out] at ho14)); have n0_ := Aside0.mk (Kd.R_elder' (B.kr HO297) (Kd.R_base ho14) hb); have n1_ := Aside0.mk (Kd.R_lower (Kd.R_new' ho14 (Kd.R_lt (B.kr HO297))) (keep_size (w := w) (g := g) (row := none) (B.kk HK))); have n2_ := Aside0.mk (IsS67.below (B.st HI0) hb); have n3_ := Aside0.mk (blk_below (B.kb BK294) hb); have n4_ := Aside0.mk (KeepBut.trans (B.kk HK) (KeepBut.of_below hb g none) (.inl rfl)); have n5_ := Aside0.mk (below_step (B.bs HB) hb); clear HO297 HI0 BK294 HK HB; have HO297 := n0_; have HO302 := n1_; have HI0 := n2_; have BK294 := n3_; have HK := n4_; have HB := n5_; clear n0_ n1_ n2_ n3_ n4_ n5_; clear hb ho14; obtain ⟨Ao15, co15, eo15⟩ := Kd.R_slice HO302.out; subst eo15) | ((with_reducible refine gate_callee (f := 64) rfl ?_); refine goesL_ (some 14) rfl rfl Try.func64 (by kernel_rfl) rfl #[.pointer (some ⟨g, 0, none⟩), .slice Ao15 y300.length co15] rfl B.am ?_; (with_reducible refine (spec_reader_one.calls k g s0_0 t299 _ _ y300 t303 t304 w0 _ ?side1 ?side2 ?side3 ?side4 ?side5 A4.out).mono ?_); (case side1 => exact B.st HI0); (case side2 => exact B.bs HB); (case side3 => exact B.kc ((Kd.R_reads' HO302.out).2.2)); (case side4 => exact (Kd.R_reads' HO302.out).2.1); (case side5 => exact far_slice (IsS67.own_ne HI0.out HO302.out (by decide))); rintro e w16 ⟨rfl, hi, hb, hk⟩; refine ⟨_, rfl, ?_⟩; have n0_ := Aside0.mk (KeepBut.blk hk (g' := gb294) (o := .cells #[.int .i64 0, .int .i64 0, .int .i64 0, .slice none 0 0] 27 (0, 0)) (B.kb BK294) NB294_0.out (by simp)); have n1_ := Aside0.mk (Kd.R_mono (Kd.R_keep (IsS67.apart (show IsS67 w0 _ g s0_0 t299 from B.st HI0) (B.kr HO297) (by decide)) hk (fun _ h => h.2)) (fun _ h => h.1)); have n2_ := Aside0.mk (Kd.R_mono (Kd.R_keep (IsS67.apart (show IsS67 w0 _ g s0_0 t299 from B.st HI0) (B.kr HO302) (by decide)) hk (fun _ h => h.2)) (fun _ h => h.1)); have n3_ := Aside0.mk (KeepBut.trans (B.kk HK) hk (.inl rfl)); have n4_ := Aside0.mk (hb); have n5_ := Aside0.mk (hi); clear BK294 HO297 HO302 HK HB HI0; have BK294 := n0_; have HO297 := n1_; have HO302 := n2_; have HK := n3_; have HB := n4_; have HI0 := n5_; clear n0_ n1_ n2_ n3_ n4_ n5_; (try clear hb); (try clear hb2); (try clear hk); (try clear hi)) | ((with_reducible refine gate_callee (f := 40) rfl ?_); refine goesL_ (some 16) rfl rfl Try.func40 (by kernel_rfl) rfl #[.int .i64 t298, .int .i64 t303, .int .i64 a1] rfl B.am ?_; (with_reducible refine (spec_newImage.calls t298 t303 a1 t305 t306 t307 t308 _ A5.out).mono ?_); rintro e w17 ⟨v309, rfl, ho0, hb⟩; refine ⟨_, rfl, ?_⟩; have n0_ := Aside0.mk (Kd.R_elder' (B.kr HO297) (Kd.R_base ho0) hb); have n1_ := Aside0.mk (Kd.R_elder' (B.kr HO302) (Kd.R_base ho0) hb); have n2_ := Aside0.mk (Kd.R_lower (Kd.R_new' (Kd.R_new' ho0 (Kd.R_lt (B.kr HO297))) (Kd.R_lt (B.kr HO302))) (keep_size (w := w) (g := g) (row := none) (B.kk HK))); have n3_ := Aside0.mk (IsS67.below (B.st HI0) hb); have n4_ := Aside0.mk (blk_below (B.kb BK294) hb); have n5_ := Aside0.mk (KeepBut.trans (B.kk HK) (KeepBut.of_below hb g none) (.inl rfl)); have n6_ := Aside0.mk (below_step (B.bs HB) hb); clear HO297 HO302 HI0 BK294 HK HB; have HO297 := n0_; have HO302 := n1_; have HO310 := n2_; have HI0 := n3_; have BK294 := n4_; have HK := n5_; have HB := n6_; clear n0_ n1_ n2_ n3_ n4_ n5_ n6_; (try clear hb); (try clear hb2); (try clear hk); (try clear hi); (try clear ho0)) | ((with_reducible refine gate_dst (N := 5) rfl ?_); refine box_event ?hg (N := 5) ?hd (cs := #[.int .i64 0, .int .i64 0, .int .i64 0, .slice none 0 0]) (t := 27) ?hr ?_; (case hd => rfl); (case hg => rfl); (case hr => first | (go_simp; done) | (go_simp; rfl)); intro gb311 hg w18 hbox hb; have n0_ := Aside0.mk (Kd.R_below (B.kr HO297) hb); have n1_ := Aside0.mk (Kd.R_below (B.kr HO302) hb); have n2_ := Aside0.mk (Kd.R_below (B.kr HO310) hb); have n3_ := Aside0.mk (IsS67.below (B.st HI0) hb); have n4_ := Aside0.mk (blk_below (B.kb BK294) hb); have n5_ := Aside0.mk (KeepBut.trans (B.kk HK) (KeepBut.of_below hb g none) (.inl rfl)); have n6_ := Aside0.mk (below_step (B.bs HB) hb); have n7_ := Aside0.mk (hbox); have n8_ := Aside0.mk ((by rw [hg]; exact (keep_size (w := w) (g := g) (row := none) (B.kk HK)) : w.heap.size ≤ gb311)); have n9_ := Aside0.mk ((Nat.le_trans HW0.out (by rw [hg]; exact (keep_size (w := w) (g := g) (row := none) (B.kk HK)) : w.heap.size ≤ gb311) : w0.heap.size ≤ gb311)); have n10_ := Aside0.mk (B.nlt hg (blk_lt (B.kb BK294))); have n11_ := Aside0.mk (B.ngt hg (blk_lt (B.kb BK294))); have n12_ := Aside0.mk ((by rw [hg]; exact Nat.ne_of_lt (IsS67.lt (show IsS67 w0 _ g s0_0 t304 from B.st HI0)) : g ≠ gb311)); have n13_ := Aside0.mk ((by rw [hg]; exact Nat.ne_of_gt (IsS67.lt (show IsS67 w0 _ g s0_0 t304 from B.st HI0)) : gb311 ≠ g)); clear HO297 HO302 HO310 HI0 BK294 HK HB; have HO297 := n0_; have HO302 := n1_; have HO310 := n2_; have HI0 := n3_; have BK294 := n4_; have HK := n5_; have HB := n6_; have BK311 := n7_; have GW311 := n8_; have GE311 := n9_; have NB294_311 := n10_; have NB311_294 := n11_; have NB0_311 := n12_; have NB311_0 := n13_; clear n0_ n1_ n2_ n3_ n4_ n5_ n6_ n7_ n8_ n9_ n10_ n11_ n12_ n13_; clear hb hbox hg; have hnb19 := NB311_294.out; have hnc19 := NB294_311.out; have hnb20 := NB311_0.out; have hnc20 := NB0_311.out; have hcz21_0 : w18.cell? ⟨gb311, 0, none⟩ = some (.int .i64 0) := B.bc BK311 0; have hcz21_1 : w18.cell? ⟨gb311, 1, none⟩ = some (.int .i64 0) := B.bc BK311 1; have hcz21_2 : w18.cell? ⟨gb311, 2, none⟩ = some (.int .i64 0) := B.bc BK311 2; have hcz21_3 : w18.cell? ⟨gb311, 3, none⟩ = some (.slice none 0 0) := B.bc BK311 3; have hfz21_0 := blk_frozen BK311.out 0; have hfz21_1 := blk_frozen BK311.out 1; have hfz21_2 := blk_frozen BK311.out 2; have hfz21_3 := blk_frozen BK311.out 3; obtain ⟨Ao22, co22, eo22⟩ := Kd.R_slice HO310.out; subst eo22) | ((with_reducible refine gate_callee (f := 54) rfl ?_); refine goesL_ (some 18) rfl rfl Try.func54 (by kernel_rfl) rfl #[.pointer (some ⟨g, 0, none⟩), .int .i64 4] rfl B.am ?_; (with_reducible refine (spec_reader_pick.calls k g s0_0 t304 4 t312 t313 w0 _ ?side1 ?side2 A6.out).mono ?_); (case side1 => exact B.st HI0); (case side2 => exact B.bs HB); rintro e w23 ⟨rfl, hi, hb, hk⟩; refine ⟨_, rfl, ?_⟩; have n0_ := Aside0.mk (KeepBut.blk hk (g' := gb294) (o := .cells #[.int .i64 0, .int .i64 0, .int .i64 0, .slice none 0 0] 27 (0, 0)) (B.kb0 (B.bf4 BK294 NB294_311)) NB294_0.out (by simp)); have n1_ := Aside0.mk (Kd.R_mono (Kd.R_keep (IsS67.apart (show IsS67 w0 _ g s0_0 t304 from B.st HI0) (B.kr0 (B.rs4 HO297 BK311)) (by decide)) hk (fun _ h => h.2)) (fun _ h => h.1)); have n2_ := Aside0.mk (Kd.R_mono (Kd.R_keep (IsS67.apart (show IsS67 w0 _ g s0_0 t304 from B.st HI0) (B.kr0 (B.rs4 HO302 BK311)) (by decide)) hk (fun _ h => h.2)) (fun _ h => h.1)); have n3_ := Aside0.mk (Kd.R_mono (Kd.R_keep (IsS67.apart (show IsS67 w0 _ g s0_0 t304 from B.st HI0) (B.kr0 (B.rs4 HO310 BK311)) (by decide)) hk (fun _ h => h.2)) (fun _ h => h.1)); have n4_ := Aside0.mk (KeepBut.blk hk (g' := gb311) (o := .cells #[.int .i64 t305, .int .i64 t306, .int .i64 t307, .slice Ao22 t308.length co22] 27 (0, 0)) (B.kb0 (B.bp4 BK311)) NB311_0.out (by simp)); have n5_ := Aside0.mk (KeepBut.trans (B.kk HK) hk (.inl rfl)); have n6_ := Aside0.mk (hb); have n7_ := Aside0.mk (hi); clear BK294 HO297 HO302 HO310 BK311 HK HB HI0; have BK294 := n0_; have HO297 := n1_; have HO302 := n2_; have HO310 := n3_; have BK311 := n4_; have HK := n5_; have HB := n6_; have HI0 := n7_; clear n0_ n1_ n2_ n3_ n4_ n5_ n6_ n7_; (try clear hb); (try clear hb2); (try clear hk); (try clear hi)) | ((with_reducible refine gate_callee (f := 54) rfl ?_); refine goesL_ (some 20) rfl rfl Try.func54 (by kernel_rfl) rfl #[.pointer (some ⟨g, 0, none⟩), .int .i64 256] rfl B.am ?_; (with_reducible refine (spec_reader_pick.calls k g s0_0 t313 256 t314 t315 w0 _ ?side1 ?side2 A7.out).mono ?_); (case side1 => exact B.st HI0); (case side2 => exact B.bs HB); rintro e w24 ⟨rfl, hi, hb, hk⟩; refine ⟨_, rfl, ?_⟩; have n0_ := Aside0.mk (KeepBut.blk hk (g' := gb294) (o := .cells #[.int .i64 0, .int .i64 0, .int .i64 0, .slice none 0 0] 27 (0, 0)) (B.kb BK294) NB294_0.out (by simp)); have n1_ := Aside0.mk (Kd.R_mono (Kd.R_keep (IsS67.apart (show IsS67 w0 _ g s0_0 t313 from B.st HI0) (B.kr HO297) (by decide)) hk (fun _ h => h.2)) (fun _ h => h.1)); have n2_ := Aside0.mk (Kd.R_mono (Kd.R_keep (IsS67.apart (show IsS67 w0 _ g s0_0 t313 from B.st HI0) (B.kr HO302) (by decide)) hk (fun _ h => h.2)) (fun _ h => h.1)); have n3_ := Aside0.mk (Kd.R_mono (Kd.R_keep (IsS67.apart (show IsS67 w0 _ g s0_0 t313 from B.st HI0) (B.kr HO310) (by decide)) hk (fun _ h => h.2)) (fun _ h => h.1)); have n4_ := Aside0.mk (KeepBut.blk hk (g' := gb311) (o := .cells #[.int .i64 t305, .int .i64 t306, .int .i64 t307, .slice Ao22 t308.length co22] 27 (0, 0)) (B.kb BK311) NB311_0.out (by simp)); have n5_ := Aside0.mk (KeepBut.trans (B.kk HK) hk (.inl rfl)); have n6_ := Aside0.mk (hb); have n7_ := Aside0.mk (hi); clear BK294 HO297 HO302 HO310 BK311 HK HB HI0; have BK294 := n0_; have HO297 := n1_; have HO302 := n2_; have HO310 := n3_; have BK311 := n4_; have HK := n5_; have HB := n6_; have HI0 := n7_; clear n0_ n1_ n2_ n3_ n4_ n5_ n6_ n7_; (try clear hb); (try clear hb2); (try clear hk); (try clear hi)))
  go_loopg [7, 8] k (fun kq v7 v8 w' => ∃ (x7_1 : Int) (x8_1 : Int) (x1001_1 : Int) (x312003_1 : List Int) (u312003 : Value), v7 = .int .i64 x7_1 ∧ v8 = .int .i64 x8_1 ∧ Aside0 (spec_randomImage.l0 kq t312 x7_1 x8_1 s0_0 x1001_1 t305 t306 t307 x312003_1 = some (r1, r2, r3, r4, r5)) ∧ Aside0 (kq ≤ k) ∧ Aside0 (Kd.R (Kd.int .i64) 3 w' w.heap.size (fun _ => True) u312003 x312003_1) ∧ Aside0 (w'.heap[gb294]? = some (.cells #[.int .i64 0, .int .i64 0, .int .i64 0, (.slice none 0 0)] 27 (0, 0))) ∧ Aside0 (w'.heap[gb311]? = some (.cells #[.int .i64 t305, .int .i64 t306, .int .i64 t307, u312003] 27 (0, 0))) ∧ Aside0 (IsS67 w0 w' g s0_0 x1001_1) ∧ Aside0 (KeepBut w w' g none) ∧ Aside0 (Below w0.heap.size w0 w'))
  case atStart => exact ⟨(t314), (0), (t315), (t308), (.slice Ao22 t308.length co22), (by first | rfl | (simp; done) | (simp [*]; done)), (by first | rfl | (simp; done) | (simp [*]; done)), H', ⟨Nat.le_refl _⟩, ⟨B.kr0 (Kd.R_mono HO310.out (fun _ hk => trivial))⟩, ⟨B.kb BK294⟩, ⟨B.kb BK311⟩, ⟨B.st HI0⟩, ⟨B.kk HK⟩, ⟨B.bs HB⟩⟩
  case round =>
    clear H'
    try clear c1
    try clear c2
    try clear p2
    try clear c4
    try clear c5
    try clear c6
    try clear c19
    try clear c20
    try clear hcz21_0
    try clear hcz21_1
    try clear hcz21_2
    try clear hcz21_3
    try clear hfz21_0
    try clear hfz21_1
    try clear hfz21_2
    try clear hfz21_3
    obtain ⟨x7_1, x8_1, x1001_1, x312003_1, u312003, rfl, rfl, HA, HK1, HO_312003, BK294, BK311, HI0, HK, HB⟩ := hrel
    cases gk with
    | zero => exact absurd HA.out (by simp [spec_randomImage.l0])
    | succ k1 =>
      have H := HA.out
      clear HA
      simp only [spec_randomImage.l0] at H
      by_cases c25 : x8_1 < (x312003_1.length : Int)
      · rw [if_pos c25] at H
        have c25b0 : decide (x8_1 < (x312003_1.length : Int)) = true := decide_eq_true c25
        clear c25
        by_cases c26 : t312 = 0
        · rw [if_pos c26] at H
          have c26b0 : (t312 == 0) = true := beq_iff_eq.mpr c26
          have c26b1 : (t312 != 0) = false := bne_eq_false_iff_eq.mpr c26
          clear c26
          replace H := Option.bind_eq_some_iff.mp H
          obtain ⟨⟨t316, t317⟩, A270, H⟩ := H
          replace H : (if 0 ≤ x8_1 then (spec_randomImage.l0 k1 t312 t316 (wrap64 (x8_1 + 1)) s0_0 t317 t305 t306 t307 (x312003_1.set (x8_1 : Int).toNat t316)) else (none)) = some (r1, r2, r3, r4, r5) := H
          have A27 := Aside0.mk A270
          clear A270
          by_cases c28 : 0 ≤ x8_1
          · rw [if_pos c28] at H
            have c28b0 : decide (0 ≤ x8_1) = true := decide_eq_true c28
            clear c28
            obtain ⟨y318, hy318⟩ : ∃ y_ : List Int, y_ = (x312003_1.set (x8_1 : Int).toNat t316) := ⟨_, rfl⟩
            replace H : (spec_randomImage.l0 k1 t312 t316 (wrap64 (x8_1 + 1)) s0_0 t317 t305 t306 t307 y318) = some (r1, r2, r3, r4, r5) := by first | (rw [hy318]; with_reducible exact H) | (have H2_ := (Option.bind_some _ _).symm.trans H; rw [hy318]; with_reducible exact H2_) | (have H2_ := (Option.bind_some _ _).symm.trans H; with_reducible exact H2_) | with_reducible exact H | (rw [hy318]; exact H) | exact H
            have Ny318 := Aside0.mk hy318
            clear hy318
            have H' := Aside0.mk H
            clear H
            have hnb30 := NB311_294.out
            have hnc30 := NB294_311.out
            have hnb31 := NB311_0.out
            have hnc31 := NB0_311.out
            have hcz32_0 : wr.cell? ⟨gb311, 0, none⟩ = some (.int .i64 t305) := B.bc BK311 0
            have hcz32_1 : wr.cell? ⟨gb311, 1, none⟩ = some (.int .i64 t306) := B.bc BK311 1
            have hcz32_2 : wr.cell? ⟨gb311, 2, none⟩ = some (.int .i64 t307) := B.bc BK311 2
            have hcz32_3 : wr.cell? ⟨gb311, 3, none⟩ = some (u312003) := B.bc BK311 3
            have hfz32_0 := blk_frozen BK311.out 0
            have hfz32_1 := blk_frozen BK311.out 1
            have hfz32_2 := blk_frozen BK311.out 2
            have hfz32_3 := blk_frozen BK311.out 3
            obtain ⟨Ao33, co33, eo33⟩ := Kd.R_slice HO_312003.out
            subst eo33
            go_wp2_with (first | ((with_reducible refine gate_callee (f := 54) rfl ?_); refine goesL_ (some 32) rfl rfl Try.func54 (by kernel_rfl) rfl #[.pointer (some ⟨g, 0, none⟩), .int .i64 256] rfl B.am ?_; (with_reducible refine (spec_reader_pick.calls k1 g s0_0 x1001_1 256 t316 t317 w0 _ ?side1 ?side2 A27.out).mono ?_); (case side1 => exact B.st HI0); (case side2 => exact B.bs HB); rintro e w34 ⟨rfl, hi, hb, hk⟩; refine ⟨_, rfl, ?_⟩; have n0_ := Aside0.mk (Kd.R_mono (Kd.R_keep (IsS67.apart (show IsS67 w0 _ g s0_0 x1001_1 from B.st HI0) (B.kr HO_312003) (by decide)) hk (fun _ h => h.2)) (fun _ h => h.1)); have n1_ := Aside0.mk (KeepBut.blk hk (g' := gb294) (o := .cells #[.int .i64 0, .int .i64 0, .int .i64 0, .slice none 0 0] 27 (0, 0)) (B.kb BK294) NB294_0.out (by simp)); have n2_ := Aside0.mk (KeepBut.blk hk (g' := gb311) (o := .cells #[.int .i64 t305, .int .i64 t306, .int .i64 t307, .slice Ao33 x312003_1.length co33] 27 (0, 0)) (B.kb BK311) NB311_0.out (by simp)); have n3_ := Aside0.mk (KeepBut.trans (B.kk HK) hk (.inl rfl)); have n4_ := Aside0.mk (hb); have n5_ := Aside0.mk (hi); clear HO_312003 BK294 BK311 HK HB HI0; have HO_312003 := n0_; have BK294 := n1_; have BK311 := n2_; have HK := n3_; have HB := n4_; have HI0 := n5_; clear n0_ n1_ n2_ n3_ n4_ n5_; (try clear hb); (try clear hb2); (try clear hk); (try clear hi); have hcz35_0 : w34.cell? ⟨gb311, 0, none⟩ = some (.int .i64 t305) := B.bc BK311 0; have hcz35_1 : w34.cell? ⟨gb311, 1, none⟩ = some (.int .i64 t306) := B.bc BK311 1; have hcz35_2 : w34.cell? ⟨gb311, 2, none⟩ = some (.int .i64 t307) := B.bc BK311 2; have hcz35_3 : w34.cell? ⟨gb311, 3, none⟩ = some (.slice Ao33 x312003_1.length co33) := B.bc BK311 3; have hfz35_0 := blk_frozen BK311.out 0; have hfz35_1 := blk_frozen BK311.out 1; have hfz35_2 := blk_frozen BK311.out 2; have hfz35_3 := blk_frozen BK311.out 3; have p29 : 0 ≤ (x8_1 : Int) := of_decide_eq_true (by first | (with_reducible assumption) | assumption); have q29 : (x8_1 : Int) < ((x312003_1.length : Int) : Int) := of_decide_eq_true (by first | (with_reducible assumption) | assumption); obtain ⟨go29, co29, eo29, gb29, gl29, cl29, HG29⟩ := Kd.R_form HO_312003.out (by omega); (first | cases eo29 | (injection eo29 with ea_ en_ ec_; (first | subst ea_ | (injection ea_ with ea_; subst ea_)); subst ec_; clear en_)); have GB29 := Aside0.mk gb29; have GG29 := Aside0.mk HG29; clear gb29 gl29 HG29; obtain ⟨hx29_0, hf29_0⟩ := Kd.R_celln 0 HO_312003.out (x8_1 : Int) p29 q29; replace p29 := eq_true p29; replace q29 := eq_true q29; obtain ⟨hy36_, hz36_⟩ := Kd.R_celln 0 HO_312003.out (x8_1 : Int) (of_decide_eq_true (by first | (with_reducible assumption) | assumption)) (of_decide_eq_true (by first | (with_reducible assumption) | assumption)); have HP36 := Kd.R_putg HO_312003.out (x8_1 : Int) t316) | ((with_reducible refine gate_store (t := 3) (p := 50) rfl ?_); refine store_event (t := 3) (p := 50) (v := ?vo_w37) (w1 := (w34.setCell ⟨go29, (x8_1 : Int).toNat, none⟩ (.int .i64 t316))) ?hg ?ho ?hn ?hr ?_; (case ho => rfl); (case hg => rfl); (case hn => rfl); (case hr => first | (go_simp; done) | (go_simp; rfl)); intro w37 hw; have hg : w34.grownBy w37 (some go29) := (by rw [hw]; exact HP36.2); have hp_ : Kd.R (Kd.int .i64) 3 w37 w.heap.size (fun _ => True) (.slice (some ⟨go29, 0, none⟩) x312003_1.length co33) y318 := (by rw [hw, Ny318.out]; exact HP36.1); clear HP36; have n0_ := Aside0.mk (hp_); have n1_ := Aside0.mk (blk_grown (g := gb294) (o := .cells #[.int .i64 0, .int .i64 0, .int .i64 0, .slice none 0 0] 27 (0, 0)) (B.kb BK294) hg (Kd.R_ne HO_312003.out BK294.out (by decide))); have n2_ := Aside0.mk (blk_grown (g := gb311) (o := .cells #[.int .i64 t305, .int .i64 t306, .int .i64 t307, .slice (some ⟨go29, 0, none⟩) x312003_1.length co33] 27 (0, 0)) (B.kb BK311) hg (Kd.R_ne HO_312003.out BK311.out (by decide))); have n3_ := Aside0.mk (IsS67.grown (B.st HI0) hg (IsS67.own_ne HI0.out HO_312003.out (by decide))); have n4_ := Aside0.mk ((by rw [hw]; exact below_set (HB.out) (Nat.le_trans HL.out GB29.out) : Below w0.heap.size w0 w37)); have n5_ := Aside0.mk (KeepBut.trans (B.kk HK) (KeepBut.of_grown hg g) (Kd.R_base2 HO_312003.out)); clear HO_312003 BK294 BK311 HI0 HB HK; have HO_312003 := n0_; have BK294 := n1_; have BK311 := n2_; have HI0 := n3_; have HB := n4_; have HK := n5_; clear n0_ n1_ n2_ n3_ n4_ n5_; clear hg hw hp_))
            go_roundg k1
            case measure => have := HK1.out; omega
            case rel => exact ⟨(t316), (wrap64 (x8_1 + 1)), (t317), (y318), (.slice (some ⟨go29, 0, none⟩) x312003_1.length co33), (by first | rfl | (simp; done) | (simp [*]; done)), (by first | rfl | (simp; done) | (simp [*]; done)), H', ⟨by have := HK1.out; omega⟩, ⟨B.kr HO_312003⟩, ⟨B.kb BK294⟩, ⟨B.kb BK311⟩, ⟨B.st HI0⟩, ⟨B.kk HK⟩, ⟨B.bs HB⟩⟩
          rw [if_neg c28] at H
          exact absurd H (by simp)
        rw [if_neg c26] at H
        have c26b0 : (t312 == 0) = false := beq_eq_false_iff_ne.mpr c26
        have c26b1 : (t312 != 0) = true := bne_iff_ne.mpr c26
        by_cases c38 : t312 = 1
        · rw [if_pos c38] at H
          have c38b0 : (t312 == 1) = true := beq_iff_eq.mpr c38
          have c38b1 : (t312 != 1) = false := bne_eq_false_iff_eq.mpr c38
          clear c38
          replace H := Option.bind_eq_some_iff.mp H
          obtain ⟨⟨t319, t320⟩, A390, H⟩ := H
          replace H : (if 0 ≤ x8_1 then (spec_randomImage.l0 k1 t312 (Int.tmod (wrap64 ((wrap64 (x7_1 + t319)) + 254)) 256) (wrap64 (x8_1 + 1)) s0_0 t320 t305 t306 t307 (x312003_1.set (x8_1 : Int).toNat (Int.tmod (wrap64 ((wrap64 (x7_1 + t319)) + 254)) 256))) else (none)) = some (r1, r2, r3, r4, r5) := H
          have A39 := Aside0.mk A390
          clear A390
          by_cases c40 : 0 ≤ x8_1
          · rw [if_pos c40] at H
            have c40b0 : decide (0 ≤ x8_1) = true := decide_eq_true c40
            clear c40
            obtain ⟨y321, hy321⟩ : ∃ y_ : List Int, y_ = (x312003_1.set (x8_1 : Int).toNat (Int.tmod (wrap64 ((wrap64 (x7_1 + t319)) + 254)) 256)) := ⟨_, rfl⟩
            replace H : (spec_randomImage.l0 k1 t312 (Int.tmod (wrap64 ((wrap64 (x7_1 + t319)) + 254)) 256) (wrap64 (x8_1 + 1)) s0_0 t320 t305 t306 t307 y321) = some (r1, r2, r3, r4, r5) := by first | (rw [hy321]; with_reducible exact H) | (have H2_ := (Option.bind_some _ _).symm.trans H; rw [hy321]; with_reducible exact H2_) | (have H2_ := (Option.bind_some _ _).symm.trans H; with_reducible exact H2_) | with_reducible exact H | (rw [hy321]; exact H) | exact H
            have Ny321 := Aside0.mk hy321
            clear hy321
            have H' := Aside0.mk H
            clear H
            have hnb42 := NB311_294.out
            have hnc42 := NB294_311.out
            have hnb43 := NB311_0.out
            have hnc43 := NB0_311.out
            have hcz44_0 : wr.cell? ⟨gb311, 0, none⟩ = some (.int .i64 t305) := B.bc BK311 0
            have hcz44_1 : wr.cell? ⟨gb311, 1, none⟩ = some (.int .i64 t306) := B.bc BK311 1
            have hcz44_2 : wr.cell? ⟨gb311, 2, none⟩ = some (.int .i64 t307) := B.bc BK311 2
            have hcz44_3 : wr.cell? ⟨gb311, 3, none⟩ = some (u312003) := B.bc BK311 3
            have hfz44_0 := blk_frozen BK311.out 0
            have hfz44_1 := blk_frozen BK311.out 1
            have hfz44_2 := blk_frozen BK311.out 2
            have hfz44_3 := blk_frozen BK311.out 3
            obtain ⟨Ao45, co45, eo45⟩ := Kd.R_slice HO_312003.out
            subst eo45
            go_wp2_with (first | ((with_reducible refine gate_callee (f := 54) rfl ?_); refine goesL_ (some 37) rfl rfl Try.func54 (by kernel_rfl) rfl #[.pointer (some ⟨g, 0, none⟩), .int .i64 5] rfl B.am ?_; (with_reducible refine (spec_reader_pick.calls k1 g s0_0 x1001_1 5 t319 t320 w0 _ ?side1 ?side2 A39.out).mono ?_); (case side1 => exact B.st HI0); (case side2 => exact B.bs HB); rintro e w46 ⟨rfl, hi, hb, hk⟩; refine ⟨_, rfl, ?_⟩; have n0_ := Aside0.mk (Kd.R_mono (Kd.R_keep (IsS67.apart (show IsS67 w0 _ g s0_0 x1001_1 from B.st HI0) (B.kr HO_312003) (by decide)) hk (fun _ h => h.2)) (fun _ h => h.1)); have n1_ := Aside0.mk (KeepBut.blk hk (g' := gb294) (o := .cells #[.int .i64 0, .int .i64 0, .int .i64 0, .slice none 0 0] 27 (0, 0)) (B.kb BK294) NB294_0.out (by simp)); have n2_ := Aside0.mk (KeepBut.blk hk (g' := gb311) (o := .cells #[.int .i64 t305, .int .i64 t306, .int .i64 t307, .slice Ao45 x312003_1.length co45] 27 (0, 0)) (B.kb BK311) NB311_0.out (by simp)); have n3_ := Aside0.mk (KeepBut.trans (B.kk HK) hk (.inl rfl)); have n4_ := Aside0.mk (hb); have n5_ := Aside0.mk (hi); clear HO_312003 BK294 BK311 HK HB HI0; have HO_312003 := n0_; have BK294 := n1_; have BK311 := n2_; have HK := n3_; have HB := n4_; have HI0 := n5_; clear n0_ n1_ n2_ n3_ n4_ n5_; (try clear hb); (try clear hb2); (try clear hk); (try clear hi); have hcz47_0 : w46.cell? ⟨gb311, 0, none⟩ = some (.int .i64 t305) := B.bc BK311 0; have hcz47_1 : w46.cell? ⟨gb311, 1, none⟩ = some (.int .i64 t306) := B.bc BK311 1; have hcz47_2 : w46.cell? ⟨gb311, 2, none⟩ = some (.int .i64 t307) := B.bc BK311 2; have hcz47_3 : w46.cell? ⟨gb311, 3, none⟩ = some (.slice Ao45 x312003_1.length co45) := B.bc BK311 3; have hfz47_0 := blk_frozen BK311.out 0; have hfz47_1 := blk_frozen BK311.out 1; have hfz47_2 := blk_frozen BK311.out 2; have hfz47_3 := blk_frozen BK311.out 3; have p41 : 0 ≤ (x8_1 : Int) := of_decide_eq_true (by first | (with_reducible assumption) | assumption); have q41 : (x8_1 : Int) < ((x312003_1.length : Int) : Int) := of_decide_eq_true (by first | (with_reducible assumption) | assumption); obtain ⟨go41, co41, eo41, gb41, gl41, cl41, HG41⟩ := Kd.R_form HO_312003.out (by omega); (first | cases eo41 | (injection eo41 with ea_ en_ ec_; (first | subst ea_ | (injection ea_ with ea_; subst ea_)); subst ec_; clear en_)); have GB41 := Aside0.mk gb41; have GG41 := Aside0.mk HG41; clear gb41 gl41 HG41; obtain ⟨hx41_0, hf41_0⟩ := Kd.R_celln 0 HO_312003.out (x8_1 : Int) p41 q41; replace p41 := eq_true p41; replace q41 := eq_true q41; obtain ⟨hy48_, hz48_⟩ := Kd.R_celln 0 HO_312003.out (x8_1 : Int) (of_decide_eq_true (by first | (with_reducible assumption) | assumption)) (of_decide_eq_true (by first | (with_reducible assumption) | assumption)); have HP48 := Kd.R_putg HO_312003.out (x8_1 : Int) (Int.tmod (wrap64 ((wrap64 (x7_1 + t319)) + 254)) 256)) | ((with_reducible refine gate_store (t := 3) (p := 50) rfl ?_); refine store_event (t := 3) (p := 50) (v := ?vo_w49) (w1 := (w46.setCell ⟨go41, (x8_1 : Int).toNat, none⟩ (.int .i64 (Int.tmod (wrap64 ((wrap64 (x7_1 + t319)) + 254)) 256)))) ?hg ?ho ?hn ?hr ?_; (case ho => rfl); (case hg => rfl); (case hn => rfl); (case hr => first | (go_simp; done) | (go_simp; rfl)); intro w49 hw; have hg : w46.grownBy w49 (some go41) := (by rw [hw]; exact HP48.2); have hp_ : Kd.R (Kd.int .i64) 3 w49 w.heap.size (fun _ => True) (.slice (some ⟨go41, 0, none⟩) x312003_1.length co45) y321 := (by rw [hw, Ny321.out]; exact HP48.1); clear HP48; have n0_ := Aside0.mk (hp_); have n1_ := Aside0.mk (blk_grown (g := gb294) (o := .cells #[.int .i64 0, .int .i64 0, .int .i64 0, .slice none 0 0] 27 (0, 0)) (B.kb BK294) hg (Kd.R_ne HO_312003.out BK294.out (by decide))); have n2_ := Aside0.mk (blk_grown (g := gb311) (o := .cells #[.int .i64 t305, .int .i64 t306, .int .i64 t307, .slice (some ⟨go41, 0, none⟩) x312003_1.length co45] 27 (0, 0)) (B.kb BK311) hg (Kd.R_ne HO_312003.out BK311.out (by decide))); have n3_ := Aside0.mk (IsS67.grown (B.st HI0) hg (IsS67.own_ne HI0.out HO_312003.out (by decide))); have n4_ := Aside0.mk ((by rw [hw]; exact below_set (HB.out) (Nat.le_trans HL.out GB41.out) : Below w0.heap.size w0 w49)); have n5_ := Aside0.mk (KeepBut.trans (B.kk HK) (KeepBut.of_grown hg g) (Kd.R_base2 HO_312003.out)); clear HO_312003 BK294 BK311 HI0 HB HK; have HO_312003 := n0_; have BK294 := n1_; have BK311 := n2_; have HI0 := n3_; have HB := n4_; have HK := n5_; clear n0_ n1_ n2_ n3_ n4_ n5_; clear hg hw hp_))
            go_roundg k1
            case measure => have := HK1.out; omega
            case rel => exact ⟨(Int.tmod (wrap64 ((wrap64 (x7_1 + t319)) + 254)) 256), (wrap64 (x8_1 + 1)), (t320), (y321), (.slice (some ⟨go41, 0, none⟩) x312003_1.length co45), (by first | rfl | (simp; done) | (simp [*]; done)), (by first | rfl | (simp; done) | (simp [*]; done)), H', ⟨by have := HK1.out; omega⟩, ⟨B.kr HO_312003⟩, ⟨B.kb BK294⟩, ⟨B.kb BK311⟩, ⟨B.st HI0⟩, ⟨B.kk HK⟩, ⟨B.bs HB⟩⟩
          rw [if_neg c40] at H
          exact absurd H (by simp)
        rw [if_neg c38] at H
        have c38b0 : (t312 == 1) = false := beq_eq_false_iff_ne.mpr c38
        have c38b1 : (t312 != 1) = true := bne_iff_ne.mpr c38
        by_cases c50 : t312 = 2
        · rw [if_pos c50] at H
          have c50b0 : (t312 == 2) = true := beq_iff_eq.mpr c50
          have c50b1 : (t312 != 2) = false := bne_eq_false_iff_eq.mpr c50
          clear c50
          replace H := Option.bind_eq_some_iff.mp H
          obtain ⟨⟨t322, t323⟩, A510, H⟩ := H
          replace H : (if 0 ≤ x8_1 then (spec_randomImage.l0 k1 t312 (wrap64 (60 * t322)) (wrap64 (x8_1 + 1)) s0_0 t323 t305 t306 t307 (x312003_1.set (x8_1 : Int).toNat (wrap64 (60 * t322)))) else (none)) = some (r1, r2, r3, r4, r5) := H
          have A51 := Aside0.mk A510
          clear A510
          by_cases c52 : 0 ≤ x8_1
          · rw [if_pos c52] at H
            have c52b0 : decide (0 ≤ x8_1) = true := decide_eq_true c52
            clear c52
            obtain ⟨y324, hy324⟩ : ∃ y_ : List Int, y_ = (x312003_1.set (x8_1 : Int).toNat (wrap64 (60 * t322))) := ⟨_, rfl⟩
            replace H : (spec_randomImage.l0 k1 t312 (wrap64 (60 * t322)) (wrap64 (x8_1 + 1)) s0_0 t323 t305 t306 t307 y324) = some (r1, r2, r3, r4, r5) := by first | (rw [hy324]; with_reducible exact H) | (have H2_ := (Option.bind_some _ _).symm.trans H; rw [hy324]; with_reducible exact H2_) | (have H2_ := (Option.bind_some _ _).symm.trans H; with_reducible exact H2_) | with_reducible exact H | (rw [hy324]; exact H) | exact H
            have Ny324 := Aside0.mk hy324
            clear hy324
            have H' := Aside0.mk H
            clear H
            have hnb54 := NB311_294.out
            have hnc54 := NB294_311.out
            have hnb55 := NB311_0.out
            have hnc55 := NB0_311.out
            have hcz56_0 : wr.cell? ⟨gb311, 0, none⟩ = some (.int .i64 t305) := B.bc BK311 0
            have hcz56_1 : wr.cell? ⟨gb311, 1, none⟩ = some (.int .i64 t306) := B.bc BK311 1
            have hcz56_2 : wr.cell? ⟨gb311, 2, none⟩ = some (.int .i64 t307) := B.bc BK311 2
            have hcz56_3 : wr.cell? ⟨gb311, 3, none⟩ = some (u312003) := B.bc BK311 3
            have hfz56_0 := blk_frozen BK311.out 0
            have hfz56_1 := blk_frozen BK311.out 1
            have hfz56_2 := blk_frozen BK311.out 2
            have hfz56_3 := blk_frozen BK311.out 3
            obtain ⟨Ao57, co57, eo57⟩ := Kd.R_slice HO_312003.out
            subst eo57
            go_wp2_with (first | ((with_reducible refine gate_callee (f := 54) rfl ?_); refine goesL_ (some 44) rfl rfl Try.func54 (by kernel_rfl) rfl #[.pointer (some ⟨g, 0, none⟩), .int .i64 4] rfl B.am ?_; (with_reducible refine (spec_reader_pick.calls k1 g s0_0 x1001_1 4 t322 t323 w0 _ ?side1 ?side2 A51.out).mono ?_); (case side1 => exact B.st HI0); (case side2 => exact B.bs HB); rintro e w58 ⟨rfl, hi, hb, hk⟩; refine ⟨_, rfl, ?_⟩; have n0_ := Aside0.mk (Kd.R_mono (Kd.R_keep (IsS67.apart (show IsS67 w0 _ g s0_0 x1001_1 from B.st HI0) (B.kr HO_312003) (by decide)) hk (fun _ h => h.2)) (fun _ h => h.1)); have n1_ := Aside0.mk (KeepBut.blk hk (g' := gb294) (o := .cells #[.int .i64 0, .int .i64 0, .int .i64 0, .slice none 0 0] 27 (0, 0)) (B.kb BK294) NB294_0.out (by simp)); have n2_ := Aside0.mk (KeepBut.blk hk (g' := gb311) (o := .cells #[.int .i64 t305, .int .i64 t306, .int .i64 t307, .slice Ao57 x312003_1.length co57] 27 (0, 0)) (B.kb BK311) NB311_0.out (by simp)); have n3_ := Aside0.mk (KeepBut.trans (B.kk HK) hk (.inl rfl)); have n4_ := Aside0.mk (hb); have n5_ := Aside0.mk (hi); clear HO_312003 BK294 BK311 HK HB HI0; have HO_312003 := n0_; have BK294 := n1_; have BK311 := n2_; have HK := n3_; have HB := n4_; have HI0 := n5_; clear n0_ n1_ n2_ n3_ n4_ n5_; (try clear hb); (try clear hb2); (try clear hk); (try clear hi); have hcz59_0 : w58.cell? ⟨gb311, 0, none⟩ = some (.int .i64 t305) := B.bc BK311 0; have hcz59_1 : w58.cell? ⟨gb311, 1, none⟩ = some (.int .i64 t306) := B.bc BK311 1; have hcz59_2 : w58.cell? ⟨gb311, 2, none⟩ = some (.int .i64 t307) := B.bc BK311 2; have hcz59_3 : w58.cell? ⟨gb311, 3, none⟩ = some (.slice Ao57 x312003_1.length co57) := B.bc BK311 3; have hfz59_0 := blk_frozen BK311.out 0; have hfz59_1 := blk_frozen BK311.out 1; have hfz59_2 := blk_frozen BK311.out 2; have hfz59_3 := blk_frozen BK311.out 3; have p53 : 0 ≤ (x8_1 : Int) := of_decide_eq_true (by first | (with_reducible assumption) | assumption); have q53 : (x8_1 : Int) < ((x312003_1.length : Int) : Int) := of_decide_eq_true (by first | (with_reducible assumption) | assumption); obtain ⟨go53, co53, eo53, gb53, gl53, cl53, HG53⟩ := Kd.R_form HO_312003.out (by omega); (first | cases eo53 | (injection eo53 with ea_ en_ ec_; (first | subst ea_ | (injection ea_ with ea_; subst ea_)); subst ec_; clear en_)); have GB53 := Aside0.mk gb53; have GG53 := Aside0.mk HG53; clear gb53 gl53 HG53; obtain ⟨hx53_0, hf53_0⟩ := Kd.R_celln 0 HO_312003.out (x8_1 : Int) p53 q53; replace p53 := eq_true p53; replace q53 := eq_true q53; obtain ⟨hy60_, hz60_⟩ := Kd.R_celln 0 HO_312003.out (x8_1 : Int) (of_decide_eq_true (by first | (with_reducible assumption) | assumption)) (of_decide_eq_true (by first | (with_reducible assumption) | assumption)); have HP60 := Kd.R_putg HO_312003.out (x8_1 : Int) (wrap64 (60 * t322))) | ((with_reducible refine gate_store (t := 3) (p := 50) rfl ?_); refine store_event (t := 3) (p := 50) (v := ?vo_w61) (w1 := (w58.setCell ⟨go53, (x8_1 : Int).toNat, none⟩ (.int .i64 (wrap64 (60 * t322))))) ?hg ?ho ?hn ?hr ?_; (case ho => rfl); (case hg => rfl); (case hn => rfl); (case hr => first | (go_simp; done) | (go_simp; rfl)); intro w61 hw; have hg : w58.grownBy w61 (some go53) := (by rw [hw]; exact HP60.2); have hp_ : Kd.R (Kd.int .i64) 3 w61 w.heap.size (fun _ => True) (.slice (some ⟨go53, 0, none⟩) x312003_1.length co57) y324 := (by rw [hw, Ny324.out]; exact HP60.1); clear HP60; have n0_ := Aside0.mk (hp_); have n1_ := Aside0.mk (blk_grown (g := gb294) (o := .cells #[.int .i64 0, .int .i64 0, .int .i64 0, .slice none 0 0] 27 (0, 0)) (B.kb BK294) hg (Kd.R_ne HO_312003.out BK294.out (by decide))); have n2_ := Aside0.mk (blk_grown (g := gb311) (o := .cells #[.int .i64 t305, .int .i64 t306, .int .i64 t307, .slice (some ⟨go53, 0, none⟩) x312003_1.length co57] 27 (0, 0)) (B.kb BK311) hg (Kd.R_ne HO_312003.out BK311.out (by decide))); have n3_ := Aside0.mk (IsS67.grown (B.st HI0) hg (IsS67.own_ne HI0.out HO_312003.out (by decide))); have n4_ := Aside0.mk ((by rw [hw]; exact below_set (HB.out) (Nat.le_trans HL.out GB53.out) : Below w0.heap.size w0 w61)); have n5_ := Aside0.mk (KeepBut.trans (B.kk HK) (KeepBut.of_grown hg g) (Kd.R_base2 HO_312003.out)); clear HO_312003 BK294 BK311 HI0 HB HK; have HO_312003 := n0_; have BK294 := n1_; have BK311 := n2_; have HI0 := n3_; have HB := n4_; have HK := n5_; clear n0_ n1_ n2_ n3_ n4_ n5_; clear hg hw hp_))
            go_roundg k1
            case measure => have := HK1.out; omega
            case rel => exact ⟨(wrap64 (60 * t322)), (wrap64 (x8_1 + 1)), (t323), (y324), (.slice (some ⟨go53, 0, none⟩) x312003_1.length co57), (by first | rfl | (simp; done) | (simp [*]; done)), (by first | rfl | (simp; done) | (simp [*]; done)), H', ⟨by have := HK1.out; omega⟩, ⟨B.kr HO_312003⟩, ⟨B.kb BK294⟩, ⟨B.kb BK311⟩, ⟨B.st HI0⟩, ⟨B.kk HK⟩, ⟨B.bs HB⟩⟩
          rw [if_neg c52] at H
          exact absurd H (by simp)
        rw [if_neg c50] at H
        have c50b0 : (t312 == 2) = false := beq_eq_false_iff_ne.mpr c50
        have c50b1 : (t312 != 2) = true := bne_iff_ne.mpr c50
        by_cases c62 : 0 ≤ x8_1
        · rw [if_pos c62] at H
          have c62b0 : decide (0 ≤ x8_1) = true := decide_eq_true c62
          clear c62
          obtain ⟨y325, hy325⟩ : ∃ y_ : List Int, y_ = (x312003_1.set (x8_1 : Int).toNat x7_1) := ⟨_, rfl⟩
          replace H : (spec_randomImage.l0 k1 t312 x7_1 (wrap64 (x8_1 + 1)) s0_0 x1001_1 t305 t306 t307 y325) = some (r1, r2, r3, r4, r5) := by first | (rw [hy325]; with_reducible exact H) | (have H2_ := (Option.bind_some _ _).symm.trans H; rw [hy325]; with_reducible exact H2_) | (have H2_ := (Option.bind_some _ _).symm.trans H; with_reducible exact H2_) | with_reducible exact H | (rw [hy325]; exact H) | exact H
          have Ny325 := Aside0.mk hy325
          clear hy325
          have H' := Aside0.mk H
          clear H
          have hnb64 := NB311_294.out
          have hnc64 := NB294_311.out
          have hnb65 := NB311_0.out
          have hnc65 := NB0_311.out
          have hcz66_0 : wr.cell? ⟨gb311, 0, none⟩ = some (.int .i64 t305) := B.bc BK311 0
          have hcz66_1 : wr.cell? ⟨gb311, 1, none⟩ = some (.int .i64 t306) := B.bc BK311 1
          have hcz66_2 : wr.cell? ⟨gb311, 2, none⟩ = some (.int .i64 t307) := B.bc BK311 2
          have hcz66_3 : wr.cell? ⟨gb311, 3, none⟩ = some (u312003) := B.bc BK311 3
          have hfz66_0 := blk_frozen BK311.out 0
          have hfz66_1 := blk_frozen BK311.out 1
          have hfz66_2 := blk_frozen BK311.out 2
          have hfz66_3 := blk_frozen BK311.out 3
          obtain ⟨Ao67, co67, eo67⟩ := Kd.R_slice HO_312003.out
          subst eo67
          have p63 : 0 ≤ (x8_1 : Int) := of_decide_eq_true (by first | (with_reducible assumption) | assumption)
          have q63 : (x8_1 : Int) < ((x312003_1.length : Int) : Int) := of_decide_eq_true (by first | (with_reducible assumption) | assumption)
          obtain ⟨go63, co63, eo63, gb63, gl63, cl63, HG63⟩ := Kd.R_form HO_312003.out (by omega)
          (first | cases eo63 | (injection eo63 with ea_ en_ ec_; (first | subst ea_ | (injection ea_ with ea_; subst ea_)); subst ec_; clear en_))
          have GB63 := Aside0.mk gb63
          have GG63 := Aside0.mk HG63
          clear gb63 gl63 HG63
          obtain ⟨hx63_0, hf63_0⟩ := Kd.R_celln 0 HO_312003.out (x8_1 : Int) p63 q63
          replace p63 := eq_true p63
          replace q63 := eq_true q63
          have HP68 := Kd.R_putg HO_312003.out (x8_1 : Int) x7_1
          go_wp2_with (first | ((with_reducible refine gate_store (t := 3) (p := 50) rfl ?_); refine store_event (t := 3) (p := 50) (v := ?vo_w69) (w1 := (wr.setCell ⟨go63, (x8_1 : Int).toNat, none⟩ (.int .i64 x7_1))) ?hg ?ho ?hn ?hr ?_; (case ho => rfl); (case hg => rfl); (case hn => rfl); (case hr => first | (go_simp; done) | (go_simp; rfl)); intro w69 hw; have hg : wr.grownBy w69 (some go63) := (by rw [hw]; exact HP68.2); have hp_ : Kd.R (Kd.int .i64) 3 w69 w.heap.size (fun _ => True) (.slice (some ⟨go63, 0, none⟩) x312003_1.length co67) y325 := (by rw [hw, Ny325.out]; exact HP68.1); clear HP68; have n0_ := Aside0.mk (hp_); have n1_ := Aside0.mk (blk_grown (g := gb294) (o := .cells #[.int .i64 0, .int .i64 0, .int .i64 0, .slice none 0 0] 27 (0, 0)) (B.kb BK294) hg (Kd.R_ne HO_312003.out BK294.out (by decide))); have n2_ := Aside0.mk (blk_grown (g := gb311) (o := .cells #[.int .i64 t305, .int .i64 t306, .int .i64 t307, .slice (some ⟨go63, 0, none⟩) x312003_1.length co67] 27 (0, 0)) (B.kb BK311) hg (Kd.R_ne HO_312003.out BK311.out (by decide))); have n3_ := Aside0.mk (IsS67.grown (B.st HI0) hg (IsS67.own_ne HI0.out HO_312003.out (by decide))); have n4_ := Aside0.mk ((by rw [hw]; exact below_set (HB.out) (Nat.le_trans HL.out GB63.out) : Below w0.heap.size w0 w69)); have n5_ := Aside0.mk (KeepBut.trans (B.kk HK) (KeepBut.of_grown hg g) (Kd.R_base2 HO_312003.out)); clear HO_312003 BK294 BK311 HI0 HB HK; have HO_312003 := n0_; have BK294 := n1_; have BK311 := n2_; have HI0 := n3_; have HB := n4_; have HK := n5_; clear n0_ n1_ n2_ n3_ n4_ n5_; clear hg hw hp_))
          go_roundg k1
          case measure => have := HK1.out; omega
          case rel => exact ⟨(x7_1), (wrap64 (x8_1 + 1)), (x1001_1), (y325), (.slice (some ⟨go63, 0, none⟩) x312003_1.length co67), (by first | rfl | (simp; done) | (simp [*]; done)), (by first | rfl | (simp; done) | (simp [*]; done)), H', ⟨by have := HK1.out; omega⟩, ⟨B.kr HO_312003⟩, ⟨B.kb BK294⟩, ⟨B.kb BK311⟩, ⟨B.st HI0⟩, ⟨B.kk HK⟩, ⟨B.bs HB⟩⟩
        rw [if_neg c62] at H
        exact absurd H (by simp)
      rw [if_neg c25] at H
      have c25b0 : decide (x8_1 < (x312003_1.length : Int)) = false := decide_eq_false c25
      clear c25
      simp only [Option.some.injEq, Prod.mk.injEq] at H
      obtain ⟨rfl, rfl, rfl, rfl, rfl⟩ := H
      have hnb70 := NB311_294.out
      have hnc70 := NB294_311.out
      have hnb71 := NB311_0.out
      have hnc71 := NB0_311.out
      have hcz72_0 : wr.cell? ⟨gb311, 0, none⟩ = some (.int .i64 t305) := B.bc BK311 0
      have hcz72_1 : wr.cell? ⟨gb311, 1, none⟩ = some (.int .i64 t306) := B.bc BK311 1
      have hcz72_2 : wr.cell? ⟨gb311, 2, none⟩ = some (.int .i64 t307) := B.bc BK311 2
      have hcz72_3 : wr.cell? ⟨gb311, 3, none⟩ = some (u312003) := B.bc BK311 3
      have hfz72_0 := blk_frozen BK311.out 0
      have hfz72_1 := blk_frozen BK311.out 1
      have hfz72_2 := blk_frozen BK311.out 2
      have hfz72_3 := blk_frozen BK311.out 3
      obtain ⟨Ao73, co73, eo73⟩ := Kd.R_slice HO_312003.out
      subst eo73
      have hnb74 := NB294_0.out
      have hnc74 := NB0_294.out
      have hcz75_0 : wr.cell? ⟨gb294, 0, none⟩ = some (.int .i64 0) := B.bc BK294 0
      have hcz75_1 : wr.cell? ⟨gb294, 1, none⟩ = some (.int .i64 0) := B.bc BK294 1
      have hcz75_2 : wr.cell? ⟨gb294, 2, none⟩ = some (.int .i64 0) := B.bc BK294 2
      have hcz75_3 : wr.cell? ⟨gb294, 3, none⟩ = some (.slice none 0 0) := B.bc BK294 3
      have hfz75_0 := blk_frozen BK294.out 0
      have hfz75_1 := blk_frozen BK294.out 1
      have hfz75_2 := blk_frozen BK294.out 2
      have hfz75_3 := blk_frozen BK294.out 3
      go_wp2
      refine bodyPost_ret (results_cell_row rfl _ _ gb294 27 #[.int .i64 t305, .int .i64 t306, .int .i64 t307, .slice Ao73 x312003_1.length co73] (0, 0) _ rfl (B.kb0 (B.bp4 BK294)) Try.underlying27 rfl (by kernel_rfl)) rfl ?_
      exact ⟨_, by first | rfl | (simp [errW_none, errW_some] <;> rfl) | (simp [*, errW_none, errW_some] <;> rfl), by (with_reducible repeat (first | apply Kd.R_alloc | apply Kd.R_drewN | apply Kd.R_drew)); exact Kd.R_mono (B.rf4 HO_312003 BK294) (fun _ hk => trivial), B.st HI0, B.bs HB, B.kk HK⟩

/-! ### spec_anyPlanes: function 63 -/
def spec_anyPlanes.f (k : Nat) (s0_0 : List Int) (s0_1 : Int) : Option (Int × Int) := (spec_reader_one.f k s0_0 s0_1 (([1, 3, 1, 4, 2] : List Int))).bind fun bt329 => (some (bt329.1, bt329.2))
theorem spec_anyPlanes.mono : ∀ a0 a1 k, LeO (spec_anyPlanes.f k a0 a1) (spec_anyPlanes.f (k + 1) a0 a1) := by
  intro a0 a1 k
  unfold spec_anyPlanes.f
  repeat' first
      | (with_reducible exact spec_reader_one.mono _ _ _ _)
      | (with_reducible exact LeO.refl _)
      | (with_reducible exact LeO.none _)
      | (with_reducible refine LeO.ite ?_ ?_)
      | (with_reducible refine LeO.bind ?_ (fun _ => ?_))
      | exact spec_reader_one.mono _ _ _ _
      | exact LeO.none _
      | refine LeO.ite ?_ ?_
      | refine LeO.bind ?_ (fun _ => ?_)
set_option maxHeartbeats 8000000 in
set_option maxRecDepth 100000 in
theorem spec_anyPlanes.calls (k : Nat) (g : Nat) (s0_0 : List Int) (s0_1 : Int) (r1 : Int) (r2 : Int) (w0 w : World) (hI : IsS67 w0 w g s0_0 s0_1) (hB : Below w0.heap.size w0 w) (h : spec_anyPlanes.f k s0_0 s0_1 = some (r1, r2)) :
    Calls Try.prog 63 #[.pointer (some ⟨g, 0, none⟩)] w fun e w' => e = .returned (.int .i64 r1) ∧ IsS67 w0 w' g s0_0 r2 ∧ Below w0.heap.size w0 w' ∧ KeepBut w w' g none := by
  have HI0 := Aside0.mk hI
  have HK := Aside0.mk (KeepBut.refl w g none)
  have HL := Aside0.mk hB.size
  clear hI
  have HW0 := Aside0.mk hB.size
  have HB := Aside0.mk hB
  clear hB
  have H : ((spec_reader_one.f k s0_0 s0_1 (([1, 3, 1, 4, 2] : List Int))).bind fun bt329 => (some (bt329.1, bt329.2))) = some (r1, r2) := h
  clear h
  obtain ⟨y326, hy326⟩ : ∃ y_ : List Int, y_ = (([1, 3, 1, 4, 2] : List Int)) := ⟨_, rfl⟩
  replace H : ((spec_reader_one.f k s0_0 s0_1 y326).bind fun bt329 => (some (bt329.1, bt329.2))) = some (r1, r2) := by first | (rw [hy326]; with_reducible exact H) | (have H2_ := (Option.bind_some _ _).symm.trans H; rw [hy326]; with_reducible exact H2_) | (have H2_ := (Option.bind_some _ _).symm.trans H; with_reducible exact H2_) | with_reducible exact H | (rw [hy326]; exact H) | exact H
  have Ny326 := Aside0.mk hy326
  clear hy326
  replace H := Option.bind_eq_some_iff.mp H
  obtain ⟨⟨t329, t330⟩, A20, H⟩ := H
  replace H : (some (t329, t330)) = some (r1, r2) := H
  have A2 := Aside0.mk A20
  clear A20
  simp only [Option.some.injEq, Prod.mk.injEq] at H
  obtain ⟨rfl, rfl⟩ := H
  go_enter Try.func63, Try.ntmps63
  go_wp2_with (first | ((with_reducible refine gate_dst (N := 4) rfl ?_); refine Kd.R_lit (Kd.int .i64) _ 3 ?hg (N := 4) ?hd (xs := ([1, 3, 1, 4, 2] : List Int)) (inner := [.int .i64 1, .int .i64 3, .int .i64 1, .int .i64 4, .int .i64 2]) (ok := fun _ => True) (okp := fun _ => True) ?hr ?hp (fun _ hk => hk) trivial (Below.refl _ _) (Nat.le_refl _) (by simp) ?_; (case hd => rfl); (case hg => rfl); (case hr => first | (go_simp; done) | (go_simp; rfl)); (case hp => exact (Reps.one (show Kd.M (Kd.int .i64) _ _ _ 1 [.int .i64 1] from rfl) (Reps.one (show Kd.M (Kd.int .i64) _ _ _ 3 [.int .i64 3] from rfl) (Reps.one (show Kd.M (Kd.int .i64) _ _ _ 1 [.int .i64 1] from rfl) (Reps.one (show Kd.M (Kd.int .i64) _ _ _ 4 [.int .i64 4] from rfl) (Reps.one (show Kd.M (Kd.int .i64) _ _ _ 2 [.int .i64 2] from rfl) (Reps.none _ _))))))); intro v327 w3 ho4 hb hg_ hnew_; clear hg_ hnew_; (first | rw [← Ny326.out] at ho4 | (simp only [Int.reduceToNat] at ho4; rw [← Ny326.out] at ho4)); have n0_ := Aside0.mk (Kd.R_lower ho4 (keep_size (w := w) (g := g) (row := none) (B.kk HK))); have n1_ := Aside0.mk (IsS67.below (B.st HI0) hb); have n2_ := Aside0.mk (KeepBut.trans (B.kk HK) (KeepBut.of_below hb g none) (.inl rfl)); have n3_ := Aside0.mk (below_step (B.bs HB) hb); clear HI0 HK HB; have HO328 := n0_; have HI0 := n1_; have HK := n2_; have HB := n3_; clear n0_ n1_ n2_ n3_; clear hb ho4; obtain ⟨Ao5, co5, eo5⟩ := Kd.R_slice HO328.out; subst eo5) | ((with_reducible refine gate_callee (f := 64) rfl ?_); refine goesL_ (some 5) rfl rfl Try.func64 (by kernel_rfl) rfl #[.pointer (some ⟨g, 0, none⟩), .slice Ao5 y326.length co5] rfl B.am ?_; (with_reducible refine (spec_reader_one.calls k g s0_0 s0_1 _ _ y326 t329 t330 w0 _ ?side1 ?side2 ?side3 ?side4 ?side5 A2.out).mono ?_); (case side1 => exact B.st HI0); (case side2 => exact B.bs HB); (case side3 => exact B.kc ((Kd.R_reads' HO328.out).2.2)); (case side4 => exact (Kd.R_reads' HO328.out).2.1); (case side5 => exact far_slice (IsS67.own_ne HI0.out HO328.out (by decide))); rintro e w6 ⟨rfl, hi, hb, hk⟩; refine ⟨_, rfl, ?_⟩; have n0_ := Aside0.mk (Kd.R_mono (Kd.R_keep (IsS67.apart (show IsS67 w0 _ g s0_0 s0_1 from B.st HI0) (B.kr HO328) (by decide)) hk (fun _ h => h.2)) (fun _ h => h.1)); have n1_ := Aside0.mk (KeepBut.trans (B.kk HK) hk (.inl rfl)); have n2_ := Aside0.mk (hb); have n3_ := Aside0.mk (hi); clear HO328 HK HB HI0; have HO328 := n0_; have HK := n1_; have HB := n2_; have HI0 := n3_; clear n0_ n1_ n2_ n3_; (try clear hb); (try clear hb2); (try clear hk); (try clear hi)))
  go_ret
  exact ⟨by first | rfl | (simp [errW_none, errW_some] <;> rfl) | (simp [*, errW_none, errW_some] <;> rfl), B.st HI0, B.bs HB, B.kk HK⟩

/-! ### spec_anyImage: function 47 -/
def spec_anyImage.f (k : Nat) (s0_0 : List Int) (s0_1 : Int) : Option (Int × Int × Int × List Int × Int) := (spec_anyPlanes.f k s0_0 s0_1).bind fun bt332 => ((spec_randomImage.f k s0_0 bt332.2 bt332.1).bind fun bt334 => ((spec_spoilImage.f k s0_0 bt334.2.2.2.2 bt334.1 bt334.2.1 bt334.2.2.1 bt334.2.2.2.1).bind fun bt341 => (some (bt341.1, bt341.2.1, bt341.2.2.1, bt341.2.2.2.1, bt341.2.2.2.2))))
theorem spec_anyImage.mono : ∀ a0 a1 k, LeO (spec_anyImage.f k a0 a1) (spec_anyImage.f (k + 1) a0 a1) := by
  intro a0 a1 k
  unfold spec_anyImage.f
  repeat' first
      | (with_reducible exact spec_anyPlanes.mono _ _ _)
      | (with_reducible exact spec_randomImage.mono _ _ _ _)
      | (with_reducible exact spec_spoilImage.mono _ _ _ _ _ _ _)
      | (with_reducible exact LeO.refl _)
      | (with_reducible exact LeO.none _)
      | (with_reducible refine LeO.ite ?_ ?_)
      | (with_reducible refine LeO.bind ?_ (fun _ => ?_))
      | exact spec_anyPlanes.mono _ _ _
      | exact spec_randomImage.mono _ _ _ _
      | exact spec_spoilImage.mono _ _ _ _ _ _ _
      | exact LeO.none _
      | refine LeO.ite ?_ ?_
      | refine LeO.bind ?_ (fun _ => ?_)
set_option maxHeartbeats 8000000 in
set_option maxRecDepth 100000 in
theorem spec_anyImage.calls (k : Nat) (g : Nat) (s0_0 : List Int) (s0_1 : Int) (r1 : Int) (r2 : Int) (r3 : Int) (r4 : List Int) (r5 : Int) (w0 w : World) (hI : IsS67 w0 w g s0_0 s0_1) (hB : Below w0.heap.size w0 w) (h : spec_anyImage.f k s0_0 s0_1 = some (r1, r2, r3, r4, r5)) :
    Calls Try.prog 47 #[.pointer (some ⟨g, 0, none⟩)] w fun e w' => ∃ v3_ : Value, e = .returned (.agg #[.int .i64 r1, .int .i64 r2, .int .i64 r3, v3_]) ∧ Kd.Q (Kd.int .i64) 3 w' w.heap.size (fun _ => True) v3_ r4 ∧ IsS67 w0 w' g s0_0 r5 ∧ Below w0.heap.size w0 w' ∧ KeepBut w w' g none := by
  have hu27 := Try.underlying27
  have HI0 := Aside0.mk hI
  have HK := Aside0.mk (KeepBut.refl w g none)
  have HL := Aside0.mk hB.size
  clear hI
  have HW0 := Aside0.mk hB.size
  have HB := Aside0.mk hB
  clear hB
  have H : ((spec_anyPlanes.f k s0_0 s0_1).bind fun bt332 => ((spec_randomImage.f k s0_0 bt332.2 bt332.1).bind fun bt334 => ((spec_spoilImage.f k s0_0 bt334.2.2.2.2 bt334.1 bt334.2.1 bt334.2.2.1 bt334.2.2.2.1).bind fun bt341 => (some (bt341.1, bt341.2.1, bt341.2.2.1, bt341.2.2.2.1, bt341.2.2.2.2))))) = some (r1, r2, r3, r4, r5) := h
  clear h
  replace H := Option.bind_eq_some_iff.mp H
  obtain ⟨⟨t332, t333⟩, A20, H⟩ := H
  replace H : ((spec_randomImage.f k s0_0 t333 t332).bind fun bt334 => ((spec_spoilImage.f k s0_0 bt334.2.2.2.2 bt334.1 bt334.2.1 bt334.2.2.1 bt334.2.2.2.1).bind fun bt341 => (some (bt341.1, bt341.2.1, bt341.2.2.1, bt341.2.2.2.1, bt341.2.2.2.2)))) = some (r1, r2, r3, r4, r5) := H
  have A2 := Aside0.mk A20
  clear A20
  replace H := Option.bind_eq_some_iff.mp H
  obtain ⟨⟨t334, t335, t336, t337, t340⟩, A30, H⟩ := H
  replace H : ((spec_spoilImage.f k s0_0 t340 t334 t335 t336 t337).bind fun bt341 => (some (bt341.1, bt341.2.1, bt341.2.2.1, bt341.2.2.2.1, bt341.2.2.2.2))) = some (r1, r2, r3, r4, r5) := H
  have A3 := Aside0.mk A30
  clear A30
  replace H := Option.bind_eq_some_iff.mp H
  obtain ⟨⟨t341, t342, t343, t344, t347⟩, A40, H⟩ := H
  replace H : (some (t341, t342, t343, t344, t347)) = some (r1, r2, r3, r4, r5) := H
  have A4 := Aside0.mk A40
  clear A40
  simp only [Option.some.injEq, Prod.mk.injEq] at H
  obtain ⟨rfl, rfl, rfl, rfl, rfl⟩ := H
  go_enter Try.func47, Try.ntmps47
  go_wp2_with (first | ((with_reducible refine gate_dst (N := 2) rfl ?_); refine box_event ?hg (N := 2) ?hd (cs := #[.int .i64 0, .int .i64 0, .int .i64 0, .slice none 0 0]) (t := 27) ?hr ?_; (case hd => rfl); (case hg => rfl); (case hr => first | (go_simp; done) | (go_simp; rfl)); intro gb331 hg w5 hbox hb; have n0_ := Aside0.mk (IsS67.below (B.st HI0) hb); have n1_ := Aside0.mk (KeepBut.trans (B.kk HK) (KeepBut.of_below hb g none) (.inl rfl)); have n2_ := Aside0.mk (below_step (B.bs HB) hb); have n3_ := Aside0.mk (hbox); have n4_ := Aside0.mk ((by rw [hg]; exact (keep_size (w := w) (g := g) (row := none) (B.kk HK)) : w.heap.size ≤ gb331)); have n5_ := Aside0.mk ((Nat.le_trans HW0.out (by rw [hg]; exact (keep_size (w := w) (g := g) (row := none) (B.kk HK)) : w.heap.size ≤ gb331) : w0.heap.size ≤ gb331)); have n6_ := Aside0.mk ((by rw [hg]; exact Nat.ne_of_lt (IsS67.lt (show IsS67 w0 _ g s0_0 s0_1 from B.st HI0)) : g ≠ gb331)); have n7_ := Aside0.mk ((by rw [hg]; exact Nat.ne_of_gt (IsS67.lt (show IsS67 w0 _ g s0_0 s0_1 from B.st HI0)) : gb331 ≠ g)); clear HI0 HK HB; have HI0 := n0_; have HK := n1_; have HB := n2_; have BK331 := n3_; have GW331 := n4_; have GE331 := n5_; have NB0_331 := n6_; have NB331_0 := n7_; clear n0_ n1_ n2_ n3_ n4_ n5_ n6_ n7_; clear hb hbox hg) | ((with_reducible refine gate_callee (f := 63) rfl ?_); refine goesL_ (some 6) rfl rfl Try.func63 (by kernel_rfl) rfl #[.pointer (some ⟨g, 0, none⟩)] rfl B.am ?_; (with_reducible refine (spec_anyPlanes.calls k g s0_0 s0_1 t332 t333 w0 _ ?side1 ?side2 A2.out).mono ?_); (case side1 => exact B.st HI0); (case side2 => exact B.bs HB); rintro e w6 ⟨rfl, hi, hb, hk⟩; refine ⟨_, rfl, ?_⟩; have n0_ := Aside0.mk (KeepBut.blk hk (g' := gb331) (o := .cells #[.int .i64 0, .int .i64 0, .int .i64 0, .slice none 0 0] 27 (0, 0)) (B.kb BK331) NB331_0.out (by simp)); have n1_ := Aside0.mk (KeepBut.trans (B.kk HK) hk (.inl rfl)); have n2_ := Aside0.mk (hb); have n3_ := Aside0.mk (hi); clear BK331 HK HB HI0; have BK331 := n0_; have HK := n1_; have HB := n2_; have HI0 := n3_; clear n0_ n1_ n2_ n3_; (try clear hb); (try clear hb2); (try clear hk); (try clear hi)) | ((with_reducible refine gate_callee (f := 62) rfl ?_); refine goesL_ (some 7) rfl rfl Try.func62 (by kernel_rfl) rfl #[.pointer (some ⟨g, 0, none⟩), .int .i64 t332] rfl B.am ?_; (with_reducible refine (spec_randomImage.calls k g s0_0 t333 t332 t334 t335 t336 t337 t340 w0 _ ?side1 ?side2 A3.out).mono ?_); (case side1 => exact B.st HI0); (case side2 => exact B.bs HB); rintro e w7 ⟨v338, rfl, ho0, hi, hb, hk⟩; refine ⟨_, rfl, ?_⟩; have n0_ := Aside0.mk (KeepBut.blk hk (g' := gb331) (o := .cells #[.int .i64 0, .int .i64 0, .int .i64 0, .slice none 0 0] 27 (0, 0)) (B.kb BK331) NB331_0.out (by simp)); have n1_ := Aside0.mk (Kd.R_lower ho0 (keep_size (w := w) (g := g) (row := none) (B.kk HK))); have n2_ := Aside0.mk (KeepBut.trans (B.kk HK) hk (.inl rfl)); have n3_ := Aside0.mk (hb); have n4_ := Aside0.mk (hi); clear BK331 HK HB HI0; have BK331 := n0_; have HO339 := n1_; have HK := n2_; have HB := n3_; have HI0 := n4_; clear n0_ n1_ n2_ n3_ n4_; (try clear hb); (try clear hb2); (try clear hk); (try clear hi); (try clear ho0); obtain ⟨Ao8, co8, eo8⟩ := Kd.R_slice HO339.out; subst eo8) | ((with_reducible refine gate_callee (f := 61) rfl ?_); refine goesL_ (some 8) rfl rfl Try.func61 (by kernel_rfl) rfl #[.pointer (some ⟨g, 0, none⟩), .agg #[.int .i64 t334, .int .i64 t335, .int .i64 t336, .slice Ao8 t337.length co8]] rfl B.am ?_; (with_reducible refine (spec_spoilImage.calls k g s0_0 t340 t334 t335 t336 (fun k_ => some k_ = (.slice Ao8 t337.length co8 : Value).ownBlock) (.slice Ao8 t337.length co8) t337 t341 t342 t343 t344 t347 w0 _ ?side1 ?side2 ?side3 A4.out).mono ?_); (case side1 => exact B.st HI0); (case side2 => exact B.bs HB); (case side3 => exact Kd.R_lower (Kd.R_tight rfl HO339.out) HL.out); rintro e w9 ⟨v345, rfl, ho0, hi, hb, hkp⟩; refine ⟨_, rfl, ?_⟩; have n0_ := Aside0.mk (hi); have n1_ := Aside0.mk (blk_kept (B.kb BK331) hkp (fun hs_ => Or.elim hs_ (fun hs_ => (fun e_ => (Kd.R_ne HO339.out BK331.out (by decide)) e_) hs_) (fun e_ => NB331_0.out e_))); have n2_ := Aside0.mk (Kd.Q_mono (ok' := fun k_ => True) (B.Q_raise (d := (Kd.int .i64)) (b := w0.heap.size) (b' := w.heap.size) (fun _ _ _ _ h_ => h_) ho0 (fun k_ e_ => Or.elim (ho0.1 k_ e_) (fun hs_ => (fun e_ => Kd.R_base HO339.out k_ e_.symm) hs_) (fun hn_ => Nat.le_trans (keep_size (w := w) (g := g) (row := none) (B.kk HK)) hn_))) (fun k_ hk_ => trivial)); have n3_ := Aside0.mk (Kept.keepG (B.kk HK) hkp (fun k_ hs_ => Or.elim hs_ (fun hs_ => (fun e_ => .inr (Kd.R_base HO339.out k_ e_.symm)) hs_) (fun e_ => .inl e_))); have n4_ := Aside0.mk (hb); clear HI0 BK331 HK HB HO339; have HI0 := n0_; have BK331 := n1_; have HO346 := n2_; have HK := n3_; have HB := n4_; clear n0_ n1_ n2_ n3_ n4_; (try clear hb); (try clear hkp); (try clear ho0); have hnb10 := NB331_0.out; have hnc10 := NB0_331.out; have hcz11_0 : w9.cell? ⟨gb331, 0, none⟩ = some (.int .i64 0) := B.bc BK331 0; have hcz11_1 : w9.cell? ⟨gb331, 1, none⟩ = some (.int .i64 0) := B.bc BK331 1; have hcz11_2 : w9.cell? ⟨gb331, 2, none⟩ = some (.int .i64 0) := B.bc BK331 2; have hcz11_3 : w9.cell? ⟨gb331, 3, none⟩ = some (.slice none 0 0) := B.bc BK331 3; have hfz11_0 := blk_frozen BK331.out 0; have hfz11_1 := blk_frozen BK331.out 1; have hfz11_2 := blk_frozen BK331.out 2; have hfz11_3 := blk_frozen BK331.out 3; obtain ⟨Ao12, co12, eo12, _⟩ := Kd.Q_slice HO346.out; subst eo12))
  refine bodyPost_ret (results_cell_row rfl _ _ gb331 27 #[.int .i64 t341, .int .i64 t342, .int .i64 t343, .slice Ao12 t344.length co12] (0, 0) _ rfl (B.kb0 (B.bp4 BK331)) Try.underlying27 rfl (by kernel_rfl)) rfl ?_
  exact ⟨_, by first | rfl | (simp [errW_none, errW_some] <;> rfl) | (simp [*, errW_none, errW_some] <;> rfl), by (with_reducible repeat (first | apply Kd.Q_alloc | apply Kd.Q_drewN | apply Kd.Q_drew)); exact Kd.Q_mono (Kd.Q_far (p := ⟨gb331, 3, none⟩) (Kd.Q_far (p := ⟨gb331, 2, none⟩) (Kd.Q_far (p := ⟨gb331, 1, none⟩) (Kd.Q_far (p := ⟨gb331, 0, none⟩) (Kd.Q_types HO346.out BK331.out (by decide)) (fun _ hk => hk.2) (.int .i64 t341)) (fun _ hk => hk.2) (.int .i64 t342)) (fun _ hk => hk.2) (.int .i64 t343)) (fun _ hk => hk.2) (.slice Ao12 t344.length co12)) (fun _ hk => trivial), B.st HI0, B.bs HB, B.kk HK⟩

/-! ### spec_reader_spoil: function 65 -/
def spec_reader_spoil.f (k : Nat) (s0_0 : List Int) (s0_1 : Int) (l1 : List Int) (a2 : Int) : Option (List Int × Int) := (spec_copyInts.f l1).bind fun t348 => ((spec_reader_pick.f k s0_0 s0_1 20).bind fun bt351 => (if bt351.1 = 0 then (if t348.length < 17592186044416 then (some ((t348 ++ [a2]), bt351.2)) else (none)) else (if bt351.1 = 1 then (if (t348.length : Int) > 0 then (if 1 ≤ (t348.length : Int) then (some ((t348.drop (1 : Int).toNat), bt351.2)) else (none)) else (some (t348, bt351.2))) else (if bt351.1 = 2 then (if (t348.length : Int) > 0 then ((spec_reader_pick.f k s0_0 bt351.2 (t348.length : Int)).bind fun bt359 => ((spec_reader_one.f k s0_0 bt359.2 (([(-1), a2, 0, 1] : List Int))).bind fun bt364 => (if 0 ≤ bt359.1 then (if bt359.1 < (t348.length : Int) then (some ((t348.set (bt359.1 : Int).toNat bt364.1), bt364.2)) else (none)) else (none)))) else (some (t348, bt351.2))) else (some (t348, bt351.2))))))
theorem spec_reader_spoil.mono : ∀ a0 a1 a2 a3 k, LeO (spec_reader_spoil.f k a0 a1 a2 a3) (spec_reader_spoil.f (k + 1) a0 a1 a2 a3) := by
  intro a0 a1 a2 a3 k
  unfold spec_reader_spoil.f
  repeat' first
      | (with_reducible exact spec_reader_one.mono _ _ _ _)
      | (with_reducible exact spec_reader_pick.mono _ _ _ _)
      | (with_reducible exact LeO.refl _)
      | (with_reducible exact LeO.none _)
      | (with_reducible refine LeO.ite ?_ ?_)
      | (with_reducible refine LeO.bind ?_ (fun _ => ?_))
      | exact spec_reader_one.mono _ _ _ _
      | exact spec_reader_pick.mono _ _ _ _
      | exact LeO.none _
      | refine LeO.ite ?_ ?_
      | refine LeO.bind ?_ (fun _ => ?_)
set_option maxHeartbeats 8000000 in
set_option maxRecDepth 100000 in
theorem spec_reader_spoil.calls (k : Nat) (g : Nat) (s0_0 : List Int) (s0_1 : Int) (A1 : Option Addr) (c1 : Nat) (l1 : List Int) (a2 : Int) (r1 : List Int) (r2 : Int) (w0 w : World) (hI : IsS67 w0 w g s0_0 s0_1) (hB : Below w0.heap.size w0 w) (hr1 : Kd.C (Kd.int .i64) w A1 l1.length l1) (hc1 : l1.length ≤ c1) (hf1 : ∀ ad, A1 = some ad → 0 < l1.length → ad.block ≠ g) (h : spec_reader_spoil.f k s0_0 s0_1 l1 a2 = some (r1, r2)) :
    Calls Try.prog 65 #[.pointer (some ⟨g, 0, none⟩), .slice A1 l1.length c1, .int .i64 a2] w fun e w' => ∃ v0_ : Value, e = .returned (v0_) ∧ Kd.Q (Kd.int .i64) 3 w' w.heap.size (fun _ => True) v0_ r1 ∧ IsS67 w0 w' g s0_0 r2 ∧ Below w0.heap.size w0 w' ∧ KeepBut w w' g none := by
  have HR1 := Aside0.mk hr1
  have HC1 := Aside0.mk hc1
  clear hr1 hc1
  have HI0 := Aside0.mk hI
  have HK := Aside0.mk (KeepBut.refl w g none)
  have HL := Aside0.mk hB.size
  clear hI
  have HW0 := Aside0.mk hB.size
  have HB := Aside0.mk hB
  clear hB
  have H : ((spec_copyInts.f l1).bind fun t348 => ((spec_reader_pick.f k s0_0 s0_1 20).bind fun bt351 => (if bt351.1 = 0 then (if t348.length < 17592186044416 then (some ((t348 ++ [a2]), bt351.2)) else (none)) else (if bt351.1 = 1 then (if (t348.length : Int) > 0 then (if 1 ≤ (t348.length : Int) then (some ((t348.drop (1 : Int).toNat), bt351.2)) else (none)) else (some (t348, bt351.2))) else (if bt351.1 = 2 then (if (t348.length : Int) > 0 then ((spec_reader_pick.f k s0_0 bt351.2 (t348.length : Int)).bind fun bt359 => ((spec_reader_one.f k s0_0 bt359.2 (([(-1), a2, 0, 1] : List Int))).bind fun bt364 => (if 0 ≤ bt359.1 then (if bt359.1 < (t348.length : Int) then (some ((t348.set (bt359.1 : Int).toNat bt364.1), bt364.2)) else (none)) else (none)))) else (some (t348, bt351.2))) else (some (t348, bt351.2))))))) = some (r1, r2) := h
  clear h
  replace H := Option.bind_eq_some_iff.mp H
  obtain ⟨t348, A40, H⟩ := H
  replace H : ((spec_reader_pick.f k s0_0 s0_1 20).bind fun bt351 => (if bt351.1 = 0 then (if t348.length < 17592186044416 then (some ((t348 ++ [a2]), bt351.2)) else (none)) else (if bt351.1 = 1 then (if (t348.length : Int) > 0 then (if 1 ≤ (t348.length : Int) then (some ((t348.drop (1 : Int).toNat), bt351.2)) else (none)) else (some (t348, bt351.2))) else (if bt351.1 = 2 then (if (t348.length : Int) > 0 then ((spec_reader_pick.f k s0_0 bt351.2 (t348.length : Int)).bind fun bt359 => ((spec_reader_one.f k s0_0 bt359.2 (([(-1), a2, 0, 1] : List Int))).bind fun bt364 => (if 0 ≤ bt359.1 then (if bt359.1 < (t348.length : Int) then (some ((t348.set (bt359.1 : Int).toNat bt364.1), bt364.2)) else (none)) else (none)))) else (some (t348, bt351.2))) else (some (t348, bt351.2)))))) = some (r1, r2) := H
  have A4 := Aside0.mk A40
  clear A40
  replace H := Option.bind_eq_some_iff.mp H
  obtain ⟨⟨t351, t352⟩, A50, H⟩ := H
  replace H : (if t351 = 0 then (if t348.length < 17592186044416 then (some ((t348 ++ [a2]), t352)) else (none)) else (if t351 = 1 then (if (t348.length : Int) > 0 then (if 1 ≤ (t348.length : Int) then (some ((t348.drop (1 : Int).toNat), t352)) else (none)) else (some (t348, t352))) else (if t351 = 2 then (if (t348.length : Int) > 0 then ((spec_reader_pick.f k s0_0 t352 (t348.length : Int)).bind fun bt359 => ((spec_reader_one.f k s0_0 bt359.2 (([(-1), a2, 0, 1] : List Int))).bind fun bt364 => (if 0 ≤ bt359.1 then (if bt359.1 < (t348.length : Int) then (some ((t348.set (bt359.1 : Int).toNat bt364.1), bt364.2)) else (none)) else (none)))) else (some (t348, t352))) else (some (t348, t352))))) = some (r1, r2) := H
  have A5 := Aside0.mk A50
  clear A50
  by_cases c6 : t351 = 0
  · rw [if_pos c6] at H
    have c6b0 : (t351 == 0) = true := beq_iff_eq.mpr c6
    have c6b1 : (t351 != 0) = false := bne_eq_false_iff_eq.mpr c6
    clear c6
    by_cases c7 : t348.length < 17592186044416
    · rw [if_pos c7] at H
      have LMc7 := Aside0.mk c7
      clear c7
      obtain ⟨y353, hy353⟩ : ∃ y_ : List Int, y_ = (t348 ++ [a2]) := ⟨_, rfl⟩
      replace H : (some (y353, t352)) = some (r1, r2) := by first | (rw [hy353]; with_reducible exact H) | (have H2_ := (Option.bind_some _ _).symm.trans H; rw [hy353]; with_reducible exact H2_) | (have H2_ := (Option.bind_some _ _).symm.trans H; with_reducible exact H2_) | with_reducible exact H | (rw [hy353]; exact H) | exact H
      have Ny353 := Aside0.mk hy353
      clear hy353
      simp only [Option.some.injEq, Prod.mk.injEq] at H
      obtain ⟨rfl, rfl⟩ := H
      go_enter Try.func65, Try.ntmps65
      go_wp2_with (first | ((with_reducible refine gate_callee (f := 60) rfl ?_); refine goesL_ (some 9) rfl rfl Try.func60 (by kernel_rfl) rfl #[.slice A1 l1.length c1] rfl B.am ?_; (with_reducible refine (spec_copyInts.calls _ _ l1 t348 _ ?side1 ?side2 A4.out).mono ?_); (case side1 => exact Kd.C_keep 0 HR1.out (B.kk HK) hf1); (case side2 => exact HC1.out); rintro e w8 ⟨v349, rfl, ho0, hb⟩; refine ⟨_, rfl, ?_⟩; have n0_ := Aside0.mk (Kd.R_lower ho0 (keep_size (w := w) (g := g) (row := none) (B.kk HK))); have n1_ := Aside0.mk (IsS67.below (B.st HI0) hb); have n2_ := Aside0.mk (KeepBut.trans (B.kk HK) (KeepBut.of_below hb g none) (.inl rfl)); have n3_ := Aside0.mk (below_step (B.bs HB) hb); clear HI0 HK HB; have HO350 := n0_; have HI0 := n1_; have HK := n2_; have HB := n3_; clear n0_ n1_ n2_ n3_; (try clear hb); (try clear hb2); (try clear hk); (try clear hi); (try clear ho0)) | ((with_reducible refine gate_callee (f := 54) rfl ?_); refine goesL_ (some 11) rfl rfl Try.func54 (by kernel_rfl) rfl #[.pointer (some ⟨g, 0, none⟩), .int .i64 20] rfl B.am ?_; (with_reducible refine (spec_reader_pick.calls k g s0_0 s0_1 20 t351 t352 w0 _ ?side1 ?side2 A5.out).mono ?_); (case side1 => exact B.st HI0); (case side2 => exact B.bs HB); rintro e w9 ⟨rfl, hi, hb, hk⟩; refine ⟨_, rfl, ?_⟩; have n0_ := Aside0.mk (Kd.R_mono (Kd.R_keep (IsS67.apart (show IsS67 w0 _ g s0_0 s0_1 from B.st HI0) (B.kr HO350) (by decide)) hk (fun _ h => h.2)) (fun _ h => h.1)); have n1_ := Aside0.mk (KeepBut.trans (B.kk HK) hk (.inl rfl)); have n2_ := Aside0.mk (hb); have n3_ := Aside0.mk (hi); clear HO350 HK HB HI0; have HO350 := n0_; have HK := n1_; have HB := n2_; have HI0 := n3_; clear n0_ n1_ n2_ n3_; (try clear hb); (try clear hb2); (try clear hk); (try clear hi)) | ((with_reducible refine gate_builtin (b := .append) (xs := #[.tmp 14, .tmp 16]) rfl ?_); at_builtin; refine Kd.R_append (Kd.int .i64) w.heap.size rfl (.tmp 14) (.tmp 16) 22 3 (.int .i64 0) 8 rfl Try.underlying22 info3 rfl (by decide) (by omega) v349 t348 a2 [.int .i64 a2] (fun _ => True) (fun _ => False) rfl rfl ?aP (fun _ hk => hk.elim) ?aF ?aO (Below.refl _ _) ?aS ?aL ?_; (case aP => exact rfl); (case aF => exact (fun _ _ => trivial)); (case aO => exact (B.kr HO350)); (case aS => exact (keep_size (w := w) (g := g) (row := none) (B.kk HK))); (case aL => have := LMc7.out; omega); intro v354 w10 ho hb hg hat; rw [← Ny353.out] at ho; have n0_ := Aside0.mk (IsS67.grown (B.st HI0) hg (IsS67.own_ne HI0.out HO350.out (by decide))); have n1_ := Aside0.mk (below_weaken (B.bs HB) HL.out hb); have n2_ := Aside0.mk (KeepBut.trans (B.kk HK) (KeepBut.of_grown hg g) (Kd.R_base2 HO350.out)); have n3_ := Aside0.mk (ho); clear HI0 HB HK HO350; have HI0 := n0_; have HB := n1_; have HK := n2_; have HO355 := n3_; clear n0_ n1_ n2_ n3_; clear ho hb hg hat))
      go_ret
      exact ⟨_, by first | rfl | (simp [errW_none, errW_some] <;> rfl) | (simp [*, errW_none, errW_some] <;> rfl), Kd.Q_of_R (B.kr HO355), B.st HI0, B.bs HB, B.kk HK⟩
    rw [if_neg c7] at H
    exact absurd H (by simp)
  rw [if_neg c6] at H
  have c6b0 : (t351 == 0) = false := beq_eq_false_iff_ne.mpr c6
  have c6b1 : (t351 != 0) = true := bne_iff_ne.mpr c6
  by_cases c11 : t351 = 1
  · rw [if_pos c11] at H
    have c11b0 : (t351 == 1) = true := beq_iff_eq.mpr c11
    have c11b1 : (t351 != 1) = false := bne_eq_false_iff_eq.mpr c11
    clear c11
    by_cases c12 : (t348.length : Int) > 0
    · rw [if_pos c12] at H
      have c12b0 : decide (0 < (t348.length : Int)) = true := decide_eq_true c12
      have c12b1 : decide (0 < t348.length) = true := decide_eq_true (by omega)
      clear c12
      by_cases c13 : 1 ≤ (t348.length : Int)
      · rw [if_pos c13] at H
        have c13b0 := eq_true c13
        have c13b1 : decide (1 ≤ (t348.length : Int)) = true := decide_eq_true c13
        clear c13
        obtain ⟨y356, hy356⟩ : ∃ y_ : List Int, y_ = (t348.drop (1 : Int).toNat) := ⟨_, rfl⟩
        replace H : (some (y356, t352)) = some (r1, r2) := by first | (rw [hy356]; with_reducible exact H) | (have H2_ := (Option.bind_some _ _).symm.trans H; rw [hy356]; with_reducible exact H2_) | (have H2_ := (Option.bind_some _ _).symm.trans H; with_reducible exact H2_) | with_reducible exact H | (rw [hy356]; exact H) | exact H
        have Ny356 := Aside0.mk hy356
        clear hy356
        simp only [Option.some.injEq, Prod.mk.injEq] at H
        obtain ⟨rfl, rfl⟩ := H
        go_enter Try.func65, Try.ntmps65
        go_wp2_with (first | ((with_reducible refine gate_callee (f := 60) rfl ?_); refine goesL_ (some 9) rfl rfl Try.func60 (by kernel_rfl) rfl #[.slice A1 l1.length c1] rfl B.am ?_; (with_reducible refine (spec_copyInts.calls _ _ l1 t348 _ ?side1 ?side2 A4.out).mono ?_); (case side1 => exact Kd.C_keep 0 HR1.out (B.kk HK) hf1); (case side2 => exact HC1.out); rintro e w14 ⟨v349, rfl, ho0, hb⟩; refine ⟨_, rfl, ?_⟩; have n0_ := Aside0.mk (Kd.R_lower ho0 (keep_size (w := w) (g := g) (row := none) (B.kk HK))); have n1_ := Aside0.mk (IsS67.below (B.st HI0) hb); have n2_ := Aside0.mk (KeepBut.trans (B.kk HK) (KeepBut.of_below hb g none) (.inl rfl)); have n3_ := Aside0.mk (below_step (B.bs HB) hb); clear HI0 HK HB; have HO350 := n0_; have HI0 := n1_; have HK := n2_; have HB := n3_; clear n0_ n1_ n2_ n3_; (try clear hb); (try clear hb2); (try clear hk); (try clear hi); (try clear ho0)) | ((with_reducible refine gate_callee (f := 54) rfl ?_); refine goesL_ (some 11) rfl rfl Try.func54 (by kernel_rfl) rfl #[.pointer (some ⟨g, 0, none⟩), .int .i64 20] rfl B.am ?_; (with_reducible refine (spec_reader_pick.calls k g s0_0 s0_1 20 t351 t352 w0 _ ?side1 ?side2 A5.out).mono ?_); (case side1 => exact B.st HI0); (case side2 => exact B.bs HB); rintro e w15 ⟨rfl, hi, hb, hk⟩; refine ⟨_, rfl, ?_⟩; have n0_ := Aside0.mk (Kd.R_mono (Kd.R_keep (IsS67.apart (show IsS67 w0 _ g s0_0 s0_1 from B.st HI0) (B.kr HO350) (by decide)) hk (fun _ h => h.2)) (fun _ h => h.1)); have n1_ := Aside0.mk (KeepBut.trans (B.kk HK) hk (.inl rfl)); have n2_ := Aside0.mk (hb); have n3_ := Aside0.mk (hi); clear HO350 HK HB HI0; have HO350 := n0_; have HK := n1_; have HB := n2_; have HI0 := n3_; clear n0_ n1_ n2_ n3_; (try clear hb); (try clear hb2); (try clear hk); (try clear hi); obtain ⟨Ao16, co16, eo16⟩ := Kd.R_slice HO350.out; subst eo16; have q17 : (1 : Int) ≤ ((t348.length : Int) : Int) := of_decide_eq_true (by first | (with_reducible assumption) | assumption); obtain ⟨i017, hi017, _, hsz17, _⟩ := info_parts info3; have hcut17 := cut_from (P := Try.prog) 22 3 .i64 Try.underlying22 hi017 1 hsz17 Ao16 t348.length co16 1 (by omega) q17; have hr17 := Kd.Q_drop (k := (1 : Int).toNat) (Kd.Q_of_R HO350.out) (by omega); obtain ⟨A17, hA17⟩ : ∃ A1, A1 = (if co16 = (1 : Int).toNat then Ao16 else (Ao16 : Option Addr).map (·.add ((1 : Int).toNat * 1))) := ⟨_, rfl⟩; obtain ⟨c17, hc17⟩ : ∃ c1, c1 = co16 - (1 : Int).toNat := ⟨_, rfl⟩; have hy17 : y356.length = t348.length - (1 : Int).toNat := (by rw [Ny356.out, List.length_drop]); rw [← Ny356.out] at hr17; rw [← hy17, ← hA17, ← hc17] at hcut17; replace hr17 : Kd.Q (Kd.int .i64) 3 w15 w.heap.size (fun _ => True) (.slice A17 y356.length c17) y356 := (by rw [hA17, hc17, hy17]; exact hr17); have HE17 : Aside0 ((Value.slice A17 y356.length c17).ownBlock = (.slice Ao16 t348.length co16 : Value).ownBlock) := ⟨by rw [hA17]; split <;> (cases (Ao16 : Option Addr) <;> rfl)⟩; clear hy17 hi017 hsz17 HO350 hA17 hc17; have HO358 := Aside0.mk hr17; clear hr17; replace q17 := eq_true q17))
        go_ret
        exact ⟨_, by first | rfl | (simp [errW_none, errW_some] <;> rfl) | (simp [*, errW_none, errW_some] <;> rfl), by (with_reducible repeat (first | apply Kd.Q_alloc | apply Kd.Q_drewN | apply Kd.Q_drew)); exact HO358.out, B.st HI0, B.bs HB, B.kk HK⟩
      rw [if_neg c13] at H
      exact absurd H (by simp)
    rw [if_neg c12] at H
    have c12b0 : decide (0 < (t348.length : Int)) = false := decide_eq_false c12
    have c12b1 : decide (0 < t348.length) = false := decide_eq_false (by omega)
    clear c12
    simp only [Option.some.injEq, Prod.mk.injEq] at H
    obtain ⟨rfl, rfl⟩ := H
    go_enter Try.func65, Try.ntmps65
    go_wp2_with (first | ((with_reducible refine gate_callee (f := 60) rfl ?_); refine goesL_ (some 9) rfl rfl Try.func60 (by kernel_rfl) rfl #[.slice A1 l1.length c1] rfl B.am ?_; (with_reducible refine (spec_copyInts.calls _ _ l1 t348 _ ?side1 ?side2 A4.out).mono ?_); (case side1 => exact Kd.C_keep 0 HR1.out (B.kk HK) hf1); (case side2 => exact HC1.out); rintro e w18 ⟨v349, rfl, ho0, hb⟩; refine ⟨_, rfl, ?_⟩; have n0_ := Aside0.mk (Kd.R_lower ho0 (keep_size (w := w) (g := g) (row := none) (B.kk HK))); have n1_ := Aside0.mk (IsS67.below (B.st HI0) hb); have n2_ := Aside0.mk (KeepBut.trans (B.kk HK) (KeepBut.of_below hb g none) (.inl rfl)); have n3_ := Aside0.mk (below_step (B.bs HB) hb); clear HI0 HK HB; have HO350 := n0_; have HI0 := n1_; have HK := n2_; have HB := n3_; clear n0_ n1_ n2_ n3_; (try clear hb); (try clear hb2); (try clear hk); (try clear hi); (try clear ho0)) | ((with_reducible refine gate_callee (f := 54) rfl ?_); refine goesL_ (some 11) rfl rfl Try.func54 (by kernel_rfl) rfl #[.pointer (some ⟨g, 0, none⟩), .int .i64 20] rfl B.am ?_; (with_reducible refine (spec_reader_pick.calls k g s0_0 s0_1 20 t351 t352 w0 _ ?side1 ?side2 A5.out).mono ?_); (case side1 => exact B.st HI0); (case side2 => exact B.bs HB); rintro e w19 ⟨rfl, hi, hb, hk⟩; refine ⟨_, rfl, ?_⟩; have n0_ := Aside0.mk (Kd.R_mono (Kd.R_keep (IsS67.apart (show IsS67 w0 _ g s0_0 s0_1 from B.st HI0) (B.kr HO350) (by decide)) hk (fun _ h => h.2)) (fun _ h => h.1)); have n1_ := Aside0.mk (KeepBut.trans (B.kk HK) hk (.inl rfl)); have n2_ := Aside0.mk (hb); have n3_ := Aside0.mk (hi); clear HO350 HK HB HI0; have HO350 := n0_; have HK := n1_; have HB := n2_; have HI0 := n3_; clear n0_ n1_ n2_ n3_; (try clear hb); (try clear hb2); (try clear hk); (try clear hi); obtain ⟨Ao20, co20, eo20⟩ := Kd.R_slice HO350.out; subst eo20))
    go_ret
    exact ⟨_, by first | rfl | (simp [errW_none, errW_some] <;> rfl) | (simp [*, errW_none, errW_some] <;> rfl), Kd.Q_of_R (B.kr HO350), B.st HI0, B.bs HB, B.kk HK⟩
  rw [if_neg c11] at H
  have c11b0 : (t351 == 1) = false := beq_eq_false_iff_ne.mpr c11
  have c11b1 : (t351 != 1) = true := bne_iff_ne.mpr c11
  by_cases c21 : t351 = 2
  · rw [if_pos c21] at H
    have c21b0 : (t351 == 2) = true := beq_iff_eq.mpr c21
    have c21b1 : (t351 != 2) = false := bne_eq_false_iff_eq.mpr c21
    clear c21
    by_cases c22 : (t348.length : Int) > 0
    · rw [if_pos c22] at H
      have c22b0 : decide (0 < (t348.length : Int)) = true := decide_eq_true c22
      have c22b1 : decide (0 < t348.length) = true := decide_eq_true (by omega)
      clear c22
      replace H := Option.bind_eq_some_iff.mp H
      obtain ⟨⟨t359, t360⟩, A230, H⟩ := H
      replace H : ((spec_reader_one.f k s0_0 t360 (([(-1), a2, 0, 1] : List Int))).bind fun bt364 => (if 0 ≤ t359 then (if t359 < (t348.length : Int) then (some ((t348.set (t359 : Int).toNat bt364.1), bt364.2)) else (none)) else (none))) = some (r1, r2) := H
      have A23 := Aside0.mk A230
      clear A230
      obtain ⟨y361, hy361⟩ : ∃ y_ : List Int, y_ = (([(-1), a2, 0, 1] : List Int)) := ⟨_, rfl⟩
      replace H : ((spec_reader_one.f k s0_0 t360 y361).bind fun bt364 => (if 0 ≤ t359 then (if t359 < (t348.length : Int) then (some ((t348.set (t359 : Int).toNat bt364.1), bt364.2)) else (none)) else (none))) = some (r1, r2) := by first | (rw [hy361]; with_reducible exact H) | (have H2_ := (Option.bind_some _ _).symm.trans H; rw [hy361]; with_reducible exact H2_) | (have H2_ := (Option.bind_some _ _).symm.trans H; with_reducible exact H2_) | with_reducible exact H | (rw [hy361]; exact H) | exact H
      have Ny361 := Aside0.mk hy361
      clear hy361
      replace H := Option.bind_eq_some_iff.mp H
      obtain ⟨⟨t364, t365⟩, A240, H⟩ := H
      replace H : (if 0 ≤ t359 then (if t359 < (t348.length : Int) then (some ((t348.set (t359 : Int).toNat t364), t365)) else (none)) else (none)) = some (r1, r2) := H
      have A24 := Aside0.mk A240
      clear A240
      by_cases c25 : 0 ≤ t359
      · rw [if_pos c25] at H
        have c25b0 : decide (0 ≤ t359) = true := decide_eq_true c25
        clear c25
        by_cases c26 : t359 < (t348.length : Int)
        · rw [if_pos c26] at H
          have c26b0 : decide (t359 < (t348.length : Int)) = true := decide_eq_true c26
          clear c26
          obtain ⟨y366, hy366⟩ : ∃ y_ : List Int, y_ = (t348.set (t359 : Int).toNat t364) := ⟨_, rfl⟩
          replace H : (some (y366, t365)) = some (r1, r2) := by first | (rw [hy366]; with_reducible exact H) | (have H2_ := (Option.bind_some _ _).symm.trans H; rw [hy366]; with_reducible exact H2_) | (have H2_ := (Option.bind_some _ _).symm.trans H; with_reducible exact H2_) | with_reducible exact H | (rw [hy366]; exact H) | exact H
          have Ny366 := Aside0.mk hy366
          clear hy366
          simp only [Option.some.injEq, Prod.mk.injEq] at H
          obtain ⟨rfl, rfl⟩ := H
          go_enter Try.func65, Try.ntmps65
          go_wp2_with (first | ((with_reducible refine gate_callee (f := 60) rfl ?_); refine goesL_ (some 9) rfl rfl Try.func60 (by kernel_rfl) rfl #[.slice A1 l1.length c1] rfl B.am ?_; (with_reducible refine (spec_copyInts.calls _ _ l1 t348 _ ?side1 ?side2 A4.out).mono ?_); (case side1 => exact Kd.C_keep 0 HR1.out (B.kk HK) hf1); (case side2 => exact HC1.out); rintro e w28 ⟨v349, rfl, ho0, hb⟩; refine ⟨_, rfl, ?_⟩; have n0_ := Aside0.mk (Kd.R_lower ho0 (keep_size (w := w) (g := g) (row := none) (B.kk HK))); have n1_ := Aside0.mk (IsS67.below (B.st HI0) hb); have n2_ := Aside0.mk (KeepBut.trans (B.kk HK) (KeepBut.of_below hb g none) (.inl rfl)); have n3_ := Aside0.mk (below_step (B.bs HB) hb); clear HI0 HK HB; have HO350 := n0_; have HI0 := n1_; have HK := n2_; have HB := n3_; clear n0_ n1_ n2_ n3_; (try clear hb); (try clear hb2); (try clear hk); (try clear hi); (try clear ho0)) | ((with_reducible refine gate_callee (f := 54) rfl ?_); refine goesL_ (some 11) rfl rfl Try.func54 (by kernel_rfl) rfl #[.pointer (some ⟨g, 0, none⟩), .int .i64 20] rfl B.am ?_; (with_reducible refine (spec_reader_pick.calls k g s0_0 s0_1 20 t351 t352 w0 _ ?side1 ?side2 A5.out).mono ?_); (case side1 => exact B.st HI0); (case side2 => exact B.bs HB); rintro e w29 ⟨rfl, hi, hb, hk⟩; refine ⟨_, rfl, ?_⟩; have n0_ := Aside0.mk (Kd.R_mono (Kd.R_keep (IsS67.apart (show IsS67 w0 _ g s0_0 s0_1 from B.st HI0) (B.kr HO350) (by decide)) hk (fun _ h => h.2)) (fun _ h => h.1)); have n1_ := Aside0.mk (KeepBut.trans (B.kk HK) hk (.inl rfl)); have n2_ := Aside0.mk (hb); have n3_ := Aside0.mk (hi); clear HO350 HK HB HI0; have HO350 := n0_; have HK := n1_; have HB := n2_; have HI0 := n3_; clear n0_ n1_ n2_ n3_; (try clear hb); (try clear hb2); (try clear hk); (try clear hi); obtain ⟨Ao30, co30, eo30⟩ := Kd.R_slice HO350.out; subst eo30) | ((with_reducible refine gate_callee (f := 54) rfl ?_); refine goesL_ (some 34) rfl rfl Try.func54 (by kernel_rfl) rfl #[.pointer (some ⟨g, 0, none⟩), .int .i64 (t348.length : Int)] rfl B.am ?_; (with_reducible refine (spec_reader_pick.calls k g s0_0 t352 (t348.length : Int) t359 t360 w0 _ ?side1 ?side2 A23.out).mono ?_); (case side1 => exact B.st HI0); (case side2 => exact B.bs HB); rintro e w31 ⟨rfl, hi, hb, hk⟩; refine ⟨_, rfl, ?_⟩; have n0_ := Aside0.mk (Kd.R_mono (Kd.R_keep (IsS67.apart (show IsS67 w0 _ g s0_0 t352 from B.st HI0) (B.kr HO350) (by decide)) hk (fun _ h => h.2)) (fun _ h => h.1)); have n1_ := Aside0.mk (KeepBut.trans (B.kk HK) hk (.inl rfl)); have n2_ := Aside0.mk (hb); have n3_ := Aside0.mk (hi); clear HO350 HK HB HI0; have HO350 := n0_; have HK := n1_; have HB := n2_; have HI0 := n3_; clear n0_ n1_ n2_ n3_; (try clear hb); (try clear hb2); (try clear hk); (try clear hi)) | ((with_reducible refine gate_dst (N := 37) rfl ?_); refine Kd.R_lit (Kd.int .i64) _ 3 ?hg (N := 37) ?hd (xs := ([(-1), a2, 0, 1] : List Int)) (inner := [.int .i64 (-1), .int .i64 a2, .int .i64 0, .int .i64 1]) (ok := fun _ => True) (okp := fun _ => True) ?hr ?hp (fun _ hk => hk) trivial (Below.refl _ _) (Nat.le_refl _) (by simp) ?_; (case hd => rfl); (case hg => rfl); (case hr => first | (go_simp; done) | (go_simp; rfl)); (case hp => exact (Reps.one (show Kd.M (Kd.int .i64) _ _ _ (-1) [.int .i64 (-1)] from rfl) (Reps.one (show Kd.M (Kd.int .i64) _ _ _ a2 [.int .i64 a2] from rfl) (Reps.one (show Kd.M (Kd.int .i64) _ _ _ 0 [.int .i64 0] from rfl) (Reps.one (show Kd.M (Kd.int .i64) _ _ _ 1 [.int .i64 1] from rfl) (Reps.none _ _)))))); intro v362 w32 ho33 hb hg_ hnew_; clear hg_ hnew_; (first | rw [← Ny361.out] at ho33 | (simp only [Int.reduceToNat] at ho33; rw [← Ny361.out] at ho33)); have n0_ := Aside0.mk (Kd.R_elder' (B.kr HO350) (Kd.R_base ho33) hb); have n1_ := Aside0.mk (Kd.R_lower (Kd.R_new' ho33 (Kd.R_lt (B.kr HO350))) (keep_size (w := w) (g := g) (row := none) (B.kk HK))); have n2_ := Aside0.mk (IsS67.below (B.st HI0) hb); have n3_ := Aside0.mk (KeepBut.trans (B.kk HK) (KeepBut.of_below hb g none) (.inl rfl)); have n4_ := Aside0.mk (below_step (B.bs HB) hb); clear HO350 HI0 HK HB; have HO350 := n0_; have HO363 := n1_; have HI0 := n2_; have HK := n3_; have HB := n4_; clear n0_ n1_ n2_ n3_ n4_; clear hb ho33; obtain ⟨Ao34, co34, eo34⟩ := Kd.R_slice HO363.out; subst eo34) | ((with_reducible refine gate_callee (f := 64) rfl ?_); refine goesL_ (some 38) rfl rfl Try.func64 (by kernel_rfl) rfl #[.pointer (some ⟨g, 0, none⟩), .slice Ao34 y361.length co34] rfl B.am ?_; (with_reducible refine (spec_reader_one.calls k g s0_0 t360 _ _ y361 t364 t365 w0 _ ?side1 ?side2 ?side3 ?side4 ?side5 A24.out).mono ?_); (case side1 => exact B.st HI0); (case side2 => exact B.bs HB); (case side3 => exact B.kc ((Kd.R_reads' HO363.out).2.2)); (case side4 => exact (Kd.R_reads' HO363.out).2.1); (case side5 => exact far_slice (IsS67.own_ne HI0.out HO363.out (by decide))); rintro e w35 ⟨rfl, hi, hb, hk⟩; refine ⟨_, rfl, ?_⟩; have n0_ := Aside0.mk (Kd.R_mono (Kd.R_keep (IsS67.apart (show IsS67 w0 _ g s0_0 t360 from B.st HI0) (B.kr HO350) (by decide)) hk (fun _ h => h.2)) (fun _ h => h.1)); have n1_ := Aside0.mk (Kd.R_mono (Kd.R_keep (IsS67.apart (show IsS67 w0 _ g s0_0 t360 from B.st HI0) (B.kr HO363) (by decide)) hk (fun _ h => h.2)) (fun _ h => h.1)); have n2_ := Aside0.mk (KeepBut.trans (B.kk HK) hk (.inl rfl)); have n3_ := Aside0.mk (hb); have n4_ := Aside0.mk (hi); clear HO350 HO363 HK HB HI0; have HO350 := n0_; have HO363 := n1_; have HK := n2_; have HB := n3_; have HI0 := n4_; clear n0_ n1_ n2_ n3_ n4_; (try clear hb); (try clear hb2); (try clear hk); (try clear hi); have p27 : 0 ≤ (t359 : Int) := of_decide_eq_true (by first | (with_reducible assumption) | assumption); have q27 : (t359 : Int) < ((t348.length : Int) : Int) := of_decide_eq_true (by first | (with_reducible assumption) | assumption); obtain ⟨go27, co27, eo27, gb27, gl27, cl27, HG27⟩ := Kd.R_form HO350.out (by omega); (first | cases eo27 | (injection eo27 with ea_ en_ ec_; (first | subst ea_ | (injection ea_ with ea_; subst ea_)); subst ec_; clear en_)); have GB27 := Aside0.mk gb27; have GG27 := Aside0.mk HG27; clear gb27 gl27 HG27; obtain ⟨hx27_0, hf27_0⟩ := Kd.R_celln 0 HO350.out (t359 : Int) p27 q27; replace p27 := eq_true p27; replace q27 := eq_true q27; have n_ := Aside0.mk (Kd.R_mono (ok' := (fun k_ => some k_ ≠ (.slice Ao34 y361.length co34 : Value).ownBlock)) HO350.out (fun k_ hk => hk.2)); clear HO350; have HO350 := n_; clear n_; obtain ⟨hy36_, hz36_⟩ := Kd.R_celln 0 HO350.out (t359 : Int) (of_decide_eq_true (by first | (with_reducible assumption) | assumption)) (of_decide_eq_true (by first | (with_reducible assumption) | assumption)); have HP36 := Kd.R_putg HO350.out (t359 : Int) t364) | ((with_reducible refine gate_store (t := 3) (p := 39) rfl ?_); refine store_event (t := 3) (p := 39) (v := ?vo_w37) (w1 := (w35.setCell ⟨go27, (t359 : Int).toNat, none⟩ (.int .i64 t364))) ?hg ?ho ?hn ?hr ?_; (case ho => rfl); (case hg => rfl); (case hn => rfl); (case hr => first | (go_simp; done) | (go_simp; rfl)); intro w37 hw; have hg : w35.grownBy w37 (some go27) := (by rw [hw]; exact HP36.2); have hp_ : Kd.R (Kd.int .i64) 3 w37 w.heap.size (fun k_ => some k_ ≠ (.slice Ao34 y361.length co34 : Value).ownBlock) (.slice (some ⟨go27, 0, none⟩) t348.length co30) y366 := (by rw [hw, Ny366.out]; exact HP36.1); clear HP36; have n0_ := Aside0.mk (IsS67.grown (B.st HI0) hg (IsS67.own_ne HI0.out HO350.out (by decide))); have n1_ := Aside0.mk (hp_); have n2_ := Aside0.mk (Kd.R_after (v := (.slice (some ⟨go27, 0, none⟩) t348.length co30)) (v1 := (.slice (some ⟨go27, 0, none⟩) t348.length co30)) (ok := (fun _ => True)) (B.kr HO363) hg (.inl rfl)); have n3_ := Aside0.mk ((by rw [hw]; exact below_set (HB.out) (Nat.le_trans HL.out GB27.out) : Below w0.heap.size w0 w37)); have n4_ := Aside0.mk (KeepBut.trans (B.kk HK) (KeepBut.of_grown hg g) (Kd.R_base2 HO350.out)); clear HI0 HO350 HO363 HB HK; have HI0 := n0_; have HO350 := n1_; have HO363 := n2_; have HB := n3_; have HK := n4_; clear n0_ n1_ n2_ n3_ n4_; clear hg hw hp_))
          go_ret
          exact ⟨_, by first | rfl | (simp [errW_none, errW_some] <;> rfl) | (simp [*, errW_none, errW_some] <;> rfl), Kd.Q_of_R (B.kr0 (Kd.R_mono HO350.out (fun _ hk => trivial))), B.st HI0, B.bs HB, B.kk HK⟩
        rw [if_neg c26] at H
        exact absurd H (by simp)
      rw [if_neg c25] at H
      exact absurd H (by simp)
    rw [if_neg c22] at H
    have c22b0 : decide (0 < (t348.length : Int)) = false := decide_eq_false c22
    have c22b1 : decide (0 < t348.length) = false := decide_eq_false (by omega)
    clear c22
    simp only [Option.some.injEq, Prod.mk.injEq] at H
    obtain ⟨rfl, rfl⟩ := H
    go_enter Try.func65, Try.ntmps65
    go_wp2_with (first | ((with_reducible refine gate_callee (f := 60) rfl ?_); refine goesL_ (some 9) rfl rfl Try.func60 (by kernel_rfl) rfl #[.slice A1 l1.length c1] rfl B.am ?_; (with_reducible refine (spec_copyInts.calls _ _ l1 t348 _ ?side1 ?side2 A4.out).mono ?_); (case side1 => exact Kd.C_keep 0 HR1.out (B.kk HK) hf1); (case side2 => exact HC1.out); rintro e w38 ⟨v349, rfl, ho0, hb⟩; refine ⟨_, rfl, ?_⟩; have n0_ := Aside0.mk (Kd.R_lower ho0 (keep_size (w := w) (g := g) (row := none) (B.kk HK))); have n1_ := Aside0.mk (IsS67.below (B.st HI0) hb); have n2_ := Aside0.mk (KeepBut.trans (B.kk HK) (KeepBut.of_below hb g none) (.inl rfl)); have n3_ := Aside0.mk (below_step (B.bs HB) hb); clear HI0 HK HB; have HO350 := n0_; have HI0 := n1_; have HK := n2_; have HB := n3_; clear n0_ n1_ n2_ n3_; (try clear hb); (try clear hb2); (try clear hk); (try clear hi); (try clear ho0)) | ((with_reducible refine gate_callee (f := 54) rfl ?_); refine goesL_ (some 11) rfl rfl Try.func54 (by kernel_rfl) rfl #[.pointer (some ⟨g, 0, none⟩), .int .i64 20] rfl B.am ?_; (with_reducible refine (spec_reader_pick.calls k g s0_0 s0_1 20 t351 t352 w0 _ ?side1 ?side2 A5.out).mono ?_); (case side1 => exact B.st HI0); (case side2 => exact B.bs HB); rintro e w39 ⟨rfl, hi, hb, hk⟩; refine ⟨_, rfl, ?_⟩; have n0_ := Aside0.mk (Kd.R_mono (Kd.R_keep (IsS67.apart (show IsS67 w0 _ g s0_0 s0_1 from B.st HI0) (B.kr HO350) (by decide)) hk (fun _ h => h.2)) (fun _ h => h.1)); have n1_ := Aside0.mk (KeepBut.trans (B.kk HK) hk (.inl rfl)); have n2_ := Aside0.mk (hb); have n3_ := Aside0.mk (hi); clear HO350 HK HB HI0; have HO350 := n0_; have HK := n1_; have HB := n2_; have HI0 := n3_; clear n0_ n1_ n2_ n3_; (try clear hb); (try clear hb2); (try clear hk); (try clear hi); obtain ⟨Ao40, co40, eo40⟩ := Kd.R_slice HO350.out; subst eo40))
    go_ret
    exact ⟨_, by first | rfl | (simp [errW_none, errW_some] <;> rfl) | (simp [*, errW_none, errW_some] <;> rfl), Kd.Q_of_R (B.kr HO350), B.st HI0, B.bs HB, B.kk HK⟩
  rw [if_neg c21] at H
  have c21b0 : (t351 == 2) = false := beq_eq_false_iff_ne.mpr c21
  have c21b1 : (t351 != 2) = true := bne_iff_ne.mpr c21
  simp only [Option.some.injEq, Prod.mk.injEq] at H
  obtain ⟨rfl, rfl⟩ := H
  go_enter Try.func65, Try.ntmps65
  go_wp2_with (first | ((with_reducible refine gate_callee (f := 60) rfl ?_); refine goesL_ (some 9) rfl rfl Try.func60 (by kernel_rfl) rfl #[.slice A1 l1.length c1] rfl B.am ?_; (with_reducible refine (spec_copyInts.calls _ _ l1 t348 _ ?side1 ?side2 A4.out).mono ?_); (case side1 => exact Kd.C_keep 0 HR1.out (B.kk HK) hf1); (case side2 => exact HC1.out); rintro e w41 ⟨v349, rfl, ho0, hb⟩; refine ⟨_, rfl, ?_⟩; have n0_ := Aside0.mk (Kd.R_lower ho0 (keep_size (w := w) (g := g) (row := none) (B.kk HK))); have n1_ := Aside0.mk (IsS67.below (B.st HI0) hb); have n2_ := Aside0.mk (KeepBut.trans (B.kk HK) (KeepBut.of_below hb g none) (.inl rfl)); have n3_ := Aside0.mk (below_step (B.bs HB) hb); clear HI0 HK HB; have HO350 := n0_; have HI0 := n1_; have HK := n2_; have HB := n3_; clear n0_ n1_ n2_ n3_; (try clear hb); (try clear hb2); (try clear hk); (try clear hi); (try clear ho0)) | ((with_reducible refine gate_callee (f := 54) rfl ?_); refine goesL_ (some 11) rfl rfl Try.func54 (by kernel_rfl) rfl #[.pointer (some ⟨g, 0, none⟩), .int .i64 20] rfl B.am ?_; (with_reducible refine (spec_reader_pick.calls k g s0_0 s0_1 20 t351 t352 w0 _ ?side1 ?side2 A5.out).mono ?_); (case side1 => exact B.st HI0); (case side2 => exact B.bs HB); rintro e w42 ⟨rfl, hi, hb, hk⟩; refine ⟨_, rfl, ?_⟩; have n0_ := Aside0.mk (Kd.R_mono (Kd.R_keep (IsS67.apart (show IsS67 w0 _ g s0_0 s0_1 from B.st HI0) (B.kr HO350) (by decide)) hk (fun _ h => h.2)) (fun _ h => h.1)); have n1_ := Aside0.mk (KeepBut.trans (B.kk HK) hk (.inl rfl)); have n2_ := Aside0.mk (hb); have n3_ := Aside0.mk (hi); clear HO350 HK HB HI0; have HO350 := n0_; have HK := n1_; have HB := n2_; have HI0 := n3_; clear n0_ n1_ n2_ n3_; (try clear hb); (try clear hb2); (try clear hk); (try clear hi)))
  go_ret
  exact ⟨_, by first | rfl | (simp [errW_none, errW_some] <;> rfl) | (simp [*, errW_none, errW_some] <;> rfl), Kd.Q_of_R (B.kr HO350), B.st HI0, B.bs HB, B.kk HK⟩

/-! ### spec_anyPixel: function 55 -/
def spec_anyPixel.l0 : Nat → Int → List Int → Int → List Int → Int → Option (List Int × Int)
  | 0, _, _, _, _, _ => none
  | k + 1, x1, x5, x6, x1000, x1001 => if x6 < x1 then ((spec_reader_pick.f k x1000 x1001 256).bind fun bt370 => (if x5.length < 17592186044416 then (spec_anyPixel.l0 k x1 (x5 ++ [bt370.1]) (wrap64 (x6 + 1)) x1000 bt370.2) else (none))) else ((spec_reader_spoil.f k x1000 x1001 x5 256).bind fun bt375 => (some (bt375.1, bt375.2)))
def spec_anyPixel.f (k : Nat) (s0_0 : List Int) (s0_1 : Int) (a1 : Int) : Option (List Int × Int) := spec_anyPixel.l0 k a1 (([] : List Int)) 0 s0_0 s0_1
theorem spec_anyPixel.mono_l : ∀ k, (∀ y0 y1 y2 y3 y4, LeO (spec_anyPixel.l0 k y0 y1 y2 y3 y4) (spec_anyPixel.l0 (k + 1) y0 y1 y2 y3 y4))
  | 0 => fun _ _ _ _ _ r h => by simp [spec_anyPixel.l0] at h
  | k + 1 => by
    have ih0 := spec_anyPixel.mono_l k
    · intro y0 y1 y2 y3 y4
      unfold spec_anyPixel.l0
      repeat' first
      | (with_reducible exact ih0 _ _ _ _ _)
      | (with_reducible exact spec_reader_pick.mono _ _ _ _)
      | (with_reducible exact spec_reader_spoil.mono _ _ _ _ _)
      | (with_reducible exact LeO.refl _)
      | (with_reducible exact LeO.none _)
      | (with_reducible refine LeO.ite ?_ ?_)
      | (with_reducible refine LeO.bind ?_ (fun _ => ?_))
      | exact ih0 _ _ _ _ _
      | exact spec_reader_pick.mono _ _ _ _
      | exact spec_reader_spoil.mono _ _ _ _ _
      | exact LeO.none _
      | refine LeO.ite ?_ ?_
      | refine LeO.bind ?_ (fun _ => ?_)
theorem spec_anyPixel.mono : ∀ a0 a1 a2 k, LeO (spec_anyPixel.f k a0 a1 a2) (spec_anyPixel.f (k + 1) a0 a1 a2) := by
  intro a0 a1 a2 k
  have ih0 := spec_anyPixel.mono_l k
  unfold spec_anyPixel.f
  repeat' first
      | (with_reducible exact ih0 _ _ _ _ _)
      | (with_reducible exact spec_reader_pick.mono _ _ _ _)
      | (with_reducible exact spec_reader_spoil.mono _ _ _ _ _)
      | (with_reducible exact LeO.refl _)
      | (with_reducible exact LeO.none _)
      | (with_reducible refine LeO.ite ?_ ?_)
      | (with_reducible refine LeO.bind ?_ (fun _ => ?_))
      | exact ih0 _ _ _ _ _
      | exact spec_reader_pick.mono _ _ _ _
      | exact spec_reader_spoil.mono _ _ _ _ _
      | exact LeO.none _
      | refine LeO.ite ?_ ?_
      | refine LeO.bind ?_ (fun _ => ?_)
set_option maxHeartbeats 8000000 in
set_option maxRecDepth 100000 in
theorem spec_anyPixel.calls (k : Nat) (g : Nat) (s0_0 : List Int) (s0_1 : Int) (a1 : Int) (r1 : List Int) (r2 : Int) (w0 w : World) (hI : IsS67 w0 w g s0_0 s0_1) (hB : Below w0.heap.size w0 w) (h : spec_anyPixel.f k s0_0 s0_1 a1 = some (r1, r2)) :
    Calls Try.prog 55 #[.pointer (some ⟨g, 0, none⟩), .int .i64 a1] w fun e w' => ∃ v0_ : Value, e = .returned (v0_) ∧ Kd.Q (Kd.int .i64) 3 w' w.heap.size (fun _ => True) v0_ r1 ∧ IsS67 w0 w' g s0_0 r2 ∧ Below w0.heap.size w0 w' ∧ KeepBut w w' g none := by
  have HI0 := Aside0.mk hI
  have HK := Aside0.mk (KeepBut.refl w g none)
  have HL := Aside0.mk hB.size
  clear hI
  have HW0 := Aside0.mk hB.size
  have HB := Aside0.mk hB
  clear hB
  have H : (spec_anyPixel.l0 k a1 (([] : List Int)) 0 s0_0 s0_1) = some (r1, r2) := h
  clear h
  obtain ⟨y367, hy367⟩ : ∃ y_ : List Int, y_ = (([] : List Int)) := ⟨_, rfl⟩
  replace H : (spec_anyPixel.l0 k a1 y367 0 s0_0 s0_1) = some (r1, r2) := by first | (rw [hy367]; with_reducible exact H) | (have H2_ := (Option.bind_some _ _).symm.trans H; rw [hy367]; with_reducible exact H2_) | (have H2_ := (Option.bind_some _ _).symm.trans H; with_reducible exact H2_) | with_reducible exact H | (rw [hy367]; exact H) | exact H
  have Ny367 := Aside0.mk hy367
  clear hy367
  have H' := Aside0.mk H
  clear H
  go_enter Try.func55, Try.ntmps55
  go_wp2_with (first | ((with_reducible refine gate_dst (N := 7) rfl ?_); refine Kd.R_lit (Kd.int .i64) _ 3 ?hg (N := 7) ?hd (xs := ([] : List Int)) (inner := []) (ok := fun _ => True) (okp := fun _ => True) ?hr ?hp (fun _ hk => hk) trivial (Below.refl _ _) (Nat.le_refl _) (by simp) ?_; (case hd => rfl); (case hg => rfl); (case hr => first | (go_simp; done) | (go_simp; rfl)); (case hp => exact (Reps.none _ _)); intro v368 w3 ho4 hb hg_ hnew_; clear hg_ hnew_; (first | rw [← Ny367.out] at ho4 | (simp only [Int.reduceToNat] at ho4; rw [← Ny367.out] at ho4)); have n0_ := Aside0.mk (Kd.R_lower ho4 (keep_size (w := w) (g := g) (row := none) (B.kk HK))); have n1_ := Aside0.mk (IsS67.below (B.st HI0) hb); have n2_ := Aside0.mk (KeepBut.trans (B.kk HK) (KeepBut.of_below hb g none) (.inl rfl)); have n3_ := Aside0.mk (below_step (B.bs HB) hb); clear HI0 HK HB; have HO369 := n0_; have HI0 := n1_; have HK := n2_; have HB := n3_; clear n0_ n1_ n2_ n3_; clear hb ho4))
  go_loopg [5, 6] k (fun kq v5 v6 w' => ∃ (x5_1 : List Int) (x6_1 : Int) (x1001_1 : Int), v6 = .int .i64 x6_1 ∧ Aside0 (spec_anyPixel.l0 kq a1 x5_1 x6_1 s0_0 x1001_1 = some (r1, r2)) ∧ Aside0 (kq ≤ k) ∧ Aside0 (Kd.R (Kd.int .i64) 3 w' w.heap.size (fun _ => True) v5 x5_1) ∧ Aside0 (IsS67 w0 w' g s0_0 x1001_1) ∧ Aside0 (KeepBut w w' g none) ∧ Aside0 (Below w0.heap.size w0 w'))
  case atStart => exact ⟨(y367), (0), (s0_1), (by first | rfl | (simp; done) | (simp [*]; done)), H', ⟨Nat.le_refl _⟩, ⟨B.kr HO369⟩, ⟨B.st HI0⟩, ⟨B.kk HK⟩, ⟨B.bs HB⟩⟩
  case round =>
    clear H'
    try clear p2
    obtain ⟨x5_1, x6_1, x1001_1, rfl, HA, HK1, HO_5, HI0, HK, HB⟩ := hrel
    cases gk with
    | zero => exact absurd HA.out (by simp [spec_anyPixel.l0])
    | succ k1 =>
      have H := HA.out
      clear HA
      simp only [spec_anyPixel.l0] at H
      by_cases c5 : x6_1 < a1
      · rw [if_pos c5] at H
        have c5b0 : decide (x6_1 < a1) = true := decide_eq_true c5
        clear c5
        replace H := Option.bind_eq_some_iff.mp H
        obtain ⟨⟨t370, t371⟩, A60, H⟩ := H
        replace H : (if x5_1.length < 17592186044416 then (spec_anyPixel.l0 k1 a1 (x5_1 ++ [t370]) (wrap64 (x6_1 + 1)) s0_0 t371) else (none)) = some (r1, r2) := H
        have A6 := Aside0.mk A60
        clear A60
        by_cases c7 : x5_1.length < 17592186044416
        · rw [if_pos c7] at H
          have LMc7 := Aside0.mk c7
          clear c7
          obtain ⟨y372, hy372⟩ : ∃ y_ : List Int, y_ = (x5_1 ++ [t370]) := ⟨_, rfl⟩
          replace H : (spec_anyPixel.l0 k1 a1 y372 (wrap64 (x6_1 + 1)) s0_0 t371) = some (r1, r2) := by first | (rw [hy372]; with_reducible exact H) | (have H2_ := (Option.bind_some _ _).symm.trans H; rw [hy372]; with_reducible exact H2_) | (have H2_ := (Option.bind_some _ _).symm.trans H; with_reducible exact H2_) | with_reducible exact H | (rw [hy372]; exact H) | exact H
          have Ny372 := Aside0.mk hy372
          clear hy372
          have H' := Aside0.mk H
          clear H
          go_wp2_with (first | ((with_reducible refine gate_callee (f := 54) rfl ?_); refine goesL_ (some 15) rfl rfl Try.func54 (by kernel_rfl) rfl #[.pointer (some ⟨g, 0, none⟩), .int .i64 256] rfl B.am ?_; (with_reducible refine (spec_reader_pick.calls k1 g s0_0 x1001_1 256 t370 t371 w0 _ ?side1 ?side2 A6.out).mono ?_); (case side1 => exact B.st HI0); (case side2 => exact B.bs HB); rintro e w8 ⟨rfl, hi, hb, hk⟩; refine ⟨_, rfl, ?_⟩; have n0_ := Aside0.mk (Kd.R_mono (Kd.R_keep (IsS67.apart (show IsS67 w0 _ g s0_0 x1001_1 from B.st HI0) (B.kr HO_5) (by decide)) hk (fun _ h => h.2)) (fun _ h => h.1)); have n1_ := Aside0.mk (KeepBut.trans (B.kk HK) hk (.inl rfl)); have n2_ := Aside0.mk (hb); have n3_ := Aside0.mk (hi); clear HO_5 HK HB HI0; have HO_5 := n0_; have HK := n1_; have HB := n2_; have HI0 := n3_; clear n0_ n1_ n2_ n3_; (try clear hb); (try clear hb2); (try clear hk); (try clear hi)) | ((with_reducible refine gate_builtin (b := .append) (xs := #[.tmp 13, .tmp 16]) rfl ?_); at_builtin; refine Kd.R_append (Kd.int .i64) w.heap.size rfl (.tmp 13) (.tmp 16) 22 3 (.int .i64 0) 8 rfl Try.underlying22 info3 rfl (by decide) (by omega) u5 x5_1 t370 [.int .i64 t370] (fun _ => True) (fun _ => False) rfl rfl ?aP (fun _ hk => hk.elim) ?aF ?aO (Below.refl _ _) ?aS ?aL ?_; (case aP => exact rfl); (case aF => exact (fun _ _ => trivial)); (case aO => exact (B.kr HO_5)); (case aS => exact (keep_size (w := w) (g := g) (row := none) (B.kk HK))); (case aL => have := LMc7.out; omega); intro v373 w9 ho hb hg hat; rw [← Ny372.out] at ho; have n0_ := Aside0.mk (IsS67.grown (B.st HI0) hg (IsS67.own_ne HI0.out HO_5.out (by decide))); have n1_ := Aside0.mk (below_weaken (B.bs HB) HL.out hb); have n2_ := Aside0.mk (KeepBut.trans (B.kk HK) (KeepBut.of_grown hg g) (Kd.R_base2 HO_5.out)); have n3_ := Aside0.mk (ho); clear HI0 HB HK HO_5; have HI0 := n0_; have HB := n1_; have HK := n2_; have HO374 := n3_; clear n0_ n1_ n2_ n3_; clear ho hb hg hat))
          go_roundg k1
          case measure => have := HK1.out; omega
          case rel => exact ⟨(y372), (wrap64 (x6_1 + 1)), (t371), (by first | rfl | (simp; done) | (simp [*]; done)), H', ⟨by have := HK1.out; omega⟩, ⟨B.kr HO374⟩, ⟨B.st HI0⟩, ⟨B.kk HK⟩, ⟨B.bs HB⟩⟩
        rw [if_neg c7] at H
        exact absurd H (by simp)
      rw [if_neg c5] at H
      have c5b0 : decide (x6_1 < a1) = false := decide_eq_false c5
      clear c5
      replace H := Option.bind_eq_some_iff.mp H
      obtain ⟨⟨t375, t378⟩, A100, H⟩ := H
      replace H : (some (t375, t378)) = some (r1, r2) := H
      have A10 := Aside0.mk A100
      clear A100
      simp only [Option.some.injEq, Prod.mk.injEq] at H
      obtain ⟨rfl, rfl⟩ := H
      obtain ⟨Ao11, co11, eo11⟩ := Kd.R_slice HO_5.out
      subst eo11
      go_wp2_with (first | ((with_reducible refine gate_callee (f := 65) rfl ?_); refine goesL_ (some 20) rfl rfl Try.func65 (by kernel_rfl) rfl #[.pointer (some ⟨g, 0, none⟩), .slice Ao11 x5_1.length co11, .int .i64 256] rfl B.am ?_; (with_reducible refine (spec_reader_spoil.calls k1 g s0_0 x1001_1 _ _ x5_1 256 t375 t378 w0 _ ?side1 ?side2 ?side3 ?side4 ?side5 A10.out).mono ?_); (case side1 => exact B.st HI0); (case side2 => exact B.bs HB); (case side3 => exact B.kc ((Kd.R_reads' HO_5.out).2.2)); (case side4 => exact (Kd.R_reads' HO_5.out).2.1); (case side5 => exact far_slice (IsS67.own_ne HI0.out HO_5.out (by decide))); rintro e w12 ⟨v376, rfl, ho0, hi, hb, hk⟩; refine ⟨_, rfl, ?_⟩; have n0_ := Aside0.mk (Kd.R_mono (Kd.R_told (Kd.R_oldK (IsS67.apart (show IsS67 w0 _ g s0_0 x1001_1 from B.st HI0) (B.kr HO_5) (by decide)) hk) (Kd.Q_base ho0)) (fun _ h_ => h_.1)); have n1_ := Aside0.mk (Kd.Q_lower (Kd.Q_new' ho0 (Kd.R_lt (B.kr HO_5))) (keep_size (w := w) (g := g) (row := none) (B.kk HK))); have n2_ := Aside0.mk (KeepBut.trans (B.kk HK) hk (.inl rfl)); have n3_ := Aside0.mk (hb); have n4_ := Aside0.mk (hi); clear HO_5 HK HB HI0; have HO_5 := n0_; have HO377 := n1_; have HK := n2_; have HB := n3_; have HI0 := n4_; clear n0_ n1_ n2_ n3_ n4_; (try clear hb); (try clear hb2); (try clear hk); (try clear hi); (try clear ho0)))
      go_ret
      exact ⟨_, by first | rfl | (simp [errW_none, errW_some] <;> rfl) | (simp [*, errW_none, errW_some] <;> rfl), by (with_reducible repeat (first | apply Kd.Q_alloc | apply Kd.Q_drewN | apply Kd.Q_drew)); exact Kd.Q_mono HO377.out (fun _ hk => trivial), B.st HI0, B.bs HB, B.kk HK⟩

end Go.Proofs.Ytegicfkcdmhjgaa.Q
