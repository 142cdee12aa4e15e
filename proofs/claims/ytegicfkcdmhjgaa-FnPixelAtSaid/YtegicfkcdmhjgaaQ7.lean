-- Written by a program of this session (the kit's printer, with hand-proved contracts for the functions that it does not take).
import Derived.Test.YtegicfkcdmhjgaaQ0
import Derived.Test.YtegicfkcdmhjgaaQ3
import Derived.Test.YtegicfkcdmhjgaaQ6
namespace Go.Proofs.Ytegicfkcdmhjgaa.Q
open Go.RowKit Go.Proofs.YtegicfkcdmhjgaaW.PrintWords Go.Proofs.YtegicfkcdmhjgaaW.PrintLast Go.Proofs.YtegicfkcdmhjgaaW.PrintMore
attribute [local go_sem] max2_int min2_int max_two min_two max_three min_three max_four min_four   -- for this text's walks alone
set_option linter.unusedVariables false
set_option linter.unusedSimpArgs false

/-! ### spec_randomImage: function 62 -/
def spec_randomImage.l0 : Nat → Int → Int → Int → List Int → Int → Int → Int → Int → List Int → Option (Int × Int × Int × List Int × Int)
  | 0, _, _, _, _, _, _, _, _, _ => none
  | k + 1, x6, x7, x8, x1000, x1001, x350000, x350001, x350002, x350003 => if x8 < (x350003.length : Int) then (if x6 = 0 then ((spec_reader_pick.f k x1000 x1001 256).bind fun bt354 => (if 0 ≤ x8 then (spec_randomImage.l0 k x6 bt354.1 (wrap64 (x8 + 1)) x1000 bt354.2 x350000 x350001 x350002 (x350003.set (x8 : Int).toNat bt354.1)) else (none))) else (if x6 = 1 then ((spec_reader_pick.f k x1000 x1001 5).bind fun bt357 => (if 0 ≤ x8 then (spec_randomImage.l0 k x6 (Int.tmod (wrap64 ((wrap64 (x7 + bt357.1)) + 254)) 256) (wrap64 (x8 + 1)) x1000 bt357.2 x350000 x350001 x350002 (x350003.set (x8 : Int).toNat (Int.tmod (wrap64 ((wrap64 (x7 + bt357.1)) + 254)) 256))) else (none))) else (if x6 = 2 then ((spec_reader_pick.f k x1000 x1001 4).bind fun bt360 => (if 0 ≤ x8 then (spec_randomImage.l0 k x6 (wrap64 (60 * bt360.1)) (wrap64 (x8 + 1)) x1000 bt360.2 x350000 x350001 x350002 (x350003.set (x8 : Int).toNat (wrap64 (60 * bt360.1)))) else (none))) else (if 0 ≤ x8 then (spec_randomImage.l0 k x6 x7 (wrap64 (x8 + 1)) x1000 x1001 x350000 x350001 x350002 (x350003.set (x8 : Int).toNat x7)) else (none))))) else (some (x350000, x350001, x350002, x350003, x1001))
def spec_randomImage.f (k : Nat) (s0_0 : List Int) (s0_1 : Int) (a1 : Int) : Option (Int × Int × Int × List Int × Int) := (spec_reader_one.f k s0_0 s0_1 (([3, 4, 2, 5, 1, 8, 6] : List Int))).bind fun bt336 => ((spec_reader_one.f k s0_0 bt336.2 (([3, 2, 4, 1, 5, 8] : List Int))).bind fun bt341 => ((spec_newImage.f bt336.1 bt341.1 a1).bind fun bt343 => ((spec_reader_pick.f k s0_0 bt341.2 4).bind fun bt350 => ((spec_reader_pick.f k s0_0 bt350.2 256).bind fun bt352 => (spec_randomImage.l0 k bt350.1 bt352.1 0 s0_0 bt352.2 bt343.1 bt343.2.1 bt343.2.2.1 bt343.2.2.2)))))
theorem spec_randomImage.mono_l : ∀ k, (∀ y0 y1 y2 y3 y4 y5 y6 y7 y8, LeO (spec_randomImage.l0 k y0 y1 y2 y3 y4 y5 y6 y7 y8) (spec_randomImage.l0 (k + 1) y0 y1 y2 y3 y4 y5 y6 y7 y8))
  | 0 => fun _ _ _ _ _ _ _ _ _ r h => by simp [spec_randomImage.l0] at h
  | k + 1 => by
    have ih0 := spec_randomImage.mono_l k
    · intro y0 y1 y2 y3 y4 y5 y6 y7 y8
      unfold spec_randomImage.l0
      repeat' first
      | (with_reducible exact ih0 _ _ _ _ _ _ _ _ _)
      | (with_reducible exact spec_reader_one.mono _ _ _ _)
      | (with_reducible exact spec_reader_pick.mono _ _ _ _)
      | (with_reducible exact LeO.refl _)
      | (with_reducible exact LeO.none _)
      | (with_reducible refine LeO.ite ?_ ?_)
      | (with_reducible refine LeO.bind ?_ (fun _ => ?_))
      | exact ih0 _ _ _ _ _ _ _ _ _
      | exact spec_reader_one.mono _ _ _ _
      | exact spec_reader_pick.mono _ _ _ _
      | exact LeO.none _
      | refine LeO.ite ?_ ?_
      | refine LeO.bind ?_ (fun _ => ?_)
theorem spec_randomImage.mono : ∀ a0 a1 a2 k, LeO (spec_randomImage.f k a0 a1 a2) (spec_randomImage.f (k + 1) a0 a1 a2) := by
  intro a0 a1 a2 k
  have ih0 := spec_randomImage.mono_l k
  unfold spec_randomImage.f
  repeat' first
      | (with_reducible exact ih0 _ _ _ _ _ _ _ _ _)
      | (with_reducible exact spec_reader_one.mono _ _ _ _)
      | (with_reducible exact spec_reader_pick.mono _ _ _ _)
      | (with_reducible exact LeO.refl _)
      | (with_reducible exact LeO.none _)
      | (with_reducible refine LeO.ite ?_ ?_)
      | (with_reducible refine LeO.bind ?_ (fun _ => ?_))
      | exact ih0 _ _ _ _ _ _ _ _ _
      | exact spec_reader_one.mono _ _ _ _
      | exact spec_reader_pick.mono _ _ _ _
      | exact LeO.none _
      | refine LeO.ite ?_ ?_
      | refine LeO.bind ?_ (fun _ => ?_)
set_option maxHeartbeats 8000000 in
set_option maxRecDepth 100000 in
theorem spec_randomImage.calls (k : Nat) (g : Nat) (s0_0 : List Int) (s0_1 : Int) (a1 : Int) (r1 : Int) (r2 : Int) (r3 : Int) (r4 : List Int) (r5 : Int) (w0 w : World) (hI : IsS67 w0 w g s0_0 s0_1) (hB : Below w0.heap.size w0 w) (h : spec_randomImage.f k s0_0 s0_1 a1 = some (r1, r2, r3, r4, r5)) :
    Calls Try.prog 62 #[.pointer (some ⟨g, 0, none⟩), .int .i64 a1] w fun e w' => ∃ v3_ : Value, e = .returned (.agg #[.int .i64 r1, .int .i64 r2, .int .i64 r3, v3_]) ∧ Kd.R (Kd.int .i64) 3 w' w.heap.size (fun _ => True) v3_ r4 ∧ IsS67 w0 w' g s0_0 r5 ∧ Below w0.heap.size w0 w' ∧ KeepBut w w' g none := by
  have hu27 := Try.underlying27
  have HI0 := Aside0.mk hI
  have HK := Aside0.mk (KeepBut.refl w g none)
  have HL := Aside0.mk hB.size
  clear hI
  have HW0 := Aside0.mk hB.size
  have HB := Aside0.mk hB
  clear hB
  have H : ((spec_reader_one.f k s0_0 s0_1 (([3, 4, 2, 5, 1, 8, 6] : List Int))).bind fun bt336 => ((spec_reader_one.f k s0_0 bt336.2 (([3, 2, 4, 1, 5, 8] : List Int))).bind fun bt341 => ((spec_newImage.f bt336.1 bt341.1 a1).bind fun bt343 => ((spec_reader_pick.f k s0_0 bt341.2 4).bind fun bt350 => ((spec_reader_pick.f k s0_0 bt350.2 256).bind fun bt352 => (spec_randomImage.l0 k bt350.1 bt352.1 0 s0_0 bt352.2 bt343.1 bt343.2.1 bt343.2.2.1 bt343.2.2.2)))))) = some (r1, r2, r3, r4, r5) := h
  clear h
  obtain ⟨y333, hy333⟩ : ∃ y_ : List Int, y_ = (([3, 4, 2, 5, 1, 8, 6] : List Int)) := ⟨_, rfl⟩
  replace H : ((spec_reader_one.f k s0_0 s0_1 y333).bind fun bt336 => ((spec_reader_one.f k s0_0 bt336.2 (([3, 2, 4, 1, 5, 8] : List Int))).bind fun bt341 => ((spec_newImage.f bt336.1 bt341.1 a1).bind fun bt343 => ((spec_reader_pick.f k s0_0 bt341.2 4).bind fun bt350 => ((spec_reader_pick.f k s0_0 bt350.2 256).bind fun bt352 => (spec_randomImage.l0 k bt350.1 bt352.1 0 s0_0 bt352.2 bt343.1 bt343.2.1 bt343.2.2.1 bt343.2.2.2)))))) = some (r1, r2, r3, r4, r5) := by first | (rw [hy333]; with_reducible exact H) | (have H2_ := (Option.bind_some _ _).symm.trans H; rw [hy333]; with_reducible exact H2_) | (have H2_ := (Option.bind_some _ _).symm.trans H; with_reducible exact H2_) | with_reducible exact H | (rw [hy333]; exact H) | exact H
  have Ny333 := Aside0.mk hy333
  clear hy333
  replace H := Option.bind_eq_some_iff.mp H
  obtain ⟨⟨t336, t337⟩, A30, H⟩ := H
  replace H : ((spec_reader_one.f k s0_0 t337 (([3, 2, 4, 1, 5, 8] : List Int))).bind fun bt341 => ((spec_newImage.f t336 bt341.1 a1).bind fun bt343 => ((spec_reader_pick.f k s0_0 bt341.2 4).bind fun bt350 => ((spec_reader_pick.f k s0_0 bt350.2 256).bind fun bt352 => (spec_randomImage.l0 k bt350.1 bt352.1 0 s0_0 bt352.2 bt343.1 bt343.2.1 bt343.2.2.1 bt343.2.2.2))))) = some (r1, r2, r3, r4, r5) := H
  have A3 := Aside0.mk A30
  clear A30
  obtain ⟨y338, hy338⟩ : ∃ y_ : List Int, y_ = (([3, 2, 4, 1, 5, 8] : List Int)) := ⟨_, rfl⟩
  replace H : ((spec_reader_one.f k s0_0 t337 y338).bind fun bt341 => ((spec_newImage.f t336 bt341.1 a1).bind fun bt343 => ((spec_reader_pick.f k s0_0 bt341.2 4).bind fun bt350 => ((spec_reader_pick.f k s0_0 bt350.2 256).bind fun bt352 => (spec_randomImage.l0 k bt350.1 bt352.1 0 s0_0 bt352.2 bt343.1 bt343.2.1 bt343.2.2.1 bt343.2.2.2))))) = some (r1, r2, r3, r4, r5) := by first | (rw [hy338]; with_reducible exact H) | (have H2_ := (Option.bind_some _ _).symm.trans H; rw [hy338]; with_reducible exact H2_) | (have H2_ := (Option.bind_some _ _).symm.trans H; with_reducible exact H2_) | with_reducible exact H | (rw [hy338]; exact H) | exact H
  have Ny338 := Aside0.mk hy338
  clear hy338
  replace H := Option.bind_eq_some_iff.mp H
  obtain ⟨⟨t341, t342⟩, A40, H⟩ := H
  replace H : ((spec_newImage.f t336 t341 a1).bind fun bt343 => ((spec_reader_pick.f k s0_0 t342 4).bind fun bt350 => ((spec_reader_pick.f k s0_0 bt350.2 256).bind fun bt352 => (spec_randomImage.l0 k bt350.1 bt352.1 0 s0_0 bt352.2 bt343.1 bt343.2.1 bt343.2.2.1 bt343.2.2.2)))) = some (r1, r2, r3, r4, r5) := H
  have A4 := Aside0.mk A40
  clear A40
  replace H := Option.bind_eq_some_iff.mp H
  obtain ⟨⟨t343, t344, t345, t346⟩, A50, H⟩ := H
  replace H : ((spec_reader_pick.f k s0_0 t342 4).bind fun bt350 => ((spec_reader_pick.f k s0_0 bt350.2 256).bind fun bt352 => (spec_randomImage.l0 k bt350.1 bt352.1 0 s0_0 bt352.2 t343 t344 t345 t346))) = some (r1, r2, r3, r4, r5) := H
  have A5 := Aside0.mk A50
  clear A50
  replace H := Option.bind_eq_some_iff.mp H
  obtain ⟨⟨t350, t351⟩, A60, H⟩ := H
  replace H : ((spec_reader_pick.f k s0_0 t351 256).bind fun bt352 => (spec_randomImage.l0 k t350 bt352.1 0 s0_0 bt352.2 t343 t344 t345 t346)) = some (r1, r2, r3, r4, r5) := H
  have A6 := Aside0.mk A60
  clear A60
  replace H := Option.bind_eq_some_iff.mp H
  obtain ⟨⟨t352, t353⟩, A70, H⟩ := H
  replace H : (spec_randomImage.l0 k t350 t352 0 s0_0 t353 t343 t344 t345 t346) = some (r1, r2, r3, r4, r5) := H
  have A7 := Aside0.mk A70
  clear A70
  have H' := Aside0.mk H
  clear H
  go_enter Try.func62, Try.ntmps62
  go_wp2_with (first | ((with_reducible refine gate_dst (N := 4) rfl ?_); refine box_event ?hg (N := 4) ?hd (cs := #[.int .i64 0, .int .i64 0, .int .i64 0, .slice none 0 0]) (t := 27) ?hr ?_; (case hd => rfl); (case hg => rfl); (case hr => first | (go_simp; done) | (go_simp; rfl)); intro gb332 hg w8 hbox hb; have n0_ := Aside0.mk (IsS67.below (B.st HI0) hb); have n1_ := Aside0.mk (KeepBut.trans (B.kk HK) (KeepBut.of_below hb g none) (.inl rfl)); have n2_ := Aside0.mk (below_step (B.bs HB) hb); have n3_ := Aside0.mk (hbox); have n4_ := Aside0.mk ((by rw [hg]; exact (keep_size (w := w) (g := g) (row := none) (B.kk HK)) : w.heap.size ≤ gb332)); have n5_ := Aside0.mk ((Nat.le_trans HW0.out (by rw [hg]; exact (keep_size (w := w) (g := g) (row := none) (B.kk HK)) : w.heap.size ≤ gb332) : w0.heap.size ≤ gb332)); have n6_ := Aside0.mk ((by rw [hg]; exact Nat.ne_of_lt (IsS67.lt (show IsS67 w0 _ g s0_0 s0_1 from B.st HI0)) : g ≠ gb332)); have n7_ := Aside0.mk ((by rw [hg]; exact Nat.ne_of_gt (IsS67.lt (show IsS67 w0 _ g s0_0 s0_1 from B.st HI0)) : gb332 ≠ g)); clear HI0 HK HB; have HI0 := n0_; have HK := n1_; have HB := n2_; have BK332 := n3_; have GW332 := n4_; have GE332 := n5_; have NB0_332 := n6_; have NB332_0 := n7_; clear n0_ n1_ n2_ n3_ n4_ n5_ n6_ n7_; clear hb hbox hg) | ((with_reducible refine gate_dst (N := 10) rfl ?_); refine Kd.R_lit (Kd.int .i64) _ 3 ?hg (N := 10) ?hd (xs := ([3, 4, 2, 5, 1, 8, 6] : List Int)) (inner := [.int .i64 3, .int .i64 4, .int .i64 2, .int .i64 5, .int .i64 1, .int .i64 8, .int .i64 6]) (ok := fun _ => True) (okp := fun _ => True) ?hr ?hp (fun _ hk => hk) trivial (Below.refl _ _) (Nat.le_refl _) (by simp) ?_; (case hd => rfl); (case hg => rfl); (case hr => first | (go_simp; done) | (go_simp; rfl)); (case hp => exact (Reps.one (show Kd.M (Kd.int .i64) _ _ _ 3 [.int .i64 3] from rfl) (Reps.one (show Kd.M (Kd.int .i64) _ _ _ 4 [.int .i64 4] from rfl) (Reps.one (show Kd.M (Kd.int .i64) _ _ _ 2 [.int .i64 2] from rfl) (Reps.one (show Kd.M (Kd.int .i64) _ _ _ 5 [.int .i64 5] from rfl) (Reps.one (show Kd.M (Kd.int .i64) _ _ _ 1 [.int .i64 1] from rfl) (Reps.one (show Kd.M (Kd.int .i64) _ _ _ 8 [.int .i64 8] from rfl) (Reps.one (show Kd.M (Kd.int .i64) _ _ _ 6 [.int .i64 6] from rfl) (Reps.none _ _))))))))); intro v334 w9 ho10 hb hg_ hnew_; clear hg_ hnew_; (first | rw [← Ny333.out] at ho10 | (simp only [Int.reduceToNat] at ho10; rw [← Ny333.out] at ho10)); have n0_ := Aside0.mk (Kd.R_lower ho10 (keep_size (w := w) (g := g) (row := none) (B.kk HK))); have n1_ := Aside0.mk (IsS67.below (B.st HI0) hb); have n2_ := Aside0.mk (blk_below (B.kb BK332) hb); have n3_ := Aside0.mk (KeepBut.trans (B.kk HK) (KeepBut.of_below hb g none) (.inl rfl)); have n4_ := Aside0.mk (below_step (B.bs HB) hb); clear HI0 BK332 HK HB; have HO335 := n0_; have HI0 := n1_; have BK332 := n2_; have HK := n3_; have HB := n4_; clear n0_ n1_ n2_ n3_ n4_; clear hb ho10; obtain ⟨Ao11, co11, eo11⟩ := Kd.R_slice HO335.out; subst eo11) | ((with_reducible refine gate_callee (f := 64) rfl ?_); refine goesL_ (some 11) rfl rfl Try.func64 (by kernel_rfl) rfl #[.pointer (some ⟨g, 0, none⟩), .slice Ao11 y333.length co11] rfl B.am ?_; (with_reducible refine (spec_reader_one.calls k g s0_0 s0_1 _ _ y333 t336 t337 w0 _ ?side1 ?side2 ?side3 ?side4 ?side5 A3.out).mono ?_); (case side1 => exact B.st HI0); (case side2 => exact B.bs HB); (case side3 => exact B.kc ((Kd.R_reads' HO335.out).2.2)); (case side4 => exact (Kd.R_reads' HO335.out).2.1); (case side5 => exact far_slice (IsS67.own_ne HI0.out HO335.out (by decide))); rintro e w12 ⟨rfl, hi, hb, hk⟩; refine ⟨_, rfl, ?_⟩; have n0_ := Aside0.mk (KeepBut.blk hk (g' := gb332) (o := .cells #[.int .i64 0, .int .i64 0, .int .i64 0, .slice none 0 0] 27 (0, 0)) (B.kb BK332) NB332_0.out (by simp)); have n1_ := Aside0.mk (Kd.R_mono (Kd.R_keep (IsS67.apart (show IsS67 w0 _ g s0_0 s0_1 from B.st HI0) (B.kr HO335) (by decide)) hk (fun _ h => h.2)) (fun _ h => h.1)); have n2_ := Aside0.mk (KeepBut.trans (B.kk HK) hk (.inl rfl)); have n3_ := Aside0.mk (hb); have n4_ := Aside0.mk (hi); clear BK332 HO335 HK HB HI0; have BK332 := n0_; have HO335 := n1_; have HK := n2_; have HB := n3_; have HI0 := n4_; clear n0_ n1_ n2_ n3_ n4_; (try clear hb); (try clear hb2); (try clear hk); (try clear hi)) | ((with_reducible refine gate_dst (N := 13) rfl ?_); refine Kd.R_lit (Kd.int .i64) _ 3 ?hg (N := 13) ?hd (xs := ([3, 2, 4, 1, 5, 8] : List Int)) (inner := [.int .i64 3, .int .i64 2, .int .i64 4, .int .i64 1, .int .i64 5, .int .i64 8]) (ok := fun _ => True) (okp := fun _ => True) ?hr ?hp (fun _ hk => hk) trivial (Below.refl _ _) (Nat.le_refl _) (by simp) ?_; (case hd => rfl); (case hg => rfl); (case hr => first | (go_simp; done) | (go_simp; rfl)); (case hp => exact (Reps.one (show Kd.M (Kd.int .i64) _ _ _ 3 [.int .i64 3] from rfl) (Reps.one (show Kd.M (Kd.int .i64) _ _ _ 2 [.int .i64 2] from rfl) (Reps.one (show Kd.M (Kd.int .i64) _ _ _ 4 [.int .i64 4] from rfl) (Reps.one (show Kd.M (Kd.int .i64) _ _ _ 1 [.int .i64 1] from rfl) (Reps.one (show Kd.M (Kd.int .i64) _ _ _ 5 [.int .i64 5] from rfl) (Reps.one (show Kd.M (Kd.int .i64) _ _ _ 8 [.int .i64 8] from rfl) (Reps.none _ _)))))))); intro v339 w13 ho14 hb hg_ hnew_; clear hg_ hnew_; (first | rw [← Ny338.out] at ho14 | (simp only [Int.reduceToNat] at ho14; rw [← Ny338.out] at ho14)); have n0_ := Aside0.mk (Kd.R_elder' (B.kr HO335) (Kd.R_base ho14) hb); have n1_ := Aside0.mk (Kd.R_lower (Kd.R_new' ho14 (Kd.R_lt (B.kr HO335))) (keep_size (w := w) (g := g) (row := none) (B.kk HK))); have n2_ := Aside0.mk (IsS67.below (B.st HI0) hb); have n3_ := Aside0.mk (blk_below (B.kb BK332) hb); have n4_ := Aside0.mk (KeepBut.trans (B.kk HK) (KeepBut.of_below hb g none) (.inl rfl)); have n5_ := Aside0.mk (below_step (B.bs HB) hb); clear HO335 HI0 BK332 HK HB; have HO335 := n0_; have HO340 := n1_; have HI0 := n2_; have BK332 := n3_; have HK := n4_; have HB := n5_; clear n0_ n1_ n2_ n3_ n4_ n5_; clear hb ho14; obtain ⟨Ao15, co15, eo15⟩ := Kd.R_slice HO340.out; subst eo15) | ((with_reducible refine gate_callee (f := 64) rfl ?_); refine goesL_ (some 14) rfl rfl Try.func64 (by kernel_rfl) rfl #[.pointer (some ⟨g, 0, none⟩), .slice Ao15 y338.length co15] rfl B.am ?_; (with_reducible refine (spec_reader_one.calls k g s0_0 t337 _ _ y338 t341 t342 w0 _ ?side1 ?side2 ?side3 ?side4 ?side5 A4.out).mono ?_); (case side1 => exact B.st HI0); (case side2 => exact B.bs HB); (case side3 => exact B.kc ((Kd.R_reads' HO340.out).2.2)); (case side4 => exact (Kd.R_reads' HO340.out).2.1); (case side5 => exact far_slice (IsS67.own_ne HI0.out HO340.out (by decide))); rintro e w16 ⟨rfl, hi, hb, hk⟩; refine ⟨_, rfl, ?_⟩; have n0_ := Aside0.mk (KeepBut.blk hk (g' := gb332) (o := .cells #[.int .i64 0, .int .i64 0, .int .i64 0, .slice none 0 0] 27 (0, 0)) (B.kb BK332) NB332_0.out (by simp)); have n1_ := Aside0.mk (Kd.R_mono (Kd.R_keep (IsS67.apart (show IsS67 w0 _ g s0_0 t337 from B.st HI0) (B.kr HO335) (by decide)) hk (fun _ h => h.2)) (fun _ h => h.1)); have n2_ := Aside0.mk (Kd.R_mono (Kd.R_keep (IsS67.apart (show IsS67 w0 _ g s0_0 t337 from B.st HI0) (B.kr HO340) (by decide)) hk (fun _ h => h.2)) (fun _ h => h.1)); have n3_ := Aside0.mk (KeepBut.trans (B.kk HK) hk (.inl rfl)); have n4_ := Aside0.mk (hb); have n5_ := Aside0.mk (hi); clear BK332 HO335 HO340 HK HB HI0; have BK332 := n0_; have HO335 := n1_; have HO340 := n2_; have HK := n3_; have HB := n4_; have HI0 := n5_; clear n0_ n1_ n2_ n3_ n4_ n5_; (try clear hb); (try clear hb2); (try clear hk); (try clear hi)) | ((with_reducible refine gate_callee (f := 40) rfl ?_); refine goesL_ (some 16) rfl rfl Try.func40 (by kernel_rfl) rfl #[.int .i64 t336, .int .i64 t341, .int .i64 a1] rfl B.am ?_; (with_reducible refine (spec_newImage.calls t336 t341 a1 t343 t344 t345 t346 _ A5.out).mono ?_); rintro e w17 ⟨v347, rfl, ho0, hb⟩; refine ⟨_, rfl, ?_⟩; have n0_ := Aside0.mk (Kd.R_elder' (B.kr HO335) (Kd.R_base ho0) hb); have n1_ := Aside0.mk (Kd.R_elder' (B.kr HO340) (Kd.R_base ho0) hb); have n2_ := Aside0.mk (Kd.R_lower (Kd.R_new' (Kd.R_new' ho0 (Kd.R_lt (B.kr HO335))) (Kd.R_lt (B.kr HO340))) (keep_size (w := w) (g := g) (row := none) (B.kk HK))); have n3_ := Aside0.mk (IsS67.below (B.st HI0) hb); have n4_ := Aside0.mk (blk_below (B.kb BK332) hb); have n5_ := Aside0.mk (KeepBut.trans (B.kk HK) (KeepBut.of_below hb g none) (.inl rfl)); have n6_ := Aside0.mk (below_step (B.bs HB) hb); clear HO335 HO340 HI0 BK332 HK HB; have HO335 := n0_; have HO340 := n1_; have HO348 := n2_; have HI0 := n3_; have BK332 := n4_; have HK := n5_; have HB := n6_; clear n0_ n1_ n2_ n3_ n4_ n5_ n6_; (try clear hb); (try clear hb2); (try clear hk); (try clear hi); (try clear ho0)) | ((with_reducible refine gate_dst (N := 5) rfl ?_); refine box_event ?hg (N := 5) ?hd (cs := #[.int .i64 0, .int .i64 0, .int .i64 0, .slice none 0 0]) (t := 27) ?hr ?_; (case hd => rfl); (case hg => rfl); (case hr => first | (go_simp; done) | (go_simp; rfl)); intro gb349 hg w18 hbox hb; have n0_ := Aside0.mk (Kd.R_below (B.kr HO335) hb); have n1_ := Aside0.mk (Kd.R_below (B.kr HO340) hb); have n2_ := Aside0.mk (Kd.R_below (B.kr HO348) hb); have n3_ := Aside0.mk (IsS67.below (B.st HI0) hb); have n4_ := Aside0.mk (blk_below (B.kb BK332) hb); have n5_ := Aside0.mk (KeepBut.trans (B.kk HK) (KeepBut.of_below hb g none) (.inl rfl)); have n6_ := Aside0.mk (below_step (B.bs HB) hb); have n7_ := Aside0.mk (hbox); have n8_ := Aside0.mk ((by rw [hg]; exact (keep_size (w := w) (g := g) (row := none) (B.kk HK)) : w.heap.size ≤ gb349)); have n9_ := Aside0.mk ((Nat.le_trans HW0.out (by rw [hg]; exact (keep_size (w := w) (g := g) (row := none) (B.kk HK)) : w.heap.size ≤ gb349) : w0.heap.size ≤ gb349)); have n10_ := Aside0.mk (B.nlt hg (blk_lt (B.kb BK332))); have n11_ := Aside0.mk (B.ngt hg (blk_lt (B.kb BK332))); have n12_ := Aside0.mk ((by rw [hg]; exact Nat.ne_of_lt (IsS67.lt (show IsS67 w0 _ g s0_0 t342 from B.st HI0)) : g ≠ gb349)); have n13_ := Aside0.mk ((by rw [hg]; exact Nat.ne_of_gt (IsS67.lt (show IsS67 w0 _ g s0_0 t342 from B.st HI0)) : gb349 ≠ g)); clear HO335 HO340 HO348 HI0 BK332 HK HB; have HO335 := n0_; have HO340 := n1_; have HO348 := n2_; have HI0 := n3_; have BK332 := n4_; have HK := n5_; have HB := n6_; have BK349 := n7_; have GW349 := n8_; have GE349 := n9_; have NB332_349 := n10_; have NB349_332 := n11_; have NB0_349 := n12_; have NB349_0 := n13_; clear n0_ n1_ n2_ n3_ n4_ n5_ n6_ n7_ n8_ n9_ n10_ n11_ n12_ n13_; clear hb hbox hg; have hnb19 := NB349_332.out; have hnc19 := NB332_349.out; have hnb20 := NB349_0.out; have hnc20 := NB0_349.out; have hcz21_0 : w18.cell? ⟨gb349, 0, none⟩ = some (.int .i64 0) := B.bc BK349 0; have hcz21_1 : w18.cell? ⟨gb349, 1, none⟩ = some (.int .i64 0) := B.bc BK349 1; have hcz21_2 : w18.cell? ⟨gb349, 2, none⟩ = some (.int .i64 0) := B.bc BK349 2; have hcz21_3 : w18.cell? ⟨gb349, 3, none⟩ = some (.slice none 0 0) := B.bc BK349 3; have hfz21_0 := blk_frozen BK349.out 0; have hfz21_1 := blk_frozen BK349.out 1; have hfz21_2 := blk_frozen BK349.out 2; have hfz21_3 := blk_frozen BK349.out 3; obtain ⟨Ao22, co22, eo22⟩ := Kd.R_slice HO348.out; subst eo22) | ((with_reducible refine gate_callee (f := 54) rfl ?_); refine goesL_ (some 18) rfl rfl Try.func54 (by kernel_rfl) rfl #[.pointer (some ⟨g, 0, none⟩), .int .i64 4] rfl B.am ?_; (with_reducible refine (spec_reader_pick.calls k g s0_0 t342 4 t350 t351 w0 _ ?side1 ?side2 A6.out).mono ?_); (case side1 => exact B.st HI0); (case side2 => exact B.bs HB); rintro e w23 ⟨rfl, hi, hb, hk⟩; refine ⟨_, rfl, ?_⟩; have n0_ := Aside0.mk (KeepBut.blk hk (g' := gb332) (o := .cells #[.int .i64 0, .int .i64 0, .int .i64 0, .slice none 0 0] 27 (0, 0)) (B.kb0 (B.bf4 BK332 NB332_349)) NB332_0.out (by simp)); have n1_ := Aside0.mk (Kd.R_mono (Kd.R_keep (IsS67.apart (show IsS67 w0 _ g s0_0 t342 from B.st HI0) (B.kr0 (B.rs4 HO335 BK349)) (by decide)) hk (fun _ h => h.2)) (fun _ h => h.1)); have n2_ := Aside0.mk (Kd.R_mono (Kd.R_keep (IsS67.apart (show IsS67 w0 _ g s0_0 t342 from B.st HI0) (B.kr0 (B.rs4 HO340 BK349)) (by decide)) hk (fun _ h => h.2)) (fun _ h => h.1)); have n3_ := Aside0.mk (Kd.R_mono (Kd.R_keep (IsS67.apart (show IsS67 w0 _ g s0_0 t342 from B.st HI0) (B.kr0 (B.rs4 HO348 BK349)) (by decide)) hk (fun _ h => h.2)) (fun _ h => h.1)); have n4_ := Aside0.mk (KeepBut.blk hk (g' := gb349) (o := .cells #[.int .i64 t343, .int .i64 t344, .int .i64 t345, .slice Ao22 t346.length co22] 27 (0, 0)) (B.kb0 (B.bp4 BK349)) NB349_0.out (by simp)); have n5_ := Aside0.mk (KeepBut.trans (B.kk HK) hk (.inl rfl)); have n6_ := Aside0.mk (hb); have n7_ := Aside0.mk (hi); clear BK332 HO335 HO340 HO348 BK349 HK HB HI0; have BK332 := n0_; have HO335 := n1_; have HO340 := n2_; have HO348 := n3_; have BK349 := n4_; have HK := n5_; have HB := n6_; have HI0 := n7_; clear n0_ n1_ n2_ n3_ n4_ n5_ n6_ n7_; (try clear hb); (try clear hb2); (try clear hk); (try clear hi)) | ((with_reducible refine gate_callee (f := 54) rfl ?_); refine goesL_ (some 20) rfl rfl Try.func54 (by kernel_rfl) rfl #[.pointer (some ⟨g, 0, none⟩), .int .i64 256] rfl B.am ?_; (with_reducible refine (spec_reader_pick.calls k g s0_0 t351 256 t352 t353 w0 _ ?side1 ?side2 A7.out).mono ?_); (case side1 => exact B.st HI0); (case side2 => exact B.bs HB); rintro e w24 ⟨rfl, hi, hb, hk⟩; refine ⟨_, rfl, ?_⟩; have n0_ := Aside0.mk (KeepBut.blk hk (g' := gb332) (o := .cells #[.int .i64 0, .int .i64 0, .int .i64 0, .slice none 0 0] 27 (0, 0)) (B.kb BK332) NB332_0.out (by simp)); have n1_ := Aside0.mk (Kd.R_mono (Kd.R_keep (IsS67.apart (show IsS67 w0 _ g s0_0 t351 from B.st HI0) (B.kr HO335) (by decide)) hk (fun _ h => h.2)) (fun _ h => h.1)); have n2_ := Aside0.mk (Kd.R_mono (Kd.R_keep (IsS67.apart (show IsS67 w0 _ g s0_0 t351 from B.st HI0) (B.kr HO340) (by decide)) hk (fun _ h => h.2)) (fun _ h => h.1)); have n3_ := Aside0.mk (Kd.R_mono (Kd.R_keep (IsS67.apart (show IsS67 w0 _ g s0_0 t351 from B.st HI0) (B.kr HO348) (by decide)) hk (fun _ h => h.2)) (fun _ h => h.1)); have n4_ := Aside0.mk (KeepBut.blk hk (g' := gb349) (o := .cells #[.int .i64 t343, .int .i64 t344, .int .i64 t345, .slice Ao22 t346.length co22] 27 (0, 0)) (B.kb BK349) NB349_0.out (by simp)); have n5_ := Aside0.mk (KeepBut.trans (B.kk HK) hk (.inl rfl)); have n6_ := Aside0.mk (hb); have n7_ := Aside0.mk (hi); clear BK332 HO335 HO340 HO348 BK349 HK HB HI0; have BK332 := n0_; have HO335 := n1_; have HO340 := n2_; have HO348 := n3_; have BK349 := n4_; have HK := n5_; have HB := n6_; have HI0 := n7_; clear n0_ n1_ n2_ n3_ n4_ n5_ n6_ n7_; (try clear hb); (try clear hb2); (try clear hk); (try clear hi)))
  go_loopg [7, 8] k (fun kq v7 v8 w' => ∃ (x7_1 : Int) (x8_1 : Int) (x1001_1 : Int) (x350003_1 : List Int) (u350003 : Value), v7 = .int .i64 x7_1 ∧ v8 = .int .i64 x8_1 ∧ Aside0 (spec_randomImage.l0 kq t350 x7_1 x8_1 s0_0 x1001_1 t343 t344 t345 x350003_1 = some (r1, r2, r3, r4, r5)) ∧ Aside0 (kq ≤ k) ∧ Aside0 (Kd.R (Kd.int .i64) 3 w' w.heap.size (fun _ => True) u350003 x350003_1) ∧ Aside0 (w'.heap[gb332]? = some (.cells #[.int .i64 0, .int .i64 0, .int .i64 0, (.slice none 0 0)] 27 (0, 0))) ∧ Aside0 (w'.heap[gb349]? = some (.cells #[.int .i64 t343, .int .i64 t344, .int .i64 t345, u350003] 27 (0, 0))) ∧ Aside0 (IsS67 w0 w' g s0_0 x1001_1) ∧ Aside0 (KeepBut w w' g none) ∧ Aside0 (Below w0.heap.size w0 w'))
  case atStart => exact ⟨(t352), (0), (t353), (t346), (.slice Ao22 t346.length co22), (by first | rfl | (simp; done) | (simp [*]; done)), (by first | rfl | (simp; done) | (simp [*]; done)), H', ⟨Nat.le_refl _⟩, ⟨B.kr0 (Kd.R_mono HO348.out (fun _ hk => trivial))⟩, ⟨B.kb BK332⟩, ⟨B.kb BK349⟩, ⟨B.st HI0⟩, ⟨B.kk HK⟩, ⟨B.bs HB⟩⟩
  case round =>
    clear H'
    try clear c1
    try clear c2
    try clear p2
    try clear c4
    try clear c5
    try clear c6
    try clear c19
    try clear c20
    try clear hcz21_0
    try clear hcz21_1
    try clear hcz21_2
    try clear hcz21_3
    try clear hfz21_0
    try clear hfz21_1
    try clear hfz21_2
    try clear hfz21_3
    obtain ⟨x7_1, x8_1, x1001_1, x350003_1, u350003, rfl, rfl, HA, HK1, HO_350003, BK332, BK349, HI0, HK, HB⟩ := hrel
    cases gk with
    | zero => exact absurd HA.out (by simp [spec_randomImage.l0])
    | succ k1 =>
      have H := HA.out
      clear HA
      simp only [spec_randomImage.l0] at H
      by_cases c25 : x8_1 < (x350003_1.length : Int)
      · rw [if_pos c25] at H
        have c25b0 : decide (x8_1 < (x350003_1.length : Int)) = true := decide_eq_true c25
        clear c25
        by_cases c26 : t350 = 0
        · rw [if_pos c26] at H
          have c26b0 : (t350 == 0) = true := beq_iff_eq.mpr c26
          have c26b1 : (t350 != 0) = false := bne_eq_false_iff_eq.mpr c26
          clear c26
          replace H := Option.bind_eq_some_iff.mp H
          obtain ⟨⟨t354, t355⟩, A270, H⟩ := H
          replace H : (if 0 ≤ x8_1 then (spec_randomImage.l0 k1 t350 t354 (wrap64 (x8_1 + 1)) s0_0 t355 t343 t344 t345 (x350003_1.set (x8_1 : Int).toNat t354)) else (none)) = some (r1, r2, r3, r4, r5) := H
          have A27 := Aside0.mk A270
          clear A270
          by_cases c28 : 0 ≤ x8_1
          · rw [if_pos c28] at H
            have c28b0 : decide (0 ≤ x8_1) = true := decide_eq_true c28
            clear c28
            obtain ⟨y356, hy356⟩ : ∃ y_ : List Int, y_ = (x350003_1.set (x8_1 : Int).toNat t354) := ⟨_, rfl⟩
            replace H : (spec_randomImage.l0 k1 t350 t354 (wrap64 (x8_1 + 1)) s0_0 t355 t343 t344 t345 y356) = some (r1, r2, r3, r4, r5) := by first | (rw [hy356]; with_reducible exact H) | (have H2_ := (Option.bind_some _ _).symm.trans H; rw [hy356]; with_reducible exact H2_) | (have H2_ := (Option.bind_some _ _).symm.trans H; with_reducible exact H2_) | with_reducible exact H | (rw [hy356]; exact H) | exact H
            have Ny356 := Aside0.mk hy356
            clear hy356
            have H' := Aside0.mk H
            clear H
            have hnb30 := NB349_332.out
            have hnc30 := NB332_349.out
            have hnb31 := NB349_0.out
            have hnc31 := NB0_349.out
            have hcz32_0 : wr.cell? ⟨gb349, 0, none⟩ = some (.int .i64 t343) := B.bc BK349 0
            have hcz32_1 : wr.cell? ⟨gb349, 1, none⟩ = some (.int .i64 t344) := B.bc BK349 1
            have hcz32_2 : wr.cell? ⟨gb349, 2, none⟩ = some (.int .i64 t345) := B.bc BK349 2
            have hcz32_3 : wr.cell? ⟨gb349, 3, none⟩ = some (u350003) := B.bc BK349 3
            have hfz32_0 := blk_frozen BK349.out 0
            have hfz32_1 := blk_frozen BK349.out 1
            have hfz32_2 := blk_frozen BK349.out 2
            have hfz32_3 := blk_frozen BK349.out 3
            obtain ⟨Ao33, co33, eo33⟩ := Kd.R_slice HO_350003.out
            subst eo33
            go_wp2_with (first | ((with_reducible refine gate_callee (f := 54) rfl ?_); refine goesL_ (some 32) rfl rfl Try.func54 (by kernel_rfl) rfl #[.pointer (some ⟨g, 0, none⟩), .int .i64 256] rfl B.am ?_; (with_reducible refine (spec_reader_pick.calls k1 g s0_0 x1001_1 256 t354 t355 w0 _ ?side1 ?side2 A27.out).mono ?_); (case side1 => exact B.st HI0); (case side2 => exact B.bs HB); rintro e w34 ⟨rfl, hi, hb, hk⟩; refine ⟨_, rfl, ?_⟩; have n0_ := Aside0.mk (Kd.R_mono (Kd.R_keep (IsS67.apart (show IsS67 w0 _ g s0_0 x1001_1 from B.st HI0) (B.kr HO_350003) (by decide)) hk (fun _ h => h.2)) (fun _ h => h.1)); have n1_ := Aside0.mk (KeepBut.blk hk (g' := gb332) (o := .cells #[.int .i64 0, .int .i64 0, .int .i64 0, .slice none 0 0] 27 (0, 0)) (B.kb BK332) NB332_0.out (by simp)); have n2_ := Aside0.mk (KeepBut.blk hk (g' := gb349) (o := .cells #[.int .i64 t343, .int .i64 t344, .int .i64 t345, .slice Ao33 x350003_1.length co33] 27 (0, 0)) (B.kb BK349) NB349_0.out (by simp)); have n3_ := Aside0.mk (KeepBut.trans (B.kk HK) hk (.inl rfl)); have n4_ := Aside0.mk (hb); have n5_ := Aside0.mk (hi); clear HO_350003 BK332 BK349 HK HB HI0; have HO_350003 := n0_; have BK332 := n1_; have BK349 := n2_; have HK := n3_; have HB := n4_; have HI0 := n5_; clear n0_ n1_ n2_ n3_ n4_ n5_; (try clear hb); (try clear hb2); (try clear hk); (try clear hi); have hcz35_0 : w34.cell? ⟨gb349, 0, none⟩ = some (.int .i64 t343) := B.bc BK349 0; have hcz35_1 : w34.cell? ⟨gb349, 1, none⟩ = some (.int .i64 t344) := B.bc BK349 1; have hcz35_2 : w34.cell? ⟨gb349, 2, none⟩ = some (.int .i64 t345) := B.bc BK349 2; have hcz35_3 : w34.cell? ⟨gb349, 3, none⟩ = some (.slice Ao33 x350003_1.length co33) := B.bc BK349 3; have hfz35_0 := blk_frozen BK349.out 0; have hfz35_1 := blk_frozen BK349.out 1; have hfz35_2 := blk_frozen BK349.out 2; have hfz35_3 := blk_frozen BK349.out 3; have p29 : 0 ≤ (x8_1 : Int) := of_decide_eq_true (by first | (with_reducible assumption) | assumption); have q29 : (x8_1 : Int) < ((x350003_1.length : Int) : Int) := of_decide_eq_true (by first | (with_reducible assumption) | assumption); obtain ⟨go29, co29, eo29, gb29, gl29, cl29, HG29⟩ := Kd.R_form HO_350003.out (by omega); (first | cases eo29 | (injection eo29 with ea_ en_ ec_; (first | subst ea_ | (injection ea_ with ea_; subst ea_)); subst ec_; clear en_)); have GB29 := Aside0.mk gb29; have GG29 := Aside0.mk HG29; clear gb29 gl29 HG29; obtain ⟨hx29_0, hf29_0⟩ := Kd.R_celln 0 HO_350003.out (x8_1 : Int) p29 q29; replace p29 := eq_true p29; replace q29 := eq_true q29; obtain ⟨hy36_, hz36_⟩ := Kd.R_celln 0 HO_350003.out (x8_1 : Int) (of_decide_eq_true (by first | (with_reducible assumption) | assumption)) (of_decide_eq_true (by first | (with_reducible assumption) | assumption)); have HP36 := Kd.R_putg HO_350003.out (x8_1 : Int) t354) | ((with_reducible refine gate_store (t := 3) (p := 50) rfl ?_); refine store_event (t := 3) (p := 50) (v := ?vo_w37) (w1 := (w34.setCell ⟨go29, (x8_1 : Int).toNat, none⟩ (.int .i64 t354))) ?hg ?ho ?hn ?hr ?_; (case ho => rfl); (case hg => rfl); (case hn => rfl); (case hr => first | (go_simp; done) | (go_simp; rfl)); intro w37 hw; have hg : w34.grownBy w37 (some go29) := (by rw [hw]; exact HP36.2); have hp_ : Kd.R (Kd.int .i64) 3 w37 w.heap.size (fun _ => True) (.slice (some ⟨go29, 0, none⟩) x350003_1.length co33) y356 := (by rw [hw, Ny356.out]; exact HP36.1); clear HP36; have n0_ := Aside0.mk (hp_); have n1_ := Aside0.mk (blk_grown (g := gb332) (o := .cells #[.int .i64 0, .int .i64 0, .int .i64 0, .slice none 0 0] 27 (0, 0)) (B.kb BK332) hg (Kd.R_ne HO_350003.out BK332.out (by decide))); have n2_ := Aside0.mk (blk_grown (g := gb349) (o := .cells #[.int .i64 t343, .int .i64 t344, .int .i64 t345, .slice (some ⟨go29, 0, none⟩) x350003_1.length co33] 27 (0, 0)) (B.kb BK349) hg (Kd.R_ne HO_350003.out BK349.out (by decide))); have n3_ := Aside0.mk (IsS67.grown (B.st HI0) hg (IsS67.own_ne HI0.out HO_350003.out (by decide))); have n4_ := Aside0.mk ((by rw [hw]; exact below_set (HB.out) (Nat.le_trans HL.out GB29.out) : Below w0.heap.size w0 w37)); have n5_ := Aside0.mk (KeepBut.trans (B.kk HK) (KeepBut.of_grown hg g) (Kd.R_base2 HO_350003.out)); clear HO_350003 BK332 BK349 HI0 HB HK; have HO_350003 := n0_; have BK332 := n1_; have BK349 := n2_; have HI0 := n3_; have HB := n4_; have HK := n5_; clear n0_ n1_ n2_ n3_ n4_ n5_; clear hg hw hp_))
            go_roundg k1
            case measure => have := HK1.out; omega
            case rel => exact ⟨(t354), (wrap64 (x8_1 + 1)), (t355), (y356), (.slice (some ⟨go29, 0, none⟩) x350003_1.length co33), (by first | rfl | (simp; done) | (simp [*]; done)), (by first | rfl | (simp; done) | (simp [*]; done)), H', ⟨by have := HK1.out; omega⟩, ⟨B.kr HO_350003⟩, ⟨B.kb BK332⟩, ⟨B.kb BK349⟩, ⟨B.st HI0⟩, ⟨B.kk HK⟩, ⟨B.bs HB⟩⟩
          rw [if_neg c28] at H
          exact absurd H (by simp)
        rw [if_neg c26] at H
        have c26b0 : (t350 == 0) = false := beq_eq_false_iff_ne.mpr c26
        have c26b1 : (t350 != 0) = true := bne_iff_ne.mpr c26
        by_cases c38 : t350 = 1
        · rw [if_pos c38] at H
          have c38b0 : (t350 == 1) = true := beq_iff_eq.mpr c38
          have c38b1 : (t350 != 1) = false := bne_eq_false_iff_eq.mpr c38
          clear c38
          replace H := Option.bind_eq_some_iff.mp H
          obtain ⟨⟨t357, t358⟩, A390, H⟩ := H
          replace H : (if 0 ≤ x8_1 then (spec_randomImage.l0 k1 t350 (Int.tmod (wrap64 ((wrap64 (x7_1 + t357)) + 254)) 256) (wrap64 (x8_1 + 1)) s0_0 t358 t343 t344 t345 (x350003_1.set (x8_1 : Int).toNat (Int.tmod (wrap64 ((wrap64 (x7_1 + t357)) + 254)) 256))) else (none)) = some (r1, r2, r3, r4, r5) := H
          have A39 := Aside0.mk A390
          clear A390
          by_cases c40 : 0 ≤ x8_1
          · rw [if_pos c40] at H
            have c40b0 : decide (0 ≤ x8_1) = true := decide_eq_true c40
            clear c40
            obtain ⟨y359, hy359⟩ : ∃ y_ : List Int, y_ = (x350003_1.set (x8_1 : Int).toNat (Int.tmod (wrap64 ((wrap64 (x7_1 + t357)) + 254)) 256)) := ⟨_, rfl⟩
            replace H : (spec_randomImage.l0 k1 t350 (Int.tmod (wrap64 ((wrap64 (x7_1 + t357)) + 254)) 256) (wrap64 (x8_1 + 1)) s0_0 t358 t343 t344 t345 y359) = some (r1, r2, r3, r4, r5) := by first | (rw [hy359]; with_reducible exact H) | (have H2_ := (Option.bind_some _ _).symm.trans H; rw [hy359]; with_reducible exact H2_) | (have H2_ := (Option.bind_some _ _).symm.trans H; with_reducible exact H2_) | with_reducible exact H | (rw [hy359]; exact H) | exact H
            have Ny359 := Aside0.mk hy359
            clear hy359
            have H' := Aside0.mk H
            clear H
            have hnb42 := NB349_332.out
            have hnc42 := NB332_349.out
            have hnb43 := NB349_0.out
            have hnc43 := NB0_349.out
            have hcz44_0 : wr.cell? ⟨gb349, 0, none⟩ = some (.int .i64 t343) := B.bc BK349 0
            have hcz44_1 : wr.cell? ⟨gb349, 1, none⟩ = some (.int .i64 t344) := B.bc BK349 1
            have hcz44_2 : wr.cell? ⟨gb349, 2, none⟩ = some (.int .i64 t345) := B.bc BK349 2
            have hcz44_3 : wr.cell? ⟨gb349, 3, none⟩ = some (u350003) := B.bc BK349 3
            have hfz44_0 := blk_frozen BK349.out 0
            have hfz44_1 := blk_frozen BK349.out 1
            have hfz44_2 := blk_frozen BK349.out 2
            have hfz44_3 := blk_frozen BK349.out 3
            obtain ⟨Ao45, co45, eo45⟩ := Kd.R_slice HO_350003.out
            subst eo45
            go_wp2_with (first | ((with_reducible refine gate_callee (f := 54) rfl ?_); refine goesL_ (some 37) rfl rfl Try.func54 (by kernel_rfl) rfl #[.pointer (some ⟨g, 0, none⟩), .int .i64 5] rfl B.am ?_; (with_reducible refine (spec_reader_pick.calls k1 g s0_0 x1001_1 5 t357 t358 w0 _ ?side1 ?side2 A39.out).mono ?_); (case side1 => exact B.st HI0); (case side2 => exact B.bs HB); rintro e w46 ⟨rfl, hi, hb, hk⟩; refine ⟨_, rfl, ?_⟩; have n0_ := Aside0.mk (Kd.R_mono (Kd.R_keep (IsS67.apart (show IsS67 w0 _ g s0_0 x1001_1 from B.st HI0) (B.kr HO_350003) (by decide)) hk (fun _ h => h.2)) (fun _ h => h.1)); have n1_ := Aside0.mk (KeepBut.blk hk (g' := gb332) (o := .cells #[.int .i64 0, .int .i64 0, .int .i64 0, .slice none 0 0] 27 (0, 0)) (B.kb BK332) NB332_0.out (by simp)); have n2_ := Aside0.mk (KeepBut.blk hk (g' := gb349) (o := .cells #[.int .i64 t343, .int .i64 t344, .int .i64 t345, .slice Ao45 x350003_1.length co45] 27 (0, 0)) (B.kb BK349) NB349_0.out (by simp)); have n3_ := Aside0.mk (KeepBut.trans (B.kk HK) hk (.inl rfl)); have n4_ := Aside0.mk (hb); have n5_ := Aside0.mk (hi); clear HO_350003 BK332 BK349 HK HB HI0; have HO_350003 := n0_; have BK332 := n1_; have BK349 := n2_; have HK := n3_; have HB := n4_; have HI0 := n5_; clear n0_ n1_ n2_ n3_ n4_ n5_; (try clear hb); (try clear hb2); (try clear hk); (try clear hi); have hcz47_0 : w46.cell? ⟨gb349, 0, none⟩ = some (.int .i64 t343) := B.bc BK349 0; have hcz47_1 : w46.cell? ⟨gb349, 1, none⟩ = some (.int .i64 t344) := B.bc BK349 1; have hcz47_2 : w46.cell? ⟨gb349, 2, none⟩ = some (.int .i64 t345) := B.bc BK349 2; have hcz47_3 : w46.cell? ⟨gb349, 3, none⟩ = some (.slice Ao45 x350003_1.length co45) := B.bc BK349 3; have hfz47_0 := blk_frozen BK349.out 0; have hfz47_1 := blk_frozen BK349.out 1; have hfz47_2 := blk_frozen BK349.out 2; have hfz47_3 := blk_frozen BK349.out 3; have p41 : 0 ≤ (x8_1 : Int) := of_decide_eq_true (by first | (with_reducible assumption) | assumption); have q41 : (x8_1 : Int) < ((x350003_1.length : Int) : Int) := of_decide_eq_true (by first | (with_reducible assumption) | assumption); obtain ⟨go41, co41, eo41, gb41, gl41, cl41, HG41⟩ := Kd.R_form HO_350003.out (by omega); (first | cases eo41 | (injection eo41 with ea_ en_ ec_; (first | subst ea_ | (injection ea_ with ea_; subst ea_)); subst ec_; clear en_)); have GB41 := Aside0.mk gb41; have GG41 := Aside0.mk HG41; clear gb41 gl41 HG41; obtain ⟨hx41_0, hf41_0⟩ := Kd.R_celln 0 HO_350003.out (x8_1 : Int) p41 q41; replace p41 := eq_true p41; replace q41 := eq_true q41; obtain ⟨hy48_, hz48_⟩ := Kd.R_celln 0 HO_350003.out (x8_1 : Int) (of_decide_eq_true (by first | (with_reducible assumption) | assumption)) (of_decide_eq_true (by first | (with_reducible assumption) | assumption)); have HP48 := Kd.R_putg HO_350003.out (x8_1 : Int) (Int.tmod (wrap64 ((wrap64 (x7_1 + t357)) + 254)) 256)) | ((with_reducible refine gate_store (t := 3) (p := 50) rfl ?_); refine store_event (t := 3) (p := 50) (v := ?vo_w49) (w1 := (w46.setCell ⟨go41, (x8_1 : Int).toNat, none⟩ (.int .i64 (Int.tmod (wrap64 ((wrap64 (x7_1 + t357)) + 254)) 256)))) ?hg ?ho ?hn ?hr ?_; (case ho => rfl); (case hg => rfl); (case hn => rfl); (case hr => first | (go_simp; done) | (go_simp; rfl)); intro w49 hw; have hg : w46.grownBy w49 (some go41) := (by rw [hw]; exact HP48.2); have hp_ : Kd.R (Kd.int .i64) 3 w49 w.heap.size (fun _ => True) (.slice (some ⟨go41, 0, none⟩) x350003_1.length co45) y359 := (by rw [hw, Ny359.out]; exact HP48.1); clear HP48; have n0_ := Aside0.mk (hp_); have n1_ := Aside0.mk (blk_grown (g := gb332) (o := .cells #[.int .i64 0, .int .i64 0, .int .i64 0, .slice none 0 0] 27 (0, 0)) (B.kb BK332) hg (Kd.R_ne HO_350003.out BK332.out (by decide))); have n2_ := Aside0.mk (blk_grown (g := gb349) (o := .cells #[.int .i64 t343, .int .i64 t344, .int .i64 t345, .slice (some ⟨go41, 0, none⟩) x350003_1.length co45] 27 (0, 0)) (B.kb BK349) hg (Kd.R_ne HO_350003.out BK349.out (by decide))); have n3_ := Aside0.mk (IsS67.grown (B.st HI0) hg (IsS67.own_ne HI0.out HO_350003.out (by decide))); have n4_ := Aside0.mk ((by rw [hw]; exact below_set (HB.out) (Nat.le_trans HL.out GB41.out) : Below w0.heap.size w0 w49)); have n5_ := Aside0.mk (KeepBut.trans (B.kk HK) (KeepBut.of_grown hg g) (Kd.R_base2 HO_350003.out)); clear HO_350003 BK332 BK349 HI0 HB HK; have HO_350003 := n0_; have BK332 := n1_; have BK349 := n2_; have HI0 := n3_; have HB := n4_; have HK := n5_; clear n0_ n1_ n2_ n3_ n4_ n5_; clear hg hw hp_))
            go_roundg k1
            case measure => have := HK1.out; omega
            case rel => exact ⟨(Int.tmod (wrap64 ((wrap64 (x7_1 + t357)) + 254)) 256), (wrap64 (x8_1 + 1)), (t358), (y359), (.slice (some ⟨go41, 0, none⟩) x350003_1.length co45), (by first | rfl | (simp; done) | (simp [*]; done)), (by first | rfl | (simp; done) | (simp [*]; done)), H', ⟨by have := HK1.out; omega⟩, ⟨B.kr HO_350003⟩, ⟨B.kb BK332⟩, ⟨B.kb BK349⟩, ⟨B.st HI0⟩, ⟨B.kk HK⟩, ⟨B.bs HB⟩⟩
          rw [if_neg c40] at H
          exact absurd H (by simp)
        rw [if_neg c38] at H
        have c38b0 : (t350 == 1) = false := beq_eq_false_iff_ne.mpr c38
        have c38b1 : (t350 != 1) = true := bne_iff_ne.mpr c38
        by_cases c50 : t350 = 2
        · rw [if_pos c50] at H
          have c50b0 : (t350 == 2) = true := beq_iff_eq.mpr c50
          have c50b1 : (t350 != 2) = false := bne_eq_false_iff_eq.mpr c50
          clear c50
          replace H := Option.bind_eq_some_iff.mp H
          obtain ⟨⟨t360, t361⟩, A510, H⟩ := H
          replace H : (if 0 ≤ x8_1 then (spec_randomImage.l0 k1 t350 (wrap64 (60 * t360)) (wrap64 (x8_1 + 1)) s0_0 t361 t343 t344 t345 (x350003_1.set (x8_1 : Int).toNat (wrap64 (60 * t360)))) else (none)) = some (r1, r2, r3, r4, r5) := H
          have A51 := Aside0.mk A510
          clear A510
          by_cases c52 : 0 ≤ x8_1
          · rw [if_pos c52] at H
            have c52b0 : decide (0 ≤ x8_1) = true := decide_eq_true c52
            clear c52
            obtain ⟨y362, hy362⟩ : ∃ y_ : List Int, y_ = (x350003_1.set (x8_1 : Int).toNat (wrap64 (60 * t360))) := ⟨_, rfl⟩
            replace H : (spec_randomImage.l0 k1 t350 (wrap64 (60 * t360)) (wrap64 (x8_1 + 1)) s0_0 t361 t343 t344 t345 y362) = some (r1, r2, r3, r4, r5) := by first | (rw [hy362]; with_reducible exact H) | (have H2_ := (Option.bind_some _ _).symm.trans H; rw [hy362]; with_reducible exact H2_) | (have H2_ := (Option.bind_some _ _).symm.trans H; with_reducible exact H2_) | with_reducible exact H | (rw [hy362]; exact H) | exact H
            have Ny362 := Aside0.mk hy362
            clear hy362
            have H' := Aside0.mk H
            clear H
            have hnb54 := NB349_332.out
            have hnc54 := NB332_349.out
            have hnb55 := NB349_0.out
            have hnc55 := NB0_349.out
            have hcz56_0 : wr.cell? ⟨gb349, 0, none⟩ = some (.int .i64 t343) := B.bc BK349 0
            have hcz56_1 : wr.cell? ⟨gb349, 1, none⟩ = some (.int .i64 t344) := B.bc BK349 1
            have hcz56_2 : wr.cell? ⟨gb349, 2, none⟩ = some (.int .i64 t345) := B.bc BK349 2
            have hcz56_3 : wr.cell? ⟨gb349, 3, none⟩ = some (u350003) := B.bc BK349 3
            have hfz56_0 := blk_frozen BK349.out 0
            have hfz56_1 := blk_frozen BK349.out 1
            have hfz56_2 := blk_frozen BK349.out 2
            have hfz56_3 := blk_frozen BK349.out 3
            obtain ⟨Ao57, co57, eo57⟩ := Kd.R_slice HO_350003.out
            subst eo57
            go_wp2_with (first | ((with_reducible refine gate_callee (f := 54) rfl ?_); refine goesL_ (some 44) rfl rfl Try.func54 (by kernel_rfl) rfl #[.pointer (some ⟨g, 0, none⟩), .int .i64 4] rfl B.am ?_; (with_reducible refine (spec_reader_pick.calls k1 g s0_0 x1001_1 4 t360 t361 w0 _ ?side1 ?side2 A51.out).mono ?_); (case side1 => exact B.st HI0); (case side2 => exact B.bs HB); rintro e w58 ⟨rfl, hi, hb, hk⟩; refine ⟨_, rfl, ?_⟩; have n0_ := Aside0.mk (Kd.R_mono (Kd.R_keep (IsS67.apart (show IsS67 w0 _ g s0_0 x1001_1 from B.st HI0) (B.kr HO_350003) (by decide)) hk (fun _ h => h.2)) (fun _ h => h.1)); have n1_ := Aside0.mk (KeepBut.blk hk (g' := gb332) (o := .cells #[.int .i64 0, .int .i64 0, .int .i64 0, .slice none 0 0] 27 (0, 0)) (B.kb BK332) NB332_0.out (by simp)); have n2_ := Aside0.mk (KeepBut.blk hk (g' := gb349) (o := .cells #[.int .i64 t343, .int .i64 t344, .int .i64 t345, .slice Ao57 x350003_1.length co57] 27 (0, 0)) (B.kb BK349) NB349_0.out (by simp)); have n3_ := Aside0.mk (KeepBut.trans (B.kk HK) hk (.inl rfl)); have n4_ := Aside0.mk (hb); have n5_ := Aside0.mk (hi); clear HO_350003 BK332 BK349 HK HB HI0; have HO_350003 := n0_; have BK332 := n1_; have BK349 := n2_; have HK := n3_; have HB := n4_; have HI0 := n5_; clear n0_ n1_ n2_ n3_ n4_ n5_; (try clear hb); (try clear hb2); (try clear hk); (try clear hi); have hcz59_0 : w58.cell? ⟨gb349, 0, none⟩ = some (.int .i64 t343) := B.bc BK349 0; have hcz59_1 : w58.cell? ⟨gb349, 1, none⟩ = some (.int .i64 t344) := B.bc BK349 1; have hcz59_2 : w58.cell? ⟨gb349, 2, none⟩ = some (.int .i64 t345) := B.bc BK349 2; have hcz59_3 : w58.cell? ⟨gb349, 3, none⟩ = some (.slice Ao57 x350003_1.length co57) := B.bc BK349 3; have hfz59_0 := blk_frozen BK349.out 0; have hfz59_1 := blk_frozen BK349.out 1; have hfz59_2 := blk_frozen BK349.out 2; have hfz59_3 := blk_frozen BK349.out 3; have p53 : 0 ≤ (x8_1 : Int) := of_decide_eq_true (by first | (with_reducible assumption) | assumption); have q53 : (x8_1 : Int) < ((x350003_1.length : Int) : Int) := of_decide_eq_true (by first | (with_reducible assumption) | assumption); obtain ⟨go53, co53, eo53, gb53, gl53, cl53, HG53⟩ := Kd.R_form HO_350003.out (by omega); (first | cases eo53 | (injection eo53 with ea_ en_ ec_; (first | subst ea_ | (injection ea_ with ea_; subst ea_)); subst ec_; clear en_)); have GB53 := Aside0.mk gb53; have GG53 := Aside0.mk HG53; clear gb53 gl53 HG53; obtain ⟨hx53_0, hf53_0⟩ := Kd.R_celln 0 HO_350003.out (x8_1 : Int) p53 q53; replace p53 := eq_true p53; replace q53 := eq_true q53; obtain ⟨hy60_, hz60_⟩ := Kd.R_celln 0 HO_350003.out (x8_1 : Int) (of_decide_eq_true (by first | (with_reducible assumption) | assumption)) (of_decide_eq_true (by first | (with_reducible assumption) | assumption)); have HP60 := Kd.R_putg HO_350003.out (x8_1 : Int) (wrap64 (60 * t360))) | ((with_reducible refine gate_store (t := 3) (p := 50) rfl ?_); refine store_event (t := 3) (p := 50) (v := ?vo_w61) (w1 := (w58.setCell ⟨go53, (x8_1 : Int).toNat, none⟩ (.int .i64 (wrap64 (60 * t360))))) ?hg ?ho ?hn ?hr ?_; (case ho => rfl); (case hg => rfl); (case hn => rfl); (case hr => first | (go_simp; done) | (go_simp; rfl)); intro w61 hw; have hg : w58.grownBy w61 (some go53) := (by rw [hw]; exact HP60.2); have hp_ : Kd.R (Kd.int .i64) 3 w61 w.heap.size (fun _ => True) (.slice (some ⟨go53, 0, none⟩) x350003_1.length co57) y362 := (by rw [hw, Ny362.out]; exact HP60.1); clear HP60; have n0_ := Aside0.mk (hp_); have n1_ := Aside0.mk (blk_grown (g := gb332) (o := .cells #[.int .i64 0, .int .i64 0, .int .i64 0, .slice none 0 0] 27 (0, 0)) (B.kb BK332) hg (Kd.R_ne HO_350003.out BK332.out (by decide))); have n2_ := Aside0.mk (blk_grown (g := gb349) (o := .cells #[.int .i64 t343, .int .i64 t344, .int .i64 t345, .slice (some ⟨go53, 0, none⟩) x350003_1.length co57] 27 (0, 0)) (B.kb BK349) hg (Kd.R_ne HO_350003.out BK349.out (by decide))); have n3_ := Aside0.mk (IsS67.grown (B.st HI0) hg (IsS67.own_ne HI0.out HO_350003.out (by decide))); have n4_ := Aside0.mk ((by rw [hw]; exact below_set (HB.out) (Nat.le_trans HL.out GB53.out) : Below w0.heap.size w0 w61)); have n5_ := Aside0.mk (KeepBut.trans (B.kk HK) (KeepBut.of_grown hg g) (Kd.R_base2 HO_350003.out)); clear HO_350003 BK332 BK349 HI0 HB HK; have HO_350003 := n0_; have BK332 := n1_; have BK349 := n2_; have HI0 := n3_; have HB := n4_; have HK := n5_; clear n0_ n1_ n2_ n3_ n4_ n5_; clear hg hw hp_))
            go_roundg k1
            case measure => have := HK1.out; omega
            case rel => exact ⟨(wrap64 (60 * t360)), (wrap64 (x8_1 + 1)), (t361), (y362), (.slice (some ⟨go53, 0, none⟩) x350003_1.length co57), (by first | rfl | (simp; done) | (simp [*]; done)), (by first | rfl | (simp; done) | (simp [*]; done)), H', ⟨by have := HK1.out; omega⟩, ⟨B.kr HO_350003⟩, ⟨B.kb BK332⟩, ⟨B.kb BK349⟩, ⟨B.st HI0⟩, ⟨B.kk HK⟩, ⟨B.bs HB⟩⟩
          rw [if_neg c52] at H
          exact absurd H (by simp)
        rw [if_neg c50] at H
        have c50b0 : (t350 == 2) = false := beq_eq_false_iff_ne.mpr c50
        have c50b1 : (t350 != 2) = true := bne_iff_ne.mpr c50
        by_cases c62 : 0 ≤ x8_1
        · rw [if_pos c62] at H
          have c62b0 : decide (0 ≤ x8_1) = true := decide_eq_true c62
          clear c62
          obtain ⟨y363, hy363⟩ : ∃ y_ : List Int, y_ = (x350003_1.set (x8_1 : Int).toNat x7_1) := ⟨_, rfl⟩
          replace H : (spec_randomImage.l0 k1 t350 x7_1 (wrap64 (x8_1 + 1)) s0_0 x1001_1 t343 t344 t345 y363) = some (r1, r2, r3, r4, r5) := by first | (rw [hy363]; with_reducible exact H) | (have H2_ := (Option.bind_some _ _).symm.trans H; rw [hy363]; with_reducible exact H2_) | (have H2_ := (Option.bind_some _ _).symm.trans H; with_reducible exact H2_) | with_reducible exact H | (rw [hy363]; exact H) | exact H
          have Ny363 := Aside0.mk hy363
          clear hy363
          have H' := Aside0.mk H
          clear H
          have hnb64 := NB349_332.out
          have hnc64 := NB332_349.out
          have hnb65 := NB349_0.out
          have hnc65 := NB0_349.out
          have hcz66_0 : wr.cell? ⟨gb349, 0, none⟩ = some (.int .i64 t343) := B.bc BK349 0
          have hcz66_1 : wr.cell? ⟨gb349, 1, none⟩ = some (.int .i64 t344) := B.bc BK349 1
          have hcz66_2 : wr.cell? ⟨gb349, 2, none⟩ = some (.int .i64 t345) := B.bc BK349 2
          have hcz66_3 : wr.cell? ⟨gb349, 3, none⟩ = some (u350003) := B.bc BK349 3
          have hfz66_0 := blk_frozen BK349.out 0
          have hfz66_1 := blk_frozen BK349.out 1
          have hfz66_2 := blk_frozen BK349.out 2
          have hfz66_3 := blk_frozen BK349.out 3
          obtain ⟨Ao67, co67, eo67⟩ := Kd.R_slice HO_350003.out
          subst eo67
          have p63 : 0 ≤ (x8_1 : Int) := of_decide_eq_true (by first | (with_reducible assumption) | assumption)
          have q63 : (x8_1 : Int) < ((x350003_1.length : Int) : Int) := of_decide_eq_true (by first | (with_reducible assumption) | assumption)
          obtain ⟨go63, co63, eo63, gb63, gl63, cl63, HG63⟩ := Kd.R_form HO_350003.out (by omega)
          (first | cases eo63 | (injection eo63 with ea_ en_ ec_; (first | subst ea_ | (injection ea_ with ea_; subst ea_)); subst ec_; clear en_))
          have GB63 := Aside0.mk gb63
          have GG63 := Aside0.mk HG63
          clear gb63 gl63 HG63
          obtain ⟨hx63_0, hf63_0⟩ := Kd.R_celln 0 HO_350003.out (x8_1 : Int) p63 q63
          replace p63 := eq_true p63
          replace q63 := eq_true q63
          have HP68 := Kd.R_putg HO_350003.out (x8_1 : Int) x7_1
          go_wp2_with (first | ((with_reducible refine gate_store (t := 3) (p := 50) rfl ?_); refine store_event (t := 3) (p := 50) (v := ?vo_w69) (w1 := (wr.setCell ⟨go63, (x8_1 : Int).toNat, none⟩ (.int .i64 x7_1))) ?hg ?ho ?hn ?hr ?_; (case ho => rfl); (case hg => rfl); (case hn => rfl); (case hr => first | (go_simp; done) | (go_simp; rfl)); intro w69 hw; have hg : wr.grownBy w69 (some go63) := (by rw [hw]; exact HP68.2); have hp_ : Kd.R (Kd.int .i64) 3 w69 w.heap.size (fun _ => True) (.slice (some ⟨go63, 0, none⟩) x350003_1.length co67) y363 := (by rw [hw, Ny363.out]; exact HP68.1); clear HP68; have n0_ := Aside0.mk (hp_); have n1_ := Aside0.mk (blk_grown (g := gb332) (o := .cells #[.int .i64 0, .int .i64 0, .int .i64 0, .slice none 0 0] 27 (0, 0)) (B.kb BK332) hg (Kd.R_ne HO_350003.out BK332.out (by decide))); have n2_ := Aside0.mk (blk_grown (g := gb349) (o := .cells #[.int .i64 t343, .int .i64 t344, .int .i64 t345, .slice (some ⟨go63, 0, none⟩) x350003_1.length co67] 27 (0, 0)) (B.kb BK349) hg (Kd.R_ne HO_350003.out BK349.out (by decide))); have n3_ := Aside0.mk (IsS67.grown (B.st HI0) hg (IsS67.own_ne HI0.out HO_350003.out (by decide))); have n4_ := Aside0.mk ((by rw [hw]; exact below_set (HB.out) (Nat.le_trans HL.out GB63.out) : Below w0.heap.size w0 w69)); have n5_ := Aside0.mk (KeepBut.trans (B.kk HK) (KeepBut.of_grown hg g) (Kd.R_base2 HO_350003.out)); clear HO_350003 BK332 BK349 HI0 HB HK; have HO_350003 := n0_; have BK332 := n1_; have BK349 := n2_; have HI0 := n3_; have HB := n4_; have HK := n5_; clear n0_ n1_ n2_ n3_ n4_ n5_; clear hg hw hp_))
          go_roundg k1
          case measure => have := HK1.out; omega
          case rel => exact ⟨(x7_1), (wrap64 (x8_1 + 1)), (x1001_1), (y363), (.slice (some ⟨go63, 0, none⟩) x350003_1.length co67), (by first | rfl | (simp; done) | (simp [*]; done)), (by first | rfl | (simp; done) | (simp [*]; done)), H', ⟨by have := HK1.out; omega⟩, ⟨B.kr HO_350003⟩, ⟨B.kb BK332⟩, ⟨B.kb BK349⟩, ⟨B.st HI0⟩, ⟨B.kk HK⟩, ⟨B.bs HB⟩⟩
        rw [if_neg c62] at H
        exact absurd H (by simp)
      rw [if_neg c25] at H
      have c25b0 : decide (x8_1 < (x350003_1.length : Int)) = false := decide_eq_false c25
      clear c25
      simp only [Option.some.injEq, Prod.mk.injEq] at H
      obtain ⟨rfl, rfl, rfl, rfl, rfl⟩ := H
      have hnb70 := NB349_332.out
      have hnc70 := NB332_349.out
      have hnb71 := NB349_0.out
      have hnc71 := NB0_349.out
      have hcz72_0 : wr.cell? ⟨gb349, 0, none⟩ = some (.int .i64 t343) := B.bc BK349 0
      have hcz72_1 : wr.cell? ⟨gb349, 1, none⟩ = some (.int .i64 t344) := B.bc BK349 1
      have hcz72_2 : wr.cell? ⟨gb349, 2, none⟩ = some (.int .i64 t345) := B.bc BK349 2
      have hcz72_3 : wr.cell? ⟨gb349, 3, none⟩ = some (u350003) := B.bc BK349 3
      have hfz72_0 := blk_frozen BK349.out 0
      have hfz72_1 := blk_frozen BK349.out 1
      have hfz72_2 := blk_frozen BK349.out 2
      have hfz72_3 := blk_frozen BK349.out 3
      obtain ⟨Ao73, co73, eo73⟩ := Kd.R_slice HO_350003.out
      subst eo73
      have hnb74 := NB332_0.out
      have hnc74 := NB0_332.out
      have hcz75_0 : wr.cell? ⟨gb332, 0, none⟩ = some (.int .i64 0) := B.bc BK332 0
      have hcz75_1 : wr.cell? ⟨gb332, 1, none⟩ = some (.int .i64 0) := B.bc BK332 1
      have hcz75_2 : wr.cell? ⟨gb332, 2, none⟩ = some (.int .i64 0) := B.bc BK332 2
      have hcz75_3 : wr.cell? ⟨gb332, 3, none⟩ = some (.slice none 0 0) := B.bc BK332 3
      have hfz75_0 := blk_frozen BK332.out 0
      have hfz75_1 := blk_frozen BK332.out 1
      have hfz75_2 := blk_frozen BK332.out 2
      have hfz75_3 := blk_frozen BK332.out 3
      go_wp2
      refine bodyPost_ret (results_cell_row rfl _ _ gb332 27 #[.int .i64 t343, .int .i64 t344, .int .i64 t345, .slice Ao73 x350003_1.length co73] (0, 0) _ rfl (B.kb0 (B.bp4 BK332)) Try.underlying27 rfl (by kernel_rfl)) rfl ?_
      exact ⟨_, by first | rfl | (simp [errW_none, errW_some] <;> rfl) | (simp [*, errW_none, errW_some] <;> rfl), by (with_reducible repeat (first | apply Kd.R_alloc | apply Kd.R_drewN | apply Kd.R_drew)); exact Kd.R_mono (B.rf4 HO_350003 BK332) (fun _ hk => trivial), B.st HI0, B.bs HB, B.kk HK⟩

/-! ### spec_anyPlanes: function 63 -/
def spec_anyPlanes.f (k : Nat) (s0_0 : List Int) (s0_1 : Int) : Option (Int × Int) := (spec_reader_one.f k s0_0 s0_1 (([1, 3, 1, 4, 2] : List Int))).bind fun bt367 => (some (bt367.1, bt367.2))
theorem spec_anyPlanes.mono : ∀ a0 a1 k, LeO (spec_anyPlanes.f k a0 a1) (spec_anyPlanes.f (k + 1) a0 a1) := by
  intro a0 a1 k
  unfold spec_anyPlanes.f
  repeat' first
      | (with_reducible exact spec_reader_one.mono _ _ _ _)
      | (with_reducible exact LeO.refl _)
      | (with_reducible exact LeO.none _)
      | (with_reducible refine LeO.ite ?_ ?_)
      | (with_reducible refine LeO.bind ?_ (fun _ => ?_))
      | exact spec_reader_one.mono _ _ _ _
      | exact LeO.none _
      | refine LeO.ite ?_ ?_
      | refine LeO.bind ?_ (fun _ => ?_)
set_option maxHeartbeats 8000000 in
set_option maxRecDepth 100000 in
theorem spec_anyPlanes.calls (k : Nat) (g : Nat) (s0_0 : List Int) (s0_1 : Int) (r1 : Int) (r2 : Int) (w0 w : World) (hI : IsS67 w0 w g s0_0 s0_1) (hB : Below w0.heap.size w0 w) (h : spec_anyPlanes.f k s0_0 s0_1 = some (r1, r2)) :
    Calls Try.prog 63 #[.pointer (some ⟨g, 0, none⟩)] w fun e w' => e = .returned (.int .i64 r1) ∧ IsS67 w0 w' g s0_0 r2 ∧ Below w0.heap.size w0 w' ∧ KeepBut w w' g none := by
  have HI0 := Aside0.mk hI
  have HK := Aside0.mk (KeepBut.refl w g none)
  have HL := Aside0.mk hB.size
  clear hI
  have HW0 := Aside0.mk hB.size
  have HB := Aside0.mk hB
  clear hB
  have H : ((spec_reader_one.f k s0_0 s0_1 (([1, 3, 1, 4, 2] : List Int))).bind fun bt367 => (some (bt367.1, bt367.2))) = some (r1, r2) := h
  clear h
  obtain ⟨y364, hy364⟩ : ∃ y_ : List Int, y_ = (([1, 3, 1, 4, 2] : List Int)) := ⟨_, rfl⟩
  replace H : ((spec_reader_one.f k s0_0 s0_1 y364).bind fun bt367 => (some (bt367.1, bt367.2))) = some (r1, r2) := by first | (rw [hy364]; with_reducible exact H) | (have H2_ := (Option.bind_some _ _).symm.trans H; rw [hy364]; with_reducible exact H2_) | (have H2_ := (Option.bind_some _ _).symm.trans H; with_reducible exact H2_) | with_reducible exact H | (rw [hy364]; exact H) | exact H
  have Ny364 := Aside0.mk hy364
  clear hy364
  replace H := Option.bind_eq_some_iff.mp H
  obtain ⟨⟨t367, t368⟩, A20, H⟩ := H
  replace H : (some (t367, t368)) = some (r1, r2) := H
  have A2 := Aside0.mk A20
  clear A20
  simp only [Option.some.injEq, Prod.mk.injEq] at H
  obtain ⟨rfl, rfl⟩ := H
  go_enter Try.func63, Try.ntmps63
  go_wp2_with (first | ((with_reducible refine gate_dst (N := 4) rfl ?_); refine Kd.R_lit (Kd.int .i64) _ 3 ?hg (N := 4) ?hd (xs := ([1, 3, 1, 4, 2] : List Int)) (inner := [.int .i64 1, .int .i64 3, .int .i64 1, .int .i64 4, .int .i64 2]) (ok := fun _ => True) (okp := fun _ => True) ?hr ?hp (fun _ hk => hk) trivial (Below.refl _ _) (Nat.le_refl _) (by simp) ?_; (case hd => rfl); (case hg => rfl); (case hr => first | (go_simp; done) | (go_simp; rfl)); (case hp => exact (Reps.one (show Kd.M (Kd.int .i64) _ _ _ 1 [.int .i64 1] from rfl) (Reps.one (show Kd.M (Kd.int .i64) _ _ _ 3 [.int .i64 3] from rfl) (Reps.one (show Kd.M (Kd.int .i64) _ _ _ 1 [.int .i64 1] from rfl) (Reps.one (show Kd.M (Kd.int .i64) _ _ _ 4 [.int .i64 4] from rfl) (Reps.one (show Kd.M (Kd.int .i64) _ _ _ 2 [.int .i64 2] from rfl) (Reps.none _ _))))))); intro v365 w3 ho4 hb hg_ hnew_; clear hg_ hnew_; (first | rw [← Ny364.out] at ho4 | (simp only [Int.reduceToNat] at ho4; rw [← Ny364.out] at ho4)); have n0_ := Aside0.mk (Kd.R_lower ho4 (keep_size (w := w) (g := g) (row := none) (B.kk HK))); have n1_ := Aside0.mk (IsS67.below (B.st HI0) hb); have n2_ := Aside0.mk (KeepBut.trans (B.kk HK) (KeepBut.of_below hb g none) (.inl rfl)); have n3_ := Aside0.mk (below_step (B.bs HB) hb); clear HI0 HK HB; have HO366 := n0_; have HI0 := n1_; have HK := n2_; have HB := n3_; clear n0_ n1_ n2_ n3_; clear hb ho4; obtain ⟨Ao5, co5, eo5⟩ := Kd.R_slice HO366.out; subst eo5) | ((with_reducible refine gate_callee (f := 64) rfl ?_); refine goesL_ (some 5) rfl rfl Try.func64 (by kernel_rfl) rfl #[.pointer (some ⟨g, 0, none⟩), .slice Ao5 y364.length co5] rfl B.am ?_; (with_reducible refine (spec_reader_one.calls k g s0_0 s0_1 _ _ y364 t367 t368 w0 _ ?side1 ?side2 ?side3 ?side4 ?side5 A2.out).mono ?_); (case side1 => exact B.st HI0); (case side2 => exact B.bs HB); (case side3 => exact B.kc ((Kd.R_reads' HO366.out).2.2)); (case side4 => exact (Kd.R_reads' HO366.out).2.1); (case side5 => exact far_slice (IsS67.own_ne HI0.out HO366.out (by decide))); rintro e w6 ⟨rfl, hi, hb, hk⟩; refine ⟨_, rfl, ?_⟩; have n0_ := Aside0.mk (Kd.R_mono (Kd.R_keep (IsS67.apart (show IsS67 w0 _ g s0_0 s0_1 from B.st HI0) (B.kr HO366) (by decide)) hk (fun _ h => h.2)) (fun _ h => h.1)); have n1_ := Aside0.mk (KeepBut.trans (B.kk HK) hk (.inl rfl)); have n2_ := Aside0.mk (hb); have n3_ := Aside0.mk (hi); clear HO366 HK HB HI0; have HO366 := n0_; have HK := n1_; have HB := n2_; have HI0 := n3_; clear n0_ n1_ n2_ n3_; (try clear hb); (try clear hb2); (try clear hk); (try clear hi)))
  go_ret
  exact ⟨by first | rfl | (simp [errW_none, errW_some] <;> rfl) | (simp [*, errW_none, errW_some] <;> rfl), B.st HI0, B.bs HB, B.kk HK⟩

/-! ### spec_anyImage: function 47 -/
def spec_anyImage.f (k : Nat) (s0_0 : List Int) (s0_1 : Int) : Option (Int × Int × Int × List Int × Int) := (spec_anyPlanes.f k s0_0 s0_1).bind fun bt370 => ((spec_randomImage.f k s0_0 bt370.2 bt370.1).bind fun bt372 => ((spec_spoilImage.f k s0_0 bt372.2.2.2.2 bt372.1 bt372.2.1 bt372.2.2.1 bt372.2.2.2.1).bind fun bt379 => (some (bt379.1, bt379.2.1, bt379.2.2.1, bt379.2.2.2.1, bt379.2.2.2.2))))
theorem spec_anyImage.mono : ∀ a0 a1 k, LeO (spec_anyImage.f k a0 a1) (spec_anyImage.f (k + 1) a0 a1) := by
  intro a0 a1 k
  unfold spec_anyImage.f
  repeat' first
      | (with_reducible exact spec_anyPlanes.mono _ _ _)
      | (with_reducible exact spec_randomImage.mono _ _ _ _)
      | (with_reducible exact spec_spoilImage.mono _ _ _ _ _ _ _)
      | (with_reducible exact LeO.refl _)
      | (with_reducible exact LeO.none _)
      | (with_reducible refine LeO.ite ?_ ?_)
      | (with_reducible refine LeO.bind ?_ (fun _ => ?_))
      | exact spec_anyPlanes.mono _ _ _
      | exact spec_randomImage.mono _ _ _ _
      | exact spec_spoilImage.mono _ _ _ _ _ _ _
      | exact LeO.none _
      | refine LeO.ite ?_ ?_
      | refine LeO.bind ?_ (fun _ => ?_)
set_option maxHeartbeats 8000000 in
set_option maxRecDepth 100000 in
theorem spec_anyImage.calls (k : Nat) (g : Nat) (s0_0 : List Int) (s0_1 : Int) (r1 : Int) (r2 : Int) (r3 : Int) (r4 : List Int) (r5 : Int) (w0 w : World) (hI : IsS67 w0 w g s0_0 s0_1) (hB : Below w0.heap.size w0 w) (h : spec_anyImage.f k s0_0 s0_1 = some (r1, r2, r3, r4, r5)) :
    Calls Try.prog 47 #[.pointer (some ⟨g, 0, none⟩)] w fun e w' => ∃ v3_ : Value, e = .returned (.agg #[.int .i64 r1, .int .i64 r2, .int .i64 r3, v3_]) ∧ Kd.Q (Kd.int .i64) 3 w' w.heap.size (fun _ => True) v3_ r4 ∧ IsS67 w0 w' g s0_0 r5 ∧ Below w0.heap.size w0 w' ∧ KeepBut w w' g none := by
  have hu27 := Try.underlying27
  have HI0 := Aside0.mk hI
  have HK := Aside0.mk (KeepBut.refl w g none)
  have HL := Aside0.mk hB.size
  clear hI
  have HW0 := Aside0.mk hB.size
  have HB := Aside0.mk hB
  clear hB
  have H : ((spec_anyPlanes.f k s0_0 s0_1).bind fun bt370 => ((spec_randomImage.f k s0_0 bt370.2 bt370.1).bind fun bt372 => ((spec_spoilImage.f k s0_0 bt372.2.2.2.2 bt372.1 bt372.2.1 bt372.2.2.1 bt372.2.2.2.1).bind fun bt379 => (some (bt379.1, bt379.2.1, bt379.2.2.1, bt379.2.2.2.1, bt379.2.2.2.2))))) = some (r1, r2, r3, r4, r5) := h
  clear h
  replace H := Option.bind_eq_some_iff.mp H
  obtain ⟨⟨t370, t371⟩, A20, H⟩ := H
  replace H : ((spec_randomImage.f k s0_0 t371 t370).bind fun bt372 => ((spec_spoilImage.f k s0_0 bt372.2.2.2.2 bt372.1 bt372.2.1 bt372.2.2.1 bt372.2.2.2.1).bind fun bt379 => (some (bt379.1, bt379.2.1, bt379.2.2.1, bt379.2.2.2.1, bt379.2.2.2.2)))) = some (r1, r2, r3, r4, r5) := H
  have A2 := Aside0.mk A20
  clear A20
  replace H := Option.bind_eq_some_iff.mp H
  obtain ⟨⟨t372, t373, t374, t375, t378⟩, A30, H⟩ := H
  replace H : ((spec_spoilImage.f k s0_0 t378 t372 t373 t374 t375).bind fun bt379 => (some (bt379.1, bt379.2.1, bt379.2.2.1, bt379.2.2.2.1, bt379.2.2.2.2))) = some (r1, r2, r3, r4, r5) := H
  have A3 := Aside0.mk A30
  clear A30
  replace H := Option.bind_eq_some_iff.mp H
  obtain ⟨⟨t379, t380, t381, t382, t385⟩, A40, H⟩ := H
  replace H : (some (t379, t380, t381, t382, t385)) = some (r1, r2, r3, r4, r5) := H
  have A4 := Aside0.mk A40
  clear A40
  simp only [Option.some.injEq, Prod.mk.injEq] at H
  obtain ⟨rfl, rfl, rfl, rfl, rfl⟩ := H
  go_enter Try.func47, Try.ntmps47
  go_wp2_with (first | ((with_reducible refine gate_dst (N := 2) rfl ?_); refine box_event ?hg (N := 2) ?hd (cs := #[.int .i64 0, .int .i64 0, .int .i64 0, .slice none 0 0]) (t := 27) ?hr ?_; (case hd => rfl); (case hg => rfl); (case hr => first | (go_simp; done) | (go_simp; rfl)); intro gb369 hg w5 hbox hb; have n0_ := Aside0.mk (IsS67.below (B.st HI0) hb); have n1_ := Aside0.mk (KeepBut.trans (B.kk HK) (KeepBut.of_below hb g none) (.inl rfl)); have n2_ := Aside0.mk (below_step (B.bs HB) hb); have n3_ := Aside0.mk (hbox); have n4_ := Aside0.mk ((by rw [hg]; exact (keep_size (w := w) (g := g) (row := none) (B.kk HK)) : w.heap.size ≤ gb369)); have n5_ := Aside0.mk ((Nat.le_trans HW0.out (by rw [hg]; exact (keep_size (w := w) (g := g) (row := none) (B.kk HK)) : w.heap.size ≤ gb369) : w0.heap.size ≤ gb369)); have n6_ := Aside0.mk ((by rw [hg]; exact Nat.ne_of_lt (IsS67.lt (show IsS67 w0 _ g s0_0 s0_1 from B.st HI0)) : g ≠ gb369)); have n7_ := Aside0.mk ((by rw [hg]; exact Nat.ne_of_gt (IsS67.lt (show IsS67 w0 _ g s0_0 s0_1 from B.st HI0)) : gb369 ≠ g)); clear HI0 HK HB; have HI0 := n0_; have HK := n1_; have HB := n2_; have BK369 := n3_; have GW369 := n4_; have GE369 := n5_; have NB0_369 := n6_; have NB369_0 := n7_; clear n0_ n1_ n2_ n3_ n4_ n5_ n6_ n7_; clear hb hbox hg) | ((with_reducible refine gate_callee (f := 63) rfl ?_); refine goesL_ (some 6) rfl rfl Try.func63 (by kernel_rfl) rfl #[.pointer (some ⟨g, 0, none⟩)] rfl B.am ?_; (with_reducible refine (spec_anyPlanes.calls k g s0_0 s0_1 t370 t371 w0 _ ?side1 ?side2 A2.out).mono ?_); (case side1 => exact B.st HI0); (case side2 => exact B.bs HB); rintro e w6 ⟨rfl, hi, hb, hk⟩; refine ⟨_, rfl, ?_⟩; have n0_ := Aside0.mk (KeepBut.blk hk (g' := gb369) (o := .cells #[.int .i64 0, .int .i64 0, .int .i64 0, .slice none 0 0] 27 (0, 0)) (B.kb BK369) NB369_0.out (by simp)); have n1_ := Aside0.mk (KeepBut.trans (B.kk HK) hk (.inl rfl)); have n2_ := Aside0.mk (hb); have n3_ := Aside0.mk (hi); clear BK369 HK HB HI0; have BK369 := n0_; have HK := n1_; have HB := n2_; have HI0 := n3_; clear n0_ n1_ n2_ n3_; (try clear hb); (try clear hb2); (try clear hk); (try clear hi)) | ((with_reducible refine gate_callee (f := 62) rfl ?_); refine goesL_ (some 7) rfl rfl Try.func62 (by kernel_rfl) rfl #[.pointer (some ⟨g, 0, none⟩), .int .i64 t370] rfl B.am ?_; (with_reducible refine (spec_randomImage.calls k g s0_0 t371 t370 t372 t373 t374 t375 t378 w0 _ ?side1 ?side2 A3.out).mono ?_); (case side1 => exact B.st HI0); (case side2 => exact B.bs HB); rintro e w7 ⟨v376, rfl, ho0, hi, hb, hk⟩; refine ⟨_, rfl, ?_⟩; have n0_ := Aside0.mk (KeepBut.blk hk (g' := gb369) (o := .cells #[.int .i64 0, .int .i64 0, .int .i64 0, .slice none 0 0] 27 (0, 0)) (B.kb BK369) NB369_0.out (by simp)); have n1_ := Aside0.mk (Kd.R_lower ho0 (keep_size (w := w) (g := g) (row := none) (B.kk HK))); have n2_ := Aside0.mk (KeepBut.trans (B.kk HK) hk (.inl rfl)); have n3_ := Aside0.mk (hb); have n4_ := Aside0.mk (hi); clear BK369 HK HB HI0; have BK369 := n0_; have HO377 := n1_; have HK := n2_; have HB := n3_; have HI0 := n4_; clear n0_ n1_ n2_ n3_ n4_; (try clear hb); (try clear hb2); (try clear hk); (try clear hi); (try clear ho0); obtain ⟨Ao8, co8, eo8⟩ := Kd.R_slice HO377.out; subst eo8) | ((with_reducible refine gate_callee (f := 61) rfl ?_); refine goesL_ (some 8) rfl rfl Try.func61 (by kernel_rfl) rfl #[.pointer (some ⟨g, 0, none⟩), .agg #[.int .i64 t372, .int .i64 t373, .int .i64 t374, .slice Ao8 t375.length co8]] rfl B.am ?_; (with_reducible refine (spec_spoilImage.calls k g s0_0 t378 t372 t373 t374 (fun k_ => some k_ = (.slice Ao8 t375.length co8 : Value).ownBlock) (.slice Ao8 t375.length co8) t375 t379 t380 t381 t382 t385 w0 _ ?side1 ?side2 ?side3 A4.out).mono ?_); (case side1 => exact B.st HI0); (case side2 => exact B.bs HB); (case side3 => exact Kd.R_lower (Kd.R_tight rfl HO377.out) HL.out); rintro e w9 ⟨v383, rfl, ho0, hi, hb, hkp⟩; refine ⟨_, rfl, ?_⟩; have n0_ := Aside0.mk (hi); have n1_ := Aside0.mk (blk_kept (B.kb BK369) hkp (fun hs_ => Or.elim hs_ (fun hs_ => (fun e_ => (Kd.R_ne HO377.out BK369.out (by decide)) e_) hs_) (fun e_ => NB369_0.out e_))); have n2_ := Aside0.mk (Kd.Q_mono (ok' := fun k_ => True) (B.Q_raise (d := (Kd.int .i64)) (b := w0.heap.size) (b' := w.heap.size) (fun _ _ _ _ h_ => h_) ho0 (fun k_ e_ => Or.elim (ho0.1 k_ e_) (fun hs_ => (fun e_ => Kd.R_base HO377.out k_ e_.symm) hs_) (fun hn_ => Nat.le_trans (keep_size (w := w) (g := g) (row := none) (B.kk HK)) hn_))) (fun k_ hk_ => trivial)); have n3_ := Aside0.mk (Kept.keepG (B.kk HK) hkp (fun k_ hs_ => Or.elim hs_ (fun hs_ => (fun e_ => .inr (Kd.R_base HO377.out k_ e_.symm)) hs_) (fun e_ => .inl e_))); have n4_ := Aside0.mk (hb); clear HI0 BK369 HK HB HO377; have HI0 := n0_; have BK369 := n1_; have HO384 := n2_; have HK := n3_; have HB := n4_; clear n0_ n1_ n2_ n3_ n4_; (try clear hb); (try clear hkp); (try clear ho0); have hnb10 := NB369_0.out; have hnc10 := NB0_369.out; have hcz11_0 : w9.cell? ⟨gb369, 0, none⟩ = some (.int .i64 0) := B.bc BK369 0; have hcz11_1 : w9.cell? ⟨gb369, 1, none⟩ = some (.int .i64 0) := B.bc BK369 1; have hcz11_2 : w9.cell? ⟨gb369, 2, none⟩ = some (.int .i64 0) := B.bc BK369 2; have hcz11_3 : w9.cell? ⟨gb369, 3, none⟩ = some (.slice none 0 0) := B.bc BK369 3; have hfz11_0 := blk_frozen BK369.out 0; have hfz11_1 := blk_frozen BK369.out 1; have hfz11_2 := blk_frozen BK369.out 2; have hfz11_3 := blk_frozen BK369.out 3; obtain ⟨Ao12, co12, eo12, _⟩ := Kd.Q_slice HO384.out; subst eo12))
  refine bodyPost_ret (results_cell_row rfl _ _ gb369 27 #[.int .i64 t379, .int .i64 t380, .int .i64 t381, .slice Ao12 t382.length co12] (0, 0) _ rfl (B.kb0 (B.bp4 BK369)) Try.underlying27 rfl (by kernel_rfl)) rfl ?_
  exact ⟨_, by first | rfl | (simp [errW_none, errW_some] <;> rfl) | (simp [*, errW_none, errW_some] <;> rfl), by (with_reducible repeat (first | apply Kd.Q_alloc | apply Kd.Q_drewN | apply Kd.Q_drew)); exact Kd.Q_mono (Kd.Q_far (p := ⟨gb369, 3, none⟩) (Kd.Q_far (p := ⟨gb369, 2, none⟩) (Kd.Q_far (p := ⟨gb369, 1, none⟩) (Kd.Q_far (p := ⟨gb369, 0, none⟩) (Kd.Q_types HO384.out BK369.out (by decide)) (fun _ hk => hk.2) (.int .i64 t379)) (fun _ hk => hk.2) (.int .i64 t380)) (fun _ hk => hk.2) (.int .i64 t381)) (fun _ hk => hk.2) (.slice Ao12 t382.length co12)) (fun _ hk => trivial), B.st HI0, B.bs HB, B.kk HK⟩

/-! ### laws_equalInts: function 27 -/
def laws_equalInts.l0 : Nat → List Int → List Int → Int → Option (Bool)
  | 0, _, _, _ => none
  | k + 1, x0, x1, x5 => if x5 < (x0.length : Int) then (if 0 ≤ x5 then (if x5 < (x1.length : Int) then (if (rd x0 x5) = (rd x1 x5) then (laws_equalInts.l0 k x0 x1 (wrap64 (x5 + 1))) else (some false)) else (none)) else (none)) else (some true)
def laws_equalInts.f (k : Nat) (l0 : List Int) (l1 : List Int) : Option (Bool) := if (l0.length : Int) = (l1.length : Int) then (laws_equalInts.l0 k l0 l1 0) else (some false)
theorem laws_equalInts.mono_l : ∀ k, (∀ y0 y1 y2, LeO (laws_equalInts.l0 k y0 y1 y2) (laws_equalInts.l0 (k + 1) y0 y1 y2))
  | 0 => fun _ _ _ r h => by simp [laws_equalInts.l0] at h
  | k + 1 => by
    have ih0 := laws_equalInts.mono_l k
    · intro y0 y1 y2
      unfold laws_equalInts.l0
      repeat' first
      | (with_reducible exact ih0 _ _ _)
      | (with_reducible exact LeO.refl _)
      | (with_reducible exact LeO.none _)
      | (with_reducible refine LeO.ite ?_ ?_)
      | (with_reducible refine LeO.bind ?_ (fun _ => ?_))
      | exact ih0 _ _ _
      | exact LeO.none _
      | refine LeO.ite ?_ ?_
      | refine LeO.bind ?_ (fun _ => ?_)
theorem laws_equalInts.mono : ∀ a0 a1 k, LeO (laws_equalInts.f k a0 a1) (laws_equalInts.f (k + 1) a0 a1) := by
  intro a0 a1 k
  have ih0 := laws_equalInts.mono_l k
  unfold laws_equalInts.f
  repeat' first
      | (with_reducible exact ih0 _ _ _)
      | (with_reducible exact LeO.refl _)
      | (with_reducible exact LeO.none _)
      | (with_reducible refine LeO.ite ?_ ?_)
      | (with_reducible refine LeO.bind ?_ (fun _ => ?_))
      | exact ih0 _ _ _
      | exact LeO.none _
      | refine LeO.ite ?_ ?_
      | refine LeO.bind ?_ (fun _ => ?_)
set_option maxHeartbeats 8000000 in
set_option maxRecDepth 100000 in
theorem laws_equalInts.calls (k : Nat) (A0 : Option Addr) (c0 : Nat) (l0 : List Int) (A1 : Option Addr) (c1 : Nat) (l1 : List Int) (r : Bool) (w : World) (hr0 : Kd.C (Kd.int .i64) w A0 l0.length l0) (hc0 : l0.length ≤ c0) (hr1 : Kd.C (Kd.int .i64) w A1 l1.length l1) (hc1 : l1.length ≤ c1) (h : laws_equalInts.f k l0 l1 = some r) :
    Calls Try.prog 27 #[.slice A0 l0.length c0, .slice A1 l1.length c1] w fun e w' => e = .returned (.bool r) ∧ Drawn0 w w' := by
  have HR0 := Aside0.mk hr0
  have HC0 := Aside0.mk hc0
  clear hr0 hc0
  have HR1 := Aside0.mk hr1
  have HC1 := Aside0.mk hc1
  clear hr1 hc1
  have H : (if (l0.length : Int) = (l1.length : Int) then (laws_equalInts.l0 k l0 l1 0) else (some false)) = some r := h
  clear h
  by_cases c3 : (l0.length : Int) = (l1.length : Int)
  · rw [if_pos c3] at H
    have c3b0 : ((l0.length : Int) == (l1.length : Int)) = true := beq_iff_eq.mpr c3
    have c3b1 : ((l0.length : Int) != (l1.length : Int)) = false := bne_eq_false_iff_eq.mpr c3
    have c3b2 : (l0.length == l1.length) = true := by first | simpa using c3 | (simp at c3 ⊢; omega)
    clear c3
    have H' := Aside0.mk H
    clear H
    go_enter Try.func27, Try.ntmps27
    go_wp2
    repeat (go_quiet (fail); try go_wp2)
    go_loopg [5] k (fun kq v5 w' => ∃ (x5_1 : Int), v5 = .int .i64 x5_1 ∧ Aside0 (laws_equalInts.l0 kq l0 l1 x5_1 = some r) ∧ Aside0 (kq ≤ k) ∧ Drawn0 w w')
    case atStart => exact ⟨(0), (by first | rfl | (simp; done) | (simp [*]; done)), H', ⟨Nat.le_refl _⟩, by repeat (first | exact Drawn0.refl _ | apply Drawn0.step)⟩
    case round =>
      clear H'
      try clear c1
      try clear c2
      try clear p2
      try clear c3
      try clear c3b0
      try clear c3b1
      try clear c3b2
      obtain ⟨x5_1, rfl, HA, HK1, ⟨m1, rfl⟩⟩ := hrel
      cases gk with
      | zero => exact absurd HA.out (by simp [laws_equalInts.l0])
      | succ k1 =>
        have H := HA.out
        clear HA
        simp only [laws_equalInts.l0] at H
        by_cases c4 : x5_1 < (l0.length : Int)
        · rw [if_pos c4] at H
          have c4b0 : decide (x5_1 < (l0.length : Int)) = true := decide_eq_true c4
          clear c4
          by_cases c5 : 0 ≤ x5_1
          · rw [if_pos c5] at H
            have c5b0 : decide (0 ≤ x5_1) = true := decide_eq_true c5
            clear c5
            by_cases c6 : x5_1 < (l1.length : Int)
            · rw [if_pos c6] at H
              have c6b0 : decide (x5_1 < (l1.length : Int)) = true := decide_eq_true c6
              clear c6
              by_cases c7 : (rd l0 x5_1) = (rd l1 x5_1)
              · rw [if_pos c7] at H
                have c7b0 : ((rd l0 x5_1) == (rd l1 x5_1)) = true := beq_iff_eq.mpr c7
                have c7b1 : ((rd l0 x5_1) != (rd l1 x5_1)) = false := bne_eq_false_iff_eq.mpr c7
                clear c7
                have H' := Aside0.mk H
                clear H
                have p407 : 0 ≤ (x5_1 : Int) := of_decide_eq_true (by first | (with_reducible assumption) | assumption)
                have q407 : x5_1 < (l0.length : Int) := of_decide_eq_true (by first | (with_reducible assumption) | assumption)
                obtain ⟨ad407, e407, hx407_0⟩ := Kd.at_int HR0.out x5_1 p407 q407
                cases e407
                replace p407 := eq_true p407
                replace q407 := eq_true q407
                have p408 : 0 ≤ (x5_1 : Int) := of_decide_eq_true (by first | (with_reducible assumption) | assumption)
                have q408 : x5_1 < (l1.length : Int) := of_decide_eq_true (by first | (with_reducible assumption) | assumption)
                obtain ⟨ad408, e408, hx408_0⟩ := Kd.at_int HR1.out x5_1 p408 q408
                cases e408
                replace p408 := eq_true p408
                replace q408 := eq_true q408
                go_wp2
                repeat (go_quiet (fail); try go_wp2)
                go_roundg k1
                case measure => have := HK1.out; omega
                case rel => exact ⟨(wrap64 (x5_1 + 1)), (by first | rfl | (simp; done) | (simp [*]; done)), H', ⟨by have := HK1.out; omega⟩, by repeat (first | exact Drawn0.refl _ | apply Drawn0.step)⟩
              rw [if_neg c7] at H
              have c7b0 : ((rd l0 x5_1) == (rd l1 x5_1)) = false := beq_eq_false_iff_ne.mpr c7
              have c7b1 : ((rd l0 x5_1) != (rd l1 x5_1)) = true := bne_iff_ne.mpr c7
              obtain rfl := Option.some.inj H
              simp only [Option.some.injEq, Prod.mk.injEq] at H
              obtain ⟨rfl⟩ := H
              have p407 : 0 ≤ (x5_1 : Int) := of_decide_eq_true (by first | (with_reducible assumption) | assumption)
              have q407 : x5_1 < (l0.length : Int) := of_decide_eq_true (by first | (with_reducible assumption) | assumption)
              obtain ⟨ad407, e407, hx407_0⟩ := Kd.at_int HR0.out x5_1 p407 q407
              cases e407
              replace p407 := eq_true p407
              replace q407 := eq_true q407
              have p408 : 0 ≤ (x5_1 : Int) := of_decide_eq_true (by first | (with_reducible assumption) | assumption)
              have q408 : x5_1 < (l1.length : Int) := of_decide_eq_true (by first | (with_reducible assumption) | assumption)
              obtain ⟨ad408, e408, hx408_0⟩ := Kd.at_int HR1.out x5_1 p408 q408
              cases e408
              replace p408 := eq_true p408
              replace q408 := eq_true q408
              go_wp2
              repeat (go_quiet (fail); try go_wp2)
              go_ret
              exact ⟨by first | rfl | (simp; done) | (simp [*]; done), by repeat (first | exact Drawn0.refl _ | apply Drawn0.step)⟩
            rw [if_neg c6] at H
            exact absurd H (by simp)
          rw [if_neg c5] at H
          exact absurd H (by simp)
        rw [if_neg c4] at H
        have c4b0 : decide (x5_1 < (l0.length : Int)) = false := decide_eq_false c4
        clear c4
        obtain rfl := Option.some.inj H
        simp only [Option.some.injEq, Prod.mk.injEq] at H
        obtain ⟨rfl⟩ := H
        go_wp2
        repeat (go_quiet (fail); try go_wp2)
        go_ret
        exact ⟨by first | rfl | (simp; done) | (simp [*]; done), by repeat (first | exact Drawn0.refl _ | apply Drawn0.step)⟩
  rw [if_neg c3] at H
  have c3b0 : ((l0.length : Int) == (l1.length : Int)) = false := beq_eq_false_iff_ne.mpr c3
  have c3b1 : ((l0.length : Int) != (l1.length : Int)) = true := bne_iff_ne.mpr c3
  have c3b2 : (l0.length == l1.length) = false := by first | simpa using c3 | (simp at c3 ⊢; omega)
  obtain rfl := Option.some.inj H
  simp only [Option.some.injEq, Prod.mk.injEq] at H
  obtain ⟨rfl⟩ := H
  go_enter Try.func27, Try.ntmps27
  go_wp2
  repeat (go_quiet (fail); try go_wp2)
  go_ret
  exact ⟨by first | rfl | (simp; done) | (simp [*]; done), by repeat (first | exact Drawn0.refl _ | apply Drawn0.step)⟩

end Go.Proofs.Ytegicfkcdmhjgaa.Q
