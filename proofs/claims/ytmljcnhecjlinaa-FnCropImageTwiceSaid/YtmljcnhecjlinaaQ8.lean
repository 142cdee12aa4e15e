-- Written by a program of this session (the kit's printer, with hand-proved contracts for the functions that it does not take).
import Derived.Test.YtmljcnhecjlinaaQ0
import Derived.Test.YtmljcnhecjlinaaQ5
import Derived.Test.YtmljcnhecjlinaaQ6
namespace Go.Proofs.Ytmljcnhecjlinaa.Q
open Go.RowKit Go.Proofs.YtmljcnhecjlinaaW.PrintWords Go.Proofs.YtmljcnhecjlinaaW.PrintLast Go.Proofs.YtmljcnhecjlinaaW.PrintMore
attribute [local go_sem] max2_int min2_int max_two min_two max_three min_three max_four min_four   -- for this text's walks alone
set_option linter.unusedVariables false
set_option linter.unusedSimpArgs false

/-! ### spec_anyBox: function 38 -/
def spec_anyBox.f (k : Nat) (s0_0 : List Int) (s0_1 : Int) : Option (Int × Int × Int × Int × Int) := (spec_reader_one.f k s0_0 s0_1 (([0, 1, 2, (-1), 0, 4] : List Int))).bind fun bt356 => ((spec_reader_one.f k s0_0 bt356.2 (([0, 1, 0, 2, (-1)] : List Int))).bind fun bt361 => ((spec_reader_one.f k s0_0 bt361.2 (([1, 2, 3, 1, 0, 16] : List Int))).bind fun bt366 => ((spec_reader_one.f k s0_0 bt366.2 (([1, 2, 1, 3, 0] : List Int))).bind fun bt371 => (some (bt356.1, bt361.1, bt366.1, bt371.1, bt371.2)))))
theorem spec_anyBox.mono : ∀ a0 a1 k, LeO (spec_anyBox.f k a0 a1) (spec_anyBox.f (k + 1) a0 a1) := by
  intro a0 a1 k
  unfold spec_anyBox.f
  repeat' first
      | (with_reducible exact spec_reader_one.mono _ _ _ _)
      | (with_reducible exact LeO.refl _)
      | (with_reducible exact LeO.none _)
      | (with_reducible refine LeO.ite ?_ ?_)
      | (with_reducible refine LeO.bind ?_ (fun _ => ?_))
      | exact spec_reader_one.mono _ _ _ _
      | exact LeO.none _
      | refine LeO.ite ?_ ?_
      | refine LeO.bind ?_ (fun _ => ?_)
set_option maxHeartbeats 8000000 in
set_option maxRecDepth 100000 in
theorem spec_anyBox.calls (k : Nat) (g : Nat) (s0_0 : List Int) (s0_1 : Int) (r1 : Int) (r2 : Int) (r3 : Int) (r4 : Int) (r5 : Int) (w0 w : World) (hI : IsS69 w0 w g s0_0 s0_1) (hB : Below w0.heap.size w0 w) (h : spec_anyBox.f k s0_0 s0_1 = some (r1, r2, r3, r4, r5)) :
    Calls Try.prog 38 #[.pointer (some ⟨g, 0, none⟩)] w fun e w' => e = .returned (.agg #[.int .i64 r1, .int .i64 r2, .int .i64 r3, .int .i64 r4]) ∧ IsS69 w0 w' g s0_0 r5 ∧ Below w0.heap.size w0 w' ∧ KeepBut w w' g none := by
  have hu32 := Try.underlying32
  have HI0 := Aside0.mk hI
  have HK := Aside0.mk (KeepBut.refl w g none)
  have HL := Aside0.mk hB.size
  clear hI
  have HW0 := Aside0.mk hB.size
  have HB := Aside0.mk hB
  clear hB
  have H : ((spec_reader_one.f k s0_0 s0_1 (([0, 1, 2, (-1), 0, 4] : List Int))).bind fun bt356 => ((spec_reader_one.f k s0_0 bt356.2 (([0, 1, 0, 2, (-1)] : List Int))).bind fun bt361 => ((spec_reader_one.f k s0_0 bt361.2 (([1, 2, 3, 1, 0, 16] : List Int))).bind fun bt366 => ((spec_reader_one.f k s0_0 bt366.2 (([1, 2, 1, 3, 0] : List Int))).bind fun bt371 => (some (bt356.1, bt361.1, bt366.1, bt371.1, bt371.2)))))) = some (r1, r2, r3, r4, r5) := h
  clear h
  obtain ⟨y353, hy353⟩ : ∃ y_ : List Int, y_ = (([0, 1, 2, (-1), 0, 4] : List Int)) := ⟨_, rfl⟩
  replace H : ((spec_reader_one.f k s0_0 s0_1 y353).bind fun bt356 => ((spec_reader_one.f k s0_0 bt356.2 (([0, 1, 0, 2, (-1)] : List Int))).bind fun bt361 => ((spec_reader_one.f k s0_0 bt361.2 (([1, 2, 3, 1, 0, 16] : List Int))).bind fun bt366 => ((spec_reader_one.f k s0_0 bt366.2 (([1, 2, 1, 3, 0] : List Int))).bind fun bt371 => (some (bt356.1, bt361.1, bt366.1, bt371.1, bt371.2)))))) = some (r1, r2, r3, r4, r5) := by first | (rw [hy353]; with_reducible exact H) | (have H2_ := (Option.bind_some _ _).symm.trans H; rw [hy353]; with_reducible exact H2_) | (have H2_ := (Option.bind_some _ _).symm.trans H; with_reducible exact H2_) | with_reducible exact H | (rw [hy353]; exact H) | exact H
  have Ny353 := Aside0.mk hy353
  clear hy353
  replace H := Option.bind_eq_some_iff.mp H
  obtain ⟨⟨t356, t357⟩, A20, H⟩ := H
  replace H : ((spec_reader_one.f k s0_0 t357 (([0, 1, 0, 2, (-1)] : List Int))).bind fun bt361 => ((spec_reader_one.f k s0_0 bt361.2 (([1, 2, 3, 1, 0, 16] : List Int))).bind fun bt366 => ((spec_reader_one.f k s0_0 bt366.2 (([1, 2, 1, 3, 0] : List Int))).bind fun bt371 => (some (t356, bt361.1, bt366.1, bt371.1, bt371.2))))) = some (r1, r2, r3, r4, r5) := H
  have A2 := Aside0.mk A20
  clear A20
  obtain ⟨y358, hy358⟩ : ∃ y_ : List Int, y_ = (([0, 1, 0, 2, (-1)] : List Int)) := ⟨_, rfl⟩
  replace H : ((spec_reader_one.f k s0_0 t357 y358).bind fun bt361 => ((spec_reader_one.f k s0_0 bt361.2 (([1, 2, 3, 1, 0, 16] : List Int))).bind fun bt366 => ((spec_reader_one.f k s0_0 bt366.2 (([1, 2, 1, 3, 0] : List Int))).bind fun bt371 => (some (t356, bt361.1, bt366.1, bt371.1, bt371.2))))) = some (r1, r2, r3, r4, r5) := by first | (rw [hy358]; with_reducible exact H) | (have H2_ := (Option.bind_some _ _).symm.trans H; rw [hy358]; with_reducible exact H2_) | (have H2_ := (Option.bind_some _ _).symm.trans H; with_reducible exact H2_) | with_reducible exact H | (rw [hy358]; exact H) | exact H
  have Ny358 := Aside0.mk hy358
  clear hy358
  replace H := Option.bind_eq_some_iff.mp H
  obtain ⟨⟨t361, t362⟩, A30, H⟩ := H
  replace H : ((spec_reader_one.f k s0_0 t362 (([1, 2, 3, 1, 0, 16] : List Int))).bind fun bt366 => ((spec_reader_one.f k s0_0 bt366.2 (([1, 2, 1, 3, 0] : List Int))).bind fun bt371 => (some (t356, t361, bt366.1, bt371.1, bt371.2)))) = some (r1, r2, r3, r4, r5) := H
  have A3 := Aside0.mk A30
  clear A30
  obtain ⟨y363, hy363⟩ : ∃ y_ : List Int, y_ = (([1, 2, 3, 1, 0, 16] : List Int)) := ⟨_, rfl⟩
  replace H : ((spec_reader_one.f k s0_0 t362 y363).bind fun bt366 => ((spec_reader_one.f k s0_0 bt366.2 (([1, 2, 1, 3, 0] : List Int))).bind fun bt371 => (some (t356, t361, bt366.1, bt371.1, bt371.2)))) = some (r1, r2, r3, r4, r5) := by first | (rw [hy363]; with_reducible exact H) | (have H2_ := (Option.bind_some _ _).symm.trans H; rw [hy363]; with_reducible exact H2_) | (have H2_ := (Option.bind_some _ _).symm.trans H; with_reducible exact H2_) | with_reducible exact H | (rw [hy363]; exact H) | exact H
  have Ny363 := Aside0.mk hy363
  clear hy363
  replace H := Option.bind_eq_some_iff.mp H
  obtain ⟨⟨t366, t367⟩, A40, H⟩ := H
  replace H : ((spec_reader_one.f k s0_0 t367 (([1, 2, 1, 3, 0] : List Int))).bind fun bt371 => (some (t356, t361, t366, bt371.1, bt371.2))) = some (r1, r2, r3, r4, r5) := H
  have A4 := Aside0.mk A40
  clear A40
  obtain ⟨y368, hy368⟩ : ∃ y_ : List Int, y_ = (([1, 2, 1, 3, 0] : List Int)) := ⟨_, rfl⟩
  replace H : ((spec_reader_one.f k s0_0 t367 y368).bind fun bt371 => (some (t356, t361, t366, bt371.1, bt371.2))) = some (r1, r2, r3, r4, r5) := by first | (rw [hy368]; with_reducible exact H) | (have H2_ := (Option.bind_some _ _).symm.trans H; rw [hy368]; with_reducible exact H2_) | (have H2_ := (Option.bind_some _ _).symm.trans H; with_reducible exact H2_) | with_reducible exact H | (rw [hy368]; exact H) | exact H
  have Ny368 := Aside0.mk hy368
  clear hy368
  replace H := Option.bind_eq_some_iff.mp H
  obtain ⟨⟨t371, t372⟩, A50, H⟩ := H
  replace H : (some (t356, t361, t366, t371, t372)) = some (r1, r2, r3, r4, r5) := H
  have A5 := Aside0.mk A50
  clear A50
  simp only [Option.some.injEq, Prod.mk.injEq] at H
  obtain ⟨rfl, rfl, rfl, rfl, rfl⟩ := H
  go_enter Try.func38, Try.ntmps38
  go_wp2_with (first | ((with_reducible refine gate_dst (N := 2) rfl ?_); refine box_event ?hg (N := 2) ?hd (cs := #[.int .i64 0, .int .i64 0, .int .i64 0, .int .i64 0]) (t := 32) ?hr ?_; (case hd => rfl); (case hg => rfl); (case hr => first | (go_simp; done) | (go_simp; rfl)); intro gb352 hg w6 hbox hb; have n0_ := Aside0.mk (IsS69.below (B.st HI0) hb); have n1_ := Aside0.mk (KeepBut.trans (B.kk HK) (KeepBut.of_below hb g none) (.inl rfl)); have n2_ := Aside0.mk (below_step (B.bs HB) hb); have n3_ := Aside0.mk (hbox); have n4_ := Aside0.mk ((by rw [hg]; exact (keep_size (w := w) (g := g) (row := none) (B.kk HK)) : w.heap.size ≤ gb352)); have n5_ := Aside0.mk ((Nat.le_trans HW0.out (by rw [hg]; exact (keep_size (w := w) (g := g) (row := none) (B.kk HK)) : w.heap.size ≤ gb352) : w0.heap.size ≤ gb352)); have n6_ := Aside0.mk ((by rw [hg]; exact Nat.ne_of_lt (IsS69.lt (show IsS69 w0 _ g s0_0 s0_1 from B.st HI0)) : g ≠ gb352)); have n7_ := Aside0.mk ((by rw [hg]; exact Nat.ne_of_gt (IsS69.lt (show IsS69 w0 _ g s0_0 s0_1 from B.st HI0)) : gb352 ≠ g)); clear HI0 HK HB; have HI0 := n0_; have HK := n1_; have HB := n2_; have BK352 := n3_; have GW352 := n4_; have GE352 := n5_; have NB0_352 := n6_; have NB352_0 := n7_; clear n0_ n1_ n2_ n3_ n4_ n5_ n6_ n7_; clear hb hbox hg) | ((with_reducible refine gate_dst (N := 4) rfl ?_); refine Kd.R_lit (Kd.int .i64) _ 3 ?hg (N := 4) ?hd (xs := ([0, 1, 2, (-1), 0, 4] : List Int)) (inner := [.int .i64 0, .int .i64 1, .int .i64 2, .int .i64 (-1), .int .i64 0, .int .i64 4]) (ok := fun _ => True) (okp := fun _ => True) ?hr ?hp (fun _ hk => hk) trivial (Below.refl _ _) (Nat.le_refl _) (by simp) ?_; (case hd => rfl); (case hg => rfl); (case hr => first | (go_simp; done) | (go_simp; rfl)); (case hp => exact (Reps.one (show Kd.M (Kd.int .i64) _ _ _ 0 [.int .i64 0] from rfl) (Reps.one (show Kd.M (Kd.int .i64) _ _ _ 1 [.int .i64 1] from rfl) (Reps.one (show Kd.M (Kd.int .i64) _ _ _ 2 [.int .i64 2] from rfl) (Reps.one (show Kd.M (Kd.int .i64) _ _ _ (-1) [.int .i64 (-1)] from rfl) (Reps.one (show Kd.M (Kd.int .i64) _ _ _ 0 [.int .i64 0] from rfl) (Reps.one (show Kd.M (Kd.int .i64) _ _ _ 4 [.int .i64 4] from rfl) (Reps.none _ _)))))))); intro v354 w7 ho8 hb hg_ hnew_; clear hg_ hnew_; (first | rw [← Ny353.out] at ho8 | (simp only [Int.reduceToNat] at ho8; rw [← Ny353.out] at ho8)); have n0_ := Aside0.mk (Kd.R_lower ho8 (keep_size (w := w) (g := g) (row := none) (B.kk HK))); have n1_ := Aside0.mk (IsS69.below (B.st HI0) hb); have n2_ := Aside0.mk (blk_below (B.kb BK352) hb); have n3_ := Aside0.mk (KeepBut.trans (B.kk HK) (KeepBut.of_below hb g none) (.inl rfl)); have n4_ := Aside0.mk (below_step (B.bs HB) hb); clear HI0 BK352 HK HB; have HO355 := n0_; have HI0 := n1_; have BK352 := n2_; have HK := n3_; have HB := n4_; clear n0_ n1_ n2_ n3_ n4_; clear hb ho8; obtain ⟨Ao9, co9, eo9⟩ := Kd.R_slice HO355.out; subst eo9) | ((with_reducible refine gate_callee (f := 43) rfl ?_); refine goesL_ (some 5) rfl rfl Try.func43 (by kernel_rfl) rfl #[.pointer (some ⟨g, 0, none⟩), .slice Ao9 y353.length co9] rfl B.am ?_; (with_reducible refine (spec_reader_one.calls k g s0_0 s0_1 _ _ y353 t356 t357 w0 _ ?side1 ?side2 ?side3 ?side4 ?side5 A2.out).mono ?_); (case side1 => exact B.st HI0); (case side2 => exact B.bs HB); (case side3 => exact B.kc ((Kd.R_reads' HO355.out).2.2)); (case side4 => exact (Kd.R_reads' HO355.out).2.1); (case side5 => exact far_slice (IsS69.own_ne HI0.out HO355.out (by decide))); rintro e w10 ⟨rfl, hi, hb, hk⟩; refine ⟨_, rfl, ?_⟩; have n0_ := Aside0.mk (KeepBut.blk hk (g' := gb352) (o := .cells #[.int .i64 0, .int .i64 0, .int .i64 0, .int .i64 0] 32 (0, 0)) (B.kb BK352) NB352_0.out (by simp)); have n1_ := Aside0.mk (Kd.R_mono (Kd.R_keep (IsS69.apart (show IsS69 w0 _ g s0_0 s0_1 from B.st HI0) (B.kr HO355) (by decide)) hk (fun _ h => h.2)) (fun _ h => h.1)); have n2_ := Aside0.mk (KeepBut.trans (B.kk HK) hk (.inl rfl)); have n3_ := Aside0.mk (hb); have n4_ := Aside0.mk (hi); clear BK352 HO355 HK HB HI0; have BK352 := n0_; have HO355 := n1_; have HK := n2_; have HB := n3_; have HI0 := n4_; clear n0_ n1_ n2_ n3_ n4_; (try clear hb); (try clear hb2); (try clear hk); (try clear hi)) | ((with_reducible refine gate_dst (N := 7) rfl ?_); refine Kd.R_lit (Kd.int .i64) _ 3 ?hg (N := 7) ?hd (xs := ([0, 1, 0, 2, (-1)] : List Int)) (inner := [.int .i64 0, .int .i64 1, .int .i64 0, .int .i64 2, .int .i64 (-1)]) (ok := fun _ => True) (okp := fun _ => True) ?hr ?hp (fun _ hk => hk) trivial (Below.refl _ _) (Nat.le_refl _) (by simp) ?_; (case hd => rfl); (case hg => rfl); (case hr => first | (go_simp; done) | (go_simp; rfl)); (case hp => exact (Reps.one (show Kd.M (Kd.int .i64) _ _ _ 0 [.int .i64 0] from rfl) (Reps.one (show Kd.M (Kd.int .i64) _ _ _ 1 [.int .i64 1] from rfl) (Reps.one (show Kd.M (Kd.int .i64) _ _ _ 0 [.int .i64 0] from rfl) (Reps.one (show Kd.M (Kd.int .i64) _ _ _ 2 [.int .i64 2] from rfl) (Reps.one (show Kd.M (Kd.int .i64) _ _ _ (-1) [.int .i64 (-1)] from rfl) (Reps.none _ _))))))); intro v359 w11 ho12 hb hg_ hnew_; clear hg_ hnew_; (first | rw [← Ny358.out] at ho12 | (simp only [Int.reduceToNat] at ho12; rw [← Ny358.out] at ho12)); have n0_ := Aside0.mk (Kd.R_elder' (B.kr HO355) (Kd.R_base ho12) hb); have n1_ := Aside0.mk (Kd.R_lower (Kd.R_new' ho12 (Kd.R_lt (B.kr HO355))) (keep_size (w := w) (g := g) (row := none) (B.kk HK))); have n2_ := Aside0.mk (IsS69.below (B.st HI0) hb); have n3_ := Aside0.mk (blk_below (B.kb BK352) hb); have n4_ := Aside0.mk (KeepBut.trans (B.kk HK) (KeepBut.of_below hb g none) (.inl rfl)); have n5_ := Aside0.mk (below_step (B.bs HB) hb); clear HO355 HI0 BK352 HK HB; have HO355 := n0_; have HO360 := n1_; have HI0 := n2_; have BK352 := n3_; have HK := n4_; have HB := n5_; clear n0_ n1_ n2_ n3_ n4_ n5_; clear hb ho12; obtain ⟨Ao13, co13, eo13⟩ := Kd.R_slice HO360.out; subst eo13) | ((with_reducible refine gate_callee (f := 43) rfl ?_); refine goesL_ (some 8) rfl rfl Try.func43 (by kernel_rfl) rfl #[.pointer (some ⟨g, 0, none⟩), .slice Ao13 y358.length co13] rfl B.am ?_; (with_reducible refine (spec_reader_one.calls k g s0_0 t357 _ _ y358 t361 t362 w0 _ ?side1 ?side2 ?side3 ?side4 ?side5 A3.out).mono ?_); (case side1 => exact B.st HI0); (case side2 => exact B.bs HB); (case side3 => exact B.kc ((Kd.R_reads' HO360.out).2.2)); (case side4 => exact (Kd.R_reads' HO360.out).2.1); (case side5 => exact far_slice (IsS69.own_ne HI0.out HO360.out (by decide))); rintro e w14 ⟨rfl, hi, hb, hk⟩; refine ⟨_, rfl, ?_⟩; have n0_ := Aside0.mk (KeepBut.blk hk (g' := gb352) (o := .cells #[.int .i64 0, .int .i64 0, .int .i64 0, .int .i64 0] 32 (0, 0)) (B.kb BK352) NB352_0.out (by simp)); have n1_ := Aside0.mk (Kd.R_mono (Kd.R_keep (IsS69.apart (show IsS69 w0 _ g s0_0 t357 from B.st HI0) (B.kr HO355) (by decide)) hk (fun _ h => h.2)) (fun _ h => h.1)); have n2_ := Aside0.mk (Kd.R_mono (Kd.R_keep (IsS69.apart (show IsS69 w0 _ g s0_0 t357 from B.st HI0) (B.kr HO360) (by decide)) hk (fun _ h => h.2)) (fun _ h => h.1)); have n3_ := Aside0.mk (KeepBut.trans (B.kk HK) hk (.inl rfl)); have n4_ := Aside0.mk (hb); have n5_ := Aside0.mk (hi); clear BK352 HO355 HO360 HK HB HI0; have BK352 := n0_; have HO355 := n1_; have HO360 := n2_; have HK := n3_; have HB := n4_; have HI0 := n5_; clear n0_ n1_ n2_ n3_ n4_ n5_; (try clear hb); (try clear hb2); (try clear hk); (try clear hi)) | ((with_reducible refine gate_dst (N := 10) rfl ?_); refine Kd.R_lit (Kd.int .i64) _ 3 ?hg (N := 10) ?hd (xs := ([1, 2, 3, 1, 0, 16] : List Int)) (inner := [.int .i64 1, .int .i64 2, .int .i64 3, .int .i64 1, .int .i64 0, .int .i64 16]) (ok := fun _ => True) (okp := fun _ => True) ?hr ?hp (fun _ hk => hk) trivial (Below.refl _ _) (Nat.le_refl _) (by simp) ?_; (case hd => rfl); (case hg => rfl); (case hr => first | (go_simp; done) | (go_simp; rfl)); (case hp => exact (Reps.one (show Kd.M (Kd.int .i64) _ _ _ 1 [.int .i64 1] from rfl) (Reps.one (show Kd.M (Kd.int .i64) _ _ _ 2 [.int .i64 2] from rfl) (Reps.one (show Kd.M (Kd.int .i64) _ _ _ 3 [.int .i64 3] from rfl) (Reps.one (show Kd.M (Kd.int .i64) _ _ _ 1 [.int .i64 1] from rfl) (Reps.one (show Kd.M (Kd.int .i64) _ _ _ 0 [.int .i64 0] from rfl) (Reps.one (show Kd.M (Kd.int .i64) _ _ _ 16 [.int .i64 16] from rfl) (Reps.none _ _)))))))); intro v364 w15 ho16 hb hg_ hnew_; clear hg_ hnew_; (first | rw [← Ny363.out] at ho16 | (simp only [Int.reduceToNat] at ho16; rw [← Ny363.out] at ho16)); have n0_ := Aside0.mk (Kd.R_elder' (B.kr HO355) (Kd.R_base ho16) hb); have n1_ := Aside0.mk (Kd.R_elder' (B.kr HO360) (Kd.R_base ho16) hb); have n2_ := Aside0.mk (Kd.R_lower (Kd.R_new' (Kd.R_new' ho16 (Kd.R_lt (B.kr HO355))) (Kd.R_lt (B.kr HO360))) (keep_size (w := w) (g := g) (row := none) (B.kk HK))); have n3_ := Aside0.mk (IsS69.below (B.st HI0) hb); have n4_ := Aside0.mk (blk_below (B.kb BK352) hb); have n5_ := Aside0.mk (KeepBut.trans (B.kk HK) (KeepBut.of_below hb g none) (.inl rfl)); have n6_ := Aside0.mk (below_step (B.bs HB) hb); clear HO355 HO360 HI0 BK352 HK HB; have HO355 := n0_; have HO360 := n1_; have HO365 := n2_; have HI0 := n3_; have BK352 := n4_; have HK := n5_; have HB := n6_; clear n0_ n1_ n2_ n3_ n4_ n5_ n6_; clear hb ho16; obtain ⟨Ao17, co17, eo17⟩ := Kd.R_slice HO365.out; subst eo17) | ((with_reducible refine gate_callee (f := 43) rfl ?_); refine goesL_ (some 11) rfl rfl Try.func43 (by kernel_rfl) rfl #[.pointer (some ⟨g, 0, none⟩), .slice Ao17 y363.length co17] rfl B.am ?_; (with_reducible refine (spec_reader_one.calls k g s0_0 t362 _ _ y363 t366 t367 w0 _ ?side1 ?side2 ?side3 ?side4 ?side5 A4.out).mono ?_); (case side1 => exact B.st HI0); (case side2 => exact B.bs HB); (case side3 => exact B.kc ((Kd.R_reads' HO365.out).2.2)); (case side4 => exact (Kd.R_reads' HO365.out).2.1); (case side5 => exact far_slice (IsS69.own_ne HI0.out HO365.out (by decide))); rintro e w18 ⟨rfl, hi, hb, hk⟩; refine ⟨_, rfl, ?_⟩; have n0_ := Aside0.mk (KeepBut.blk hk (g' := gb352) (o := .cells #[.int .i64 0, .int .i64 0, .int .i64 0, .int .i64 0] 32 (0, 0)) (B.kb BK352) NB352_0.out (by simp)); have n1_ := Aside0.mk (Kd.R_mono (Kd.R_keep (IsS69.apart (show IsS69 w0 _ g s0_0 t362 from B.st HI0) (B.kr HO355) (by decide)) hk (fun _ h => h.2)) (fun _ h => h.1)); have n2_ := Aside0.mk (Kd.R_mono (Kd.R_keep (IsS69.apart (show IsS69 w0 _ g s0_0 t362 from B.st HI0) (B.kr HO360) (by decide)) hk (fun _ h => h.2)) (fun _ h => h.1)); have n3_ := Aside0.mk (Kd.R_mono (Kd.R_keep (IsS69.apart (show IsS69 w0 _ g s0_0 t362 from B.st HI0) (B.kr HO365) (by decide)) hk (fun _ h => h.2)) (fun _ h => h.1)); have n4_ := Aside0.mk (KeepBut.trans (B.kk HK) hk (.inl rfl)); have n5_ := Aside0.mk (hb); have n6_ := Aside0.mk (hi); clear BK352 HO355 HO360 HO365 HK HB HI0; have BK352 := n0_; have HO355 := n1_; have HO360 := n2_; have HO365 := n3_; have HK := n4_; have HB := n5_; have HI0 := n6_; clear n0_ n1_ n2_ n3_ n4_ n5_ n6_; (try clear hb); (try clear hb2); (try clear hk); (try clear hi)) | ((with_reducible refine gate_dst (N := 13) rfl ?_); refine Kd.R_lit (Kd.int .i64) _ 3 ?hg (N := 13) ?hd (xs := ([1, 2, 1, 3, 0] : List Int)) (inner := [.int .i64 1, .int .i64 2, .int .i64 1, .int .i64 3, .int .i64 0]) (ok := fun _ => True) (okp := fun _ => True) ?hr ?hp (fun _ hk => hk) trivial (Below.refl _ _) (Nat.le_refl _) (by simp) ?_; (case hd => rfl); (case hg => rfl); (case hr => first | (go_simp; done) | (go_simp; rfl)); (case hp => exact (Reps.one (show Kd.M (Kd.int .i64) _ _ _ 1 [.int .i64 1] from rfl) (Reps.one (show Kd.M (Kd.int .i64) _ _ _ 2 [.int .i64 2] from rfl) (Reps.one (show Kd.M (Kd.int .i64) _ _ _ 1 [.int .i64 1] from rfl) (Reps.one (show Kd.M (Kd.int .i64) _ _ _ 3 [.int .i64 3] from rfl) (Reps.one (show Kd.M (Kd.int .i64) _ _ _ 0 [.int .i64 0] from rfl) (Reps.none _ _))))))); intro v369 w19 ho20 hb hg_ hnew_; clear hg_ hnew_; (first | rw [← Ny368.out] at ho20 | (simp only [Int.reduceToNat] at ho20; rw [← Ny368.out] at ho20)); have n0_ := Aside0.mk (Kd.R_elder' (B.kr HO355) (Kd.R_base ho20) hb); have n1_ := Aside0.mk (Kd.R_elder' (B.kr HO360) (Kd.R_base ho20) hb); have n2_ := Aside0.mk (Kd.R_elder' (B.kr HO365) (Kd.R_base ho20) hb); have n3_ := Aside0.mk (Kd.R_lower (Kd.R_new' (Kd.R_new' (Kd.R_new' ho20 (Kd.R_lt (B.kr HO355))) (Kd.R_lt (B.kr HO360))) (Kd.R_lt (B.kr HO365))) (keep_size (w := w) (g := g) (row := none) (B.kk HK))); have n4_ := Aside0.mk (IsS69.below (B.st HI0) hb); have n5_ := Aside0.mk (blk_below (B.kb BK352) hb); have n6_ := Aside0.mk (KeepBut.trans (B.kk HK) (KeepBut.of_below hb g none) (.inl rfl)); have n7_ := Aside0.mk (below_step (B.bs HB) hb); clear HO355 HO360 HO365 HI0 BK352 HK HB; have HO355 := n0_; have HO360 := n1_; have HO365 := n2_; have HO370 := n3_; have HI0 := n4_; have BK352 := n5_; have HK := n6_; have HB := n7_; clear n0_ n1_ n2_ n3_ n4_ n5_ n6_ n7_; clear hb ho20; obtain ⟨Ao21, co21, eo21⟩ := Kd.R_slice HO370.out; subst eo21) | ((with_reducible refine gate_callee (f := 43) rfl ?_); refine goesL_ (some 14) rfl rfl Try.func43 (by kernel_rfl) rfl #[.pointer (some ⟨g, 0, none⟩), .slice Ao21 y368.length co21] rfl B.am ?_; (with_reducible refine (spec_reader_one.calls k g s0_0 t367 _ _ y368 t371 t372 w0 _ ?side1 ?side2 ?side3 ?side4 ?side5 A5.out).mono ?_); (case side1 => exact B.st HI0); (case side2 => exact B.bs HB); (case side3 => exact B.kc ((Kd.R_reads' HO370.out).2.2)); (case side4 => exact (Kd.R_reads' HO370.out).2.1); (case side5 => exact far_slice (IsS69.own_ne HI0.out HO370.out (by decide))); rintro e w22 ⟨rfl, hi, hb, hk⟩; refine ⟨_, rfl, ?_⟩; have n0_ := Aside0.mk (KeepBut.blk hk (g' := gb352) (o := .cells #[.int .i64 0, .int .i64 0, .int .i64 0, .int .i64 0] 32 (0, 0)) (B.kb BK352) NB352_0.out (by simp)); have n1_ := Aside0.mk (Kd.R_mono (Kd.R_keep (IsS69.apart (show IsS69 w0 _ g s0_0 t367 from B.st HI0) (B.kr HO355) (by decide)) hk (fun _ h => h.2)) (fun _ h => h.1)); have n2_ := Aside0.mk (Kd.R_mono (Kd.R_keep (IsS69.apart (show IsS69 w0 _ g s0_0 t367 from B.st HI0) (B.kr HO360) (by decide)) hk (fun _ h => h.2)) (fun _ h => h.1)); have n3_ := Aside0.mk (Kd.R_mono (Kd.R_keep (IsS69.apart (show IsS69 w0 _ g s0_0 t367 from B.st HI0) (B.kr HO365) (by decide)) hk (fun _ h => h.2)) (fun _ h => h.1)); have n4_ := Aside0.mk (Kd.R_mono (Kd.R_keep (IsS69.apart (show IsS69 w0 _ g s0_0 t367 from B.st HI0) (B.kr HO370) (by decide)) hk (fun _ h => h.2)) (fun _ h => h.1)); have n5_ := Aside0.mk (KeepBut.trans (B.kk HK) hk (.inl rfl)); have n6_ := Aside0.mk (hb); have n7_ := Aside0.mk (hi); clear BK352 HO355 HO360 HO365 HO370 HK HB HI0; have BK352 := n0_; have HO355 := n1_; have HO360 := n2_; have HO365 := n3_; have HO370 := n4_; have HK := n5_; have HB := n6_; have HI0 := n7_; clear n0_ n1_ n2_ n3_ n4_ n5_ n6_ n7_; (try clear hb); (try clear hb2); (try clear hk); (try clear hi); have hnb23 := NB352_0.out; have hnc23 := NB0_352.out; have hcz24_0 : w22.cell? ⟨gb352, 0, none⟩ = some (.int .i64 0) := B.bc BK352 0; have hcz24_1 : w22.cell? ⟨gb352, 1, none⟩ = some (.int .i64 0) := B.bc BK352 1; have hcz24_2 : w22.cell? ⟨gb352, 2, none⟩ = some (.int .i64 0) := B.bc BK352 2; have hcz24_3 : w22.cell? ⟨gb352, 3, none⟩ = some (.int .i64 0) := B.bc BK352 3; have hfz24_0 := blk_frozen BK352.out 0; have hfz24_1 := blk_frozen BK352.out 1; have hfz24_2 := blk_frozen BK352.out 2; have hfz24_3 := blk_frozen BK352.out 3))
  refine bodyPost_ret (results_cell_row rfl _ _ gb352 32 #[.int .i64 t356, .int .i64 t361, .int .i64 t366, .int .i64 t371] (0, 0) _ rfl (B.kb0 (B.bp4 BK352)) Try.underlying32 rfl (by kernel_rfl)) rfl ?_
  exact ⟨by first | rfl | (simp [errW_none, errW_some] <;> rfl) | (simp [*, errW_none, errW_some] <;> rfl), B.st HI0, B.bs HB, B.kk HK⟩

/-! ### spec_DrawCropImage: function 16 -/
def spec_DrawCropImage.f (k : Nat) (l0 : List Int) : Option (Int × Int × Int × List Int × Int × Int × Int × Int) := (spec_newReader.f l0).bind fun bt375 => ((spec_anyImage.f k bt375.1 bt375.2).bind fun bt378 => ((spec_anyBox.f k bt375.1 bt378.2.2.2.2).bind fun bt386 => (some (bt378.1, bt378.2.1, bt378.2.2.1, bt378.2.2.2.1, bt386.1, bt386.2.1, bt386.2.2.1, bt386.2.2.2.1))))
theorem spec_DrawCropImage.mono : ∀ a0 k, LeO (spec_DrawCropImage.f k a0) (spec_DrawCropImage.f (k + 1) a0) := by
  intro a0 k
  unfold spec_DrawCropImage.f
  repeat' first
      | (with_reducible exact spec_anyBox.mono _ _ _)
      | (with_reducible exact spec_anyImage.mono _ _ _)
      | (with_reducible exact LeO.refl _)
      | (with_reducible exact LeO.none _)
      | (with_reducible refine LeO.ite ?_ ?_)
      | (with_reducible refine LeO.bind ?_ (fun _ => ?_))
      | exact spec_anyBox.mono _ _ _
      | exact spec_anyImage.mono _ _ _
      | exact LeO.none _
      | refine LeO.ite ?_ ?_
      | refine LeO.bind ?_ (fun _ => ?_)
set_option maxHeartbeats 8000000 in
set_option maxRecDepth 100000 in
theorem spec_DrawCropImage.calls (k : Nat) (A0 : Option Addr) (c0 : Nat) (l0 : List Int) (r1 : Int) (r2 : Int) (r3 : Int) (r4 : List Int) (r5 : Int) (r6 : Int) (r7 : Int) (r8 : Int) (w : World) (hr0 : Kd.C (Kd.int .u8) w A0 l0.length l0) (hc0 : l0.length ≤ c0) (h : spec_DrawCropImage.f k l0 = some (r1, r2, r3, r4, r5, r6, r7, r8)) :
    Calls Try.prog 16 #[.slice A0 l0.length c0] w fun e w' => ∃ v3_ : Value, e = .returned (.tuple #[.agg #[.int .i64 r1, .int .i64 r2, .int .i64 r3, v3_], .agg #[.int .i64 r5, .int .i64 r6, .int .i64 r7, .int .i64 r8]]) ∧ Kd.Q (Kd.int .i64) 3 w' w.heap.size (fun _ => True) v3_ r4 ∧ Below w.heap.size w w' := by
  have hu28 := Try.underlying28
  have hu32 := Try.underlying32
  have HR0 := Aside0.mk hr0
  have HC0 := Aside0.mk hc0
  clear hr0 hc0
  have HB := Aside0.mk (Below.refl w.heap.size w)
  have H : ((spec_newReader.f l0).bind fun bt375 => ((spec_anyImage.f k bt375.1 bt375.2).bind fun bt378 => ((spec_anyBox.f k bt375.1 bt378.2.2.2.2).bind fun bt386 => (some (bt378.1, bt378.2.1, bt378.2.2.1, bt378.2.2.2.1, bt386.1, bt386.2.1, bt386.2.2.1, bt386.2.2.2.1))))) = some (r1, r2, r3, r4, r5, r6, r7, r8) := h
  clear h
  replace H := Option.bind_eq_some_iff.mp H
  obtain ⟨⟨t375, t376⟩, A20, H⟩ := H
  replace H : ((spec_anyImage.f k t375 t376).bind fun bt378 => ((spec_anyBox.f k t375 bt378.2.2.2.2).bind fun bt386 => (some (bt378.1, bt378.2.1, bt378.2.2.1, bt378.2.2.2.1, bt386.1, bt386.2.1, bt386.2.2.1, bt386.2.2.2.1)))) = some (r1, r2, r3, r4, r5, r6, r7, r8) := H
  have A2 := Aside0.mk A20
  clear A20
  replace H := Option.bind_eq_some_iff.mp H
  obtain ⟨⟨t378, t379, t380, t381, t384⟩, A30, H⟩ := H
  replace H : ((spec_anyBox.f k t375 t384).bind fun bt386 => (some (t378, t379, t380, t381, bt386.1, bt386.2.1, bt386.2.2.1, bt386.2.2.2.1))) = some (r1, r2, r3, r4, r5, r6, r7, r8) := H
  have A3 := Aside0.mk A30
  clear A30
  replace H := Option.bind_eq_some_iff.mp H
  obtain ⟨⟨t386, t387, t388, t389, t390⟩, A40, H⟩ := H
  replace H : (some (t378, t379, t380, t381, t386, t387, t388, t389)) = some (r1, r2, r3, r4, r5, r6, r7, r8) := H
  have A4 := Aside0.mk A40
  clear A40
  simp only [Option.some.injEq, Prod.mk.injEq] at H
  obtain ⟨rfl, rfl, rfl, rfl, rfl, rfl, rfl, rfl⟩ := H
  go_enter Try.func16, Try.ntmps16
  try go_wp2_with (first | ((with_reducible refine gate_dst (N := 2) rfl ?_); refine box_event ?hg (N := 2) ?hd (cs := #[.int .i64 0, .int .i64 0, .int .i64 0, .slice none 0 0]) (t := 28) ?hr ?_; (case hd => rfl); (case hg => rfl); (case hr => first | (go_simp; done) | (go_simp; rfl)); intro gb373 hg w5 hbox hb; have n0_ := Aside0.mk (below_step (B.bl HB) hb); have n1_ := Aside0.mk (hbox); have n2_ := Aside0.mk (B.nle hg (below_size (B.bl HB))); have n3_ := Aside0.mk (B.nle hg (below_size (B.bl HB))); clear HB; have HB := n0_; have BK373 := n1_; have GW373 := n2_; have GE373 := n3_; clear n0_ n1_ n2_ n3_; clear hb hbox hg) | ((with_reducible refine gate_dst (N := 3) rfl ?_); refine box_event ?hg (N := 3) ?hd (cs := #[.int .i64 0, .int .i64 0, .int .i64 0, .int .i64 0]) (t := 32) ?hr ?_; (case hd => rfl); (case hg => rfl); (case hr => first | (go_simp; done) | (go_simp; rfl)); intro gb374 hg w6 hbox hb; have n0_ := Aside0.mk (blk_below (B.kb BK373) hb); have n1_ := Aside0.mk (below_step (B.bl HB) hb); have n2_ := Aside0.mk (hbox); have n3_ := Aside0.mk (B.nle hg (below_size (B.bl HB))); have n4_ := Aside0.mk (B.nle hg (below_size (B.bl HB))); have n5_ := Aside0.mk (B.nlt hg (blk_lt (B.kb BK373))); have n6_ := Aside0.mk (B.ngt hg (blk_lt (B.kb BK373))); clear BK373 HB; have BK373 := n0_; have HB := n1_; have BK374 := n2_; have GW374 := n3_; have GE374 := n4_; have NB373_374 := n5_; have NB374_373 := n6_; clear n0_ n1_ n2_ n3_ n4_ n5_ n6_; clear hb hbox hg) | ((with_reducible refine gate_callee (f := 36) rfl ?_); refine goesL_ (some 7) rfl rfl Try.func36 (by kernel_rfl) rfl #[.slice A0 l0.length c0] rfl B.am ?_; (with_reducible refine (spec_newReader.calls _ _ l0 t375 t376 w _ ?side1 ?side2 ?side3 A2.out).mono ?_); (case side1 => exact B.bl HB); (case side2 => exact HR0.out); (case side3 => exact HC0.out); rintro e w7 ⟨g377, rfl, hi, hb, hb2⟩; refine ⟨_, rfl, ?_⟩; have n0_ := Aside0.mk (blk_below (B.kb BK373) hb2); have n1_ := Aside0.mk (blk_below (B.kb BK374) hb2); have n2_ := Aside0.mk (hb); have n3_ := Aside0.mk (hi); have n4_ := Aside0.mk (IsS69.ne_blk hi (blk_below (B.kb BK373) hb2) (by decide)); have n5_ := Aside0.mk (Ne.symm (IsS69.ne_blk hi (blk_below (B.kb BK373) hb2) (by decide))); have n6_ := Aside0.mk (IsS69.ne_blk hi (blk_below (B.kb BK374) hb2) (by decide)); have n7_ := Aside0.mk (Ne.symm (IsS69.ne_blk hi (blk_below (B.kb BK374) hb2) (by decide))); clear BK373 BK374 HB; have BK373 := n0_; have BK374 := n1_; have HB := n2_; have HI377 := n3_; have NB377_373 := n4_; have NB373_377 := n5_; have NB377_374 := n6_; have NB374_377 := n7_; clear n0_ n1_ n2_ n3_ n4_ n5_ n6_ n7_; (try clear hb); (try clear hb2); (try clear hk); (try clear hi)) | ((with_reducible refine gate_callee (f := 37) rfl ?_); refine goesL_ (some 9) rfl rfl Try.func37 (by kernel_rfl) rfl #[.pointer (some ⟨g377, 0, none⟩)] rfl B.am ?_; (with_reducible refine (spec_anyImage.calls k g377 t375 t376 t378 t379 t380 t381 t384 w _ ?side1 ?side2 A3.out).mono ?_); (case side1 => exact B.st HI377); (case side2 => exact B.bs HB); rintro e w8 ⟨v382, rfl, ho0, hi, hb, hk⟩; refine ⟨_, rfl, ?_⟩; have n0_ := Aside0.mk (KeepBut.blk hk (g' := gb373) (o := .cells #[.int .i64 0, .int .i64 0, .int .i64 0, .slice none 0 0] 28 (0, 0)) (B.kb BK373) NB373_377.out (by simp)); have n1_ := Aside0.mk (KeepBut.blk hk (g' := gb374) (o := .cells #[.int .i64 0, .int .i64 0, .int .i64 0, .int .i64 0] 32 (0, 0)) (B.kb BK374) NB374_377.out (by simp)); have n2_ := Aside0.mk (Kd.Q_lower ho0 (below_size (B.bs HB))); have n3_ := Aside0.mk (hb); have n4_ := Aside0.mk (hi); clear BK373 BK374 HB HI377; have BK373 := n0_; have BK374 := n1_; have HO383 := n2_; have HB := n3_; have HI377 := n4_; clear n0_ n1_ n2_ n3_ n4_; (try clear hb); (try clear hb2); (try clear hk); (try clear hi); (try clear ho0)) | ((with_reducible refine gate_dst (N := 5) rfl ?_); refine box_event ?hg (N := 5) ?hd (cs := #[.int .i64 0, .int .i64 0, .int .i64 0, .slice none 0 0]) (t := 28) ?hr ?_; (case hd => rfl); (case hg => rfl); (case hr => first | (go_simp; done) | (go_simp; rfl)); intro gb385 hg w9 hbox hb; have n0_ := Aside0.mk (Kd.Q_below (B.kq HO383) hb); have n1_ := Aside0.mk (blk_below (B.kb BK373) hb); have n2_ := Aside0.mk (blk_below (B.kb BK374) hb); have n3_ := Aside0.mk (IsS69.below (B.st HI377) hb); have n4_ := Aside0.mk (below_step (B.bs HB) hb); have n5_ := Aside0.mk (hbox); have n6_ := Aside0.mk ((by rw [hg]; exact (below_size (B.bs HB)) : w.heap.size ≤ gb385)); have n7_ := Aside0.mk ((by rw [hg]; exact (below_size (B.bs HB)) : w.heap.size ≤ gb385)); have n8_ := Aside0.mk (B.nlt hg (blk_lt (B.kb BK373))); have n9_ := Aside0.mk (B.ngt hg (blk_lt (B.kb BK373))); have n10_ := Aside0.mk (B.nlt hg (blk_lt (B.kb BK374))); have n11_ := Aside0.mk (B.ngt hg (blk_lt (B.kb BK374))); have n12_ := Aside0.mk ((by rw [hg]; exact Nat.ne_of_lt (IsS69.lt (show IsS69 w _ g377 t375 t384 from B.st HI377)) : g377 ≠ gb385)); have n13_ := Aside0.mk ((by rw [hg]; exact Nat.ne_of_gt (IsS69.lt (show IsS69 w _ g377 t375 t384 from B.st HI377)) : gb385 ≠ g377)); clear HO383 BK373 BK374 HI377 HB; have HO383 := n0_; have BK373 := n1_; have BK374 := n2_; have HI377 := n3_; have HB := n4_; have BK385 := n5_; have GW385 := n6_; have GE385 := n7_; have NB373_385 := n8_; have NB385_373 := n9_; have NB374_385 := n10_; have NB385_374 := n11_; have NB377_385 := n12_; have NB385_377 := n13_; clear n0_ n1_ n2_ n3_ n4_ n5_ n6_ n7_ n8_ n9_ n10_ n11_ n12_ n13_; clear hb hbox hg; have hnb10 := NB385_373.out; have hnc10 := NB373_385.out; have hnb11 := NB385_374.out; have hnc11 := NB374_385.out; have hnb12 := NB385_377.out; have hnc12 := NB377_385.out; have hcz13_0 : w9.cell? ⟨gb385, 0, none⟩ = some (.int .i64 0) := B.bc BK385 0; have hcz13_1 : w9.cell? ⟨gb385, 1, none⟩ = some (.int .i64 0) := B.bc BK385 1; have hcz13_2 : w9.cell? ⟨gb385, 2, none⟩ = some (.int .i64 0) := B.bc BK385 2; have hcz13_3 : w9.cell? ⟨gb385, 3, none⟩ = some (.slice none 0 0) := B.bc BK385 3; have hfz13_0 := blk_frozen BK385.out 0; have hfz13_1 := blk_frozen BK385.out 1; have hfz13_2 := blk_frozen BK385.out 2; have hfz13_3 := blk_frozen BK385.out 3; obtain ⟨Ao14, co14, eo14, _⟩ := Kd.Q_slice HO383.out; subst eo14))
  have n0_ : Aside0 (Kd.Q (Kd.int .i64) 3 ((((w9.setCell ⟨gb385, 0, none⟩ (.int .i64 t378)).setCell ⟨gb385, 1, none⟩ (.int .i64 t379)).setCell ⟨gb385, 2, none⟩ (.int .i64 t380)).setCell ⟨gb385, 3, none⟩ (.slice Ao14 t381.length co14)) w.heap.size (fun _ => True) (.slice Ao14 t381.length co14) t381) := ⟨by (with_reducible repeat (first | apply Kd.Q_alloc | apply Kd.Q_drewN | apply Kd.Q_drew)); exact Kd.Q_mono (Kd.Q_far (p := ⟨gb385, 3, none⟩) (Kd.Q_far (p := ⟨gb385, 2, none⟩) (Kd.Q_far (p := ⟨gb385, 1, none⟩) (Kd.Q_far (p := ⟨gb385, 0, none⟩) (Kd.Q_types HO383.out BK385.out (by decide)) (fun _ hk => hk.2) (.int .i64 t378)) (fun _ hk => hk.2) (.int .i64 t379)) (fun _ hk => hk.2) (.int .i64 t380)) (fun _ hk => hk.2) (.slice Ao14 t381.length co14)) (fun _ hk => trivial)⟩
  have n1_ : Aside0 (((((w9.setCell ⟨gb385, 0, none⟩ (.int .i64 t378)).setCell ⟨gb385, 1, none⟩ (.int .i64 t379)).setCell ⟨gb385, 2, none⟩ (.int .i64 t380)).setCell ⟨gb385, 3, none⟩ (.slice Ao14 t381.length co14)).heap[gb373]? = some (.cells #[.int .i64 0, .int .i64 0, .int .i64 0, .slice none 0 0] 28 (0, 0))) := ⟨B.kb0 (B.bf4 BK373 NB373_385)⟩
  have n2_ : Aside0 (((((w9.setCell ⟨gb385, 0, none⟩ (.int .i64 t378)).setCell ⟨gb385, 1, none⟩ (.int .i64 t379)).setCell ⟨gb385, 2, none⟩ (.int .i64 t380)).setCell ⟨gb385, 3, none⟩ (.slice Ao14 t381.length co14)).heap[gb374]? = some (.cells #[.int .i64 0, .int .i64 0, .int .i64 0, .int .i64 0] 32 (0, 0))) := ⟨B.kb0 (B.bf4 BK374 NB374_385)⟩
  have n3_ : Aside0 (((((w9.setCell ⟨gb385, 0, none⟩ (.int .i64 t378)).setCell ⟨gb385, 1, none⟩ (.int .i64 t379)).setCell ⟨gb385, 2, none⟩ (.int .i64 t380)).setCell ⟨gb385, 3, none⟩ (.slice Ao14 t381.length co14)).heap[gb385]? = some (.cells #[.int .i64 t378, .int .i64 t379, .int .i64 t380, .slice Ao14 t381.length co14] 28 (0, 0))) := ⟨B.kb0 (B.bp4 BK385)⟩
  have n4_ : Aside0 (IsS69 w ((((w9.setCell ⟨gb385, 0, none⟩ (.int .i64 t378)).setCell ⟨gb385, 1, none⟩ (.int .i64 t379)).setCell ⟨gb385, 2, none⟩ (.int .i64 t380)).setCell ⟨gb385, 3, none⟩ (.slice Ao14 t381.length co14)) g377 t375 t384) := ⟨B.st HI377⟩
  have n5_ : Aside0 (Below w.heap.size w ((((w9.setCell ⟨gb385, 0, none⟩ (.int .i64 t378)).setCell ⟨gb385, 1, none⟩ (.int .i64 t379)).setCell ⟨gb385, 2, none⟩ (.int .i64 t380)).setCell ⟨gb385, 3, none⟩ (.slice Ao14 t381.length co14))) := ⟨B.bs HB⟩
  (try clear HO383)
  (try clear BK373)
  (try clear BK374)
  (try clear BK385)
  (try clear HI377)
  (try clear HB)
  generalize ((((w9.setCell ⟨gb385, 0, none⟩ (.int .i64 t378)).setCell ⟨gb385, 1, none⟩ (.int .i64 t379)).setCell ⟨gb385, 2, none⟩ (.int .i64 t380)).setCell ⟨gb385, 3, none⟩ (.slice Ao14 t381.length co14)) = w15 at n0_ n1_ n2_ n3_ n4_ n5_ ⊢
  have HO383 := n0_
  have BK373 := n1_
  have BK374 := n2_
  have BK385 := n3_
  have HI377 := n4_
  have HB := n5_
  clear n0_ n1_ n2_ n3_ n4_ n5_
  have n0_ := Aside0.mk (Kd.Q_drew HO383.out)
  have n1_ := Aside0.mk (blk_drew BK373.out)
  have n2_ := Aside0.mk (blk_drew BK374.out)
  have n3_ := Aside0.mk (blk_drew BK385.out)
  have n4_ := Aside0.mk (IsS69.drew HI377.out)
  have n5_ := Aside0.mk (below_drew1 HB.out)
  clear HO383 BK373 BK374 BK385 HI377 HB
  have HO383 := n0_
  have BK373 := n1_
  have BK374 := n2_
  have BK385 := n3_
  have HI377 := n4_
  have HB := n5_
  clear n0_ n1_ n2_ n3_ n4_ n5_
  refine start_ (n := 5) (S := fun w' => w'.cell? ⟨gb385, 0, none⟩ = some (.int .i64 t378) ∧ w'.cell? ⟨gb385, 1, none⟩ = some (.int .i64 t379) ∧ w'.cell? ⟨gb385, 2, none⟩ = some (.int .i64 t380) ∧ w'.cell? ⟨gb385, 3, none⟩ = some (.slice Ao14 t381.length co14)) (ds := []) #[false, false, false, false, false] (by kernel_rfl) rfl rfl ⟨B.bc BK385 0, B.bc BK385 1, B.bc BK385 2, B.bc BK385 3⟩ (fun hHeld => ?_)
  generalize w15.drew = w16 at HO383 BK373 BK374 BK385 HI377 HB hHeld ⊢
  refine pure_ (i := 1) (N := some 11) (v := ?_) (a' := ?_) #[false, true, false, false, false] rfl rfl (by kernel_rfl) (fun _ _ _ h => h) (Or.inl ⟨by rfl, ?_⟩) ?_ ?_
  rotate_left
  · intro w'
    go_simp
    with_reducible rfl
  rotate_left
  · simp only [Act.put, List.setIfInBounds_toArray, List.set_cons_zero, List.set_cons_succ, i64_w, i32_w]
    rfl
  refine take_ (i := 0) (N := some 10) (v := ?_) (a' := ?_) #[true, true, false, false, false] rfl rfl (by kernel_rfl) (fun _ _ _ h => h) (Or.inl ⟨by rfl, ?_⟩) hHeld ?_ ?_
  rotate_left
  · rintro w' ⟨s0, s1, s2, s3⟩
    go_simp
    with_reducible rfl
  rotate_left
  · simp only [Act.put, List.setIfInBounds_toArray, List.set_cons_zero, List.set_cons_succ, i64_w, i32_w]
    rfl
  refine one_ (i := 2) (N := some 12) #[true, true, true, false, false] rfl rfl (by kernel_rfl) (by decide) (fun K hK => ?_)
  refine goes_ Try.func38 (by kernel_rfl) rfl #[.pointer (some ⟨g377, 0, none⟩)] (by rfl) rfl rfl B.am ?_
  with_reducible refine (spec_anyBox.calls k g377 t375 t384 t386 t387 t388 t389 t390 w _ ?side1 ?side2 A4.out).mono ?_
  (case side1 => exact B.st HI377)
  (case side2 => exact B.bs HB)
  rintro e w17 ⟨rfl, hi, hb, hk⟩
  refine ⟨_, rfl, ?_⟩
  have n0_ := Aside0.mk (KeepBut.blk hk (g' := gb373) (o := .cells #[.int .i64 0, .int .i64 0, .int .i64 0, .slice none 0 0] 28 (0, 0)) (B.kb BK373) NB373_377.out (by simp))
  have n1_ := Aside0.mk (KeepBut.blk hk (g' := gb374) (o := .cells #[.int .i64 0, .int .i64 0, .int .i64 0, .int .i64 0] 32 (0, 0)) (B.kb BK374) NB374_377.out (by simp))
  have n2_ := Aside0.mk (Kd.Q_mono (Kd.Q_keep (IsS69.apartQ (show IsS69 w _ g377 t375 t384 from B.st HI377) (B.kq HO383) (by decide)) hk (fun _ h => h.2)) (fun _ h => h.1))
  have n3_ := Aside0.mk (KeepBut.blk hk (g' := gb385) (o := .cells #[.int .i64 t378, .int .i64 t379, .int .i64 t380, .slice Ao14 t381.length co14] 28 (0, 0)) (B.kb BK385) NB385_377.out (by simp))
  have n4_ := Aside0.mk (hb)
  have n5_ := Aside0.mk (hi)
  clear BK373 BK374 HO383 BK385 HB HI377
  have BK373 := n0_
  have BK374 := n1_
  have HO383 := n2_
  have BK385 := n3_
  have HB := n4_
  have HI377 := n5_
  clear n0_ n1_ n2_ n3_ n4_ n5_
  (try clear hb)
  (try clear hb2)
  (try clear hk)
  (try clear hi)
  refine hK.out _ _ ⟨B.bc BK385 0, B.bc BK385 1, B.bc BK385 2, B.bc BK385 3⟩ (fun hHeld => ?_)
  clear hK K
  refine norm_ (a' := ?_) ?_ ?_
  rotate_left
  · show Act.put _ (some 12) _ = _
    simp only [Act.put, List.setIfInBounds_toArray, List.set_cons_zero, List.set_cons_succ, i64_w, i32_w]
    rfl
  refine one_ (i := 3) (N := none) #[true, true, true, true, false] rfl rfl (by kernel_rfl) (by decide) (fun K hK => ?_)
  have hs18 : w17.cell? ⟨gb373, 0, none⟩ = some (.int .i64 0) := B.bc BK373 0
  have hfs18 := blk_frozen BK373.out 0
  have hns18_1 := NB374_373.out
  have hns18_2 := NB385_373.out
  have hms18_1 := NB373_374.out
  have hms18_2 := NB373_385.out
  have hs19 : w17.cell? ⟨gb373, 1, none⟩ = some (.int .i64 0) := B.bc BK373 1
  have hfs19 := blk_frozen BK373.out 1
  have hns19_1 := NB374_373.out
  have hns19_2 := NB385_373.out
  have hms19_1 := NB373_374.out
  have hms19_2 := NB373_385.out
  have hs20 : w17.cell? ⟨gb373, 2, none⟩ = some (.int .i64 0) := B.bc BK373 2
  have hfs20 := blk_frozen BK373.out 2
  have hns20_1 := NB374_373.out
  have hns20_2 := NB385_373.out
  have hms20_1 := NB373_374.out
  have hms20_2 := NB373_385.out
  have hs21 : w17.cell? ⟨gb373, 3, none⟩ = some (.slice none 0 0) := B.bc BK373 3
  have hfs21 := blk_frozen BK373.out 3
  have hns21_1 := NB374_373.out
  have hns21_2 := NB385_373.out
  have hms21_1 := NB373_374.out
  have hms21_2 := NB373_385.out
  refine skip_ (w1 := ?_) (by rfl) rfl ?_ ?_
  rotate_left
  · go_simp
    rfl
  refine hK.out _ _ ⟨(B.cf4 NB385_373 hHeld.1), (B.cf4 NB385_373 hHeld.2.1), (B.cf4 NB385_373 hHeld.2.2.1), (B.cf4 NB385_373 hHeld.2.2.2)⟩ (fun hHeld => ?_)
  clear hK K
  refine one_ (i := 4) (N := none) #[true, true, true, true, true] rfl rfl (by kernel_rfl) (by decide) (fun K hK => ?_)
  have hs22 : w17.cell? ⟨gb374, 0, none⟩ = some (.int .i64 0) := B.bc BK374 0
  have hfs22 := blk_frozen BK374.out 0
  have hns22_0 := NB373_374.out
  have hns22_2 := NB385_374.out
  have hms22_0 := NB374_373.out
  have hms22_2 := NB374_385.out
  have hs23 : w17.cell? ⟨gb374, 1, none⟩ = some (.int .i64 0) := B.bc BK374 1
  have hfs23 := blk_frozen BK374.out 1
  have hns23_0 := NB373_374.out
  have hns23_2 := NB385_374.out
  have hms23_0 := NB374_373.out
  have hms23_2 := NB374_385.out
  have hs24 : w17.cell? ⟨gb374, 2, none⟩ = some (.int .i64 0) := B.bc BK374 2
  have hfs24 := blk_frozen BK374.out 2
  have hns24_0 := NB373_374.out
  have hns24_2 := NB385_374.out
  have hms24_0 := NB374_373.out
  have hms24_2 := NB374_385.out
  have hs25 : w17.cell? ⟨gb374, 3, none⟩ = some (.int .i64 0) := B.bc BK374 3
  have hfs25 := blk_frozen BK374.out 3
  have hns25_0 := NB373_374.out
  have hns25_2 := NB385_374.out
  have hms25_0 := NB374_373.out
  have hms25_2 := NB374_385.out
  refine skip_ (w1 := ?_) (by rfl) rfl ?_ ?_
  rotate_left
  · go_simp
    rfl
  refine hK.out _ _ ⟨(B.cf4 NB385_374 hHeld.1), (B.cf4 NB385_374 hHeld.2.1), (B.cf4 NB385_374 hHeld.2.2.1), (B.cf4 NB385_374 hHeld.2.2.2)⟩ (fun hHeld => ?_)
  clear hK K
  refine done_ (by kernel_rfl) ?_
  try go_wp2
  refine bodyPost_ret (results_cc rfl _ _ gb373 gb374 28 32 #[.int .i64 t378, .int .i64 t379, .int .i64 t380, .slice Ao14 t381.length co14] #[.int .i64 t386, .int .i64 t387, .int .i64 t388, .int .i64 t389] (0, 0) (0, 0) _ _ rfl (by (with_reducible repeat (first | refine blk_drewN ?_ _ | refine blk_drew ?_ | refine blk_alloc ?_ _)); refine blk_far ?_ NB373_374.out _; (with_reducible repeat (first | refine blk_drewN ?_ _ | refine blk_drew ?_ | refine blk_alloc ?_ _)); refine blk_far ?_ NB373_374.out _; (with_reducible repeat (first | refine blk_drewN ?_ _ | refine blk_drew ?_ | refine blk_alloc ?_ _)); refine blk_far ?_ NB373_374.out _; (with_reducible repeat (first | refine blk_drewN ?_ _ | refine blk_drew ?_ | refine blk_alloc ?_ _)); refine blk_far ?_ NB373_374.out _; (with_reducible repeat (first | refine blk_drewN ?_ _ | refine blk_drew ?_ | refine blk_alloc ?_ _)); refine blk_put (cs := #[.int .i64 t378, .int .i64 t379, .int .i64 t380, .slice none 0 0]) ?_ 3 _ rfl; (with_reducible repeat (first | refine blk_drewN ?_ _ | refine blk_drew ?_ | refine blk_alloc ?_ _)); refine blk_put (cs := #[.int .i64 t378, .int .i64 t379, .int .i64 0, .slice none 0 0]) ?_ 2 _ rfl; (with_reducible repeat (first | refine blk_drewN ?_ _ | refine blk_drew ?_ | refine blk_alloc ?_ _)); refine blk_put (cs := #[.int .i64 t378, .int .i64 0, .int .i64 0, .slice none 0 0]) ?_ 1 _ rfl; (with_reducible repeat (first | refine blk_drewN ?_ _ | refine blk_drew ?_ | refine blk_alloc ?_ _)); refine blk_put (cs := #[.int .i64 0, .int .i64 0, .int .i64 0, .slice none 0 0]) ?_ 0 _ rfl; (with_reducible repeat (first | refine blk_drewN ?_ _ | refine blk_drew ?_ | refine blk_alloc ?_ _)); exact BK373.out) Try.underlying28 rfl (by kernel_rfl) rfl (by (with_reducible repeat (first | refine blk_drewN ?_ _ | refine blk_drew ?_ | refine blk_alloc ?_ _)); refine blk_put (cs := #[.int .i64 t386, .int .i64 t387, .int .i64 t388, .int .i64 0]) ?_ 3 _ rfl; (with_reducible repeat (first | refine blk_drewN ?_ _ | refine blk_drew ?_ | refine blk_alloc ?_ _)); refine blk_put (cs := #[.int .i64 t386, .int .i64 t387, .int .i64 0, .int .i64 0]) ?_ 2 _ rfl; (with_reducible repeat (first | refine blk_drewN ?_ _ | refine blk_drew ?_ | refine blk_alloc ?_ _)); refine blk_put (cs := #[.int .i64 t386, .int .i64 0, .int .i64 0, .int .i64 0]) ?_ 1 _ rfl; (with_reducible repeat (first | refine blk_drewN ?_ _ | refine blk_drew ?_ | refine blk_alloc ?_ _)); refine blk_put (cs := #[.int .i64 0, .int .i64 0, .int .i64 0, .int .i64 0]) ?_ 0 _ rfl; (with_reducible repeat (first | refine blk_drewN ?_ _ | refine blk_drew ?_ | refine blk_alloc ?_ _)); refine blk_far ?_ NB374_373.out _; (with_reducible repeat (first | refine blk_drewN ?_ _ | refine blk_drew ?_ | refine blk_alloc ?_ _)); refine blk_far ?_ NB374_373.out _; (with_reducible repeat (first | refine blk_drewN ?_ _ | refine blk_drew ?_ | refine blk_alloc ?_ _)); refine blk_far ?_ NB374_373.out _; (with_reducible repeat (first | refine blk_drewN ?_ _ | refine blk_drew ?_ | refine blk_alloc ?_ _)); refine blk_far ?_ NB374_373.out _; (with_reducible repeat (first | refine blk_drewN ?_ _ | refine blk_drew ?_ | refine blk_alloc ?_ _)); exact BK374.out) Try.underlying32 rfl (by kernel_rfl)) rfl ?_
  exact ⟨_, by first | rfl | (simp [errW_none, errW_some] <;> rfl) | (simp [*, errW_none, errW_some] <;> rfl), by (with_reducible repeat (first | apply Kd.Q_alloc | apply Kd.Q_drewN | apply Kd.Q_drew)); exact Kd.Q_mono (Kd.Q_far (p := ⟨gb374, 3, none⟩) (Kd.Q_far (p := ⟨gb374, 2, none⟩) (Kd.Q_far (p := ⟨gb374, 1, none⟩) (Kd.Q_far (p := ⟨gb374, 0, none⟩) (Kd.Q_far (p := ⟨gb373, 3, none⟩) (Kd.Q_far (p := ⟨gb373, 2, none⟩) (Kd.Q_far (p := ⟨gb373, 1, none⟩) (Kd.Q_far (p := ⟨gb373, 0, none⟩) (Kd.Q_types (Kd.Q_types HO383.out BK373.out (by decide)) BK374.out (by decide)) (fun _ hk => hk.1.2) (.int .i64 t378)) (fun _ hk => hk.1.2) (.int .i64 t379)) (fun _ hk => hk.1.2) (.int .i64 t380)) (fun _ hk => hk.1.2) (.slice Ao14 t381.length co14)) (fun _ hk => hk.2) (.int .i64 t386)) (fun _ hk => hk.2) (.int .i64 t387)) (fun _ hk => hk.2) (.int .i64 t388)) (fun _ hk => hk.2) (.int .i64 t389)) (fun _ hk => trivial), B.bs HB⟩

end Go.Proofs.Ytmljcnhecjlinaa.Q
