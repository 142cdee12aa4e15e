-- Written by a program of this session (the kit's printer, with hand-proved contracts for the functions that it does not take).
import Derived.Test.YtegicfkcdmhjgaaQ0
import Derived.Test.YtegicfkcdmhjgaaQ5
import Derived.Test.YtegicfkcdmhjgaaQ6
import Derived.Test.YtegicfkcdmhjgaaQ7
namespace Go.Proofs.Ytegicfkcdmhjgaa.Q
open Go.RowKit Go.Proofs.YtegicfkcdmhjgaaW.PrintWords Go.Proofs.YtegicfkcdmhjgaaW.PrintLast Go.Proofs.YtegicfkcdmhjgaaW.PrintMore
attribute [local go_sem] max2_int min2_int max_two min_two max_three min_three max_four min_four   -- for this text's walks alone
set_option linter.unusedVariables false
set_option linter.unusedSimpArgs false

/-! ### spec_anyPlace: function 48 -/
def spec_anyPlace.f (k : Nat) (s0_0 : List Int) (s0_1 : Int) : Option (Int × Int) := (spec_reader_one.f k s0_0 s0_1 (([0, 1, 2, 3, 5, 7, (-1), 15, 16] : List Int))).bind fun bt389 => (some (bt389.1, bt389.2))
theorem spec_anyPlace.mono : ∀ a0 a1 k, LeO (spec_anyPlace.f k a0 a1) (spec_anyPlace.f (k + 1) a0 a1) := by
  intro a0 a1 k
  unfold spec_anyPlace.f
  repeat' first
      | (with_reducible exact spec_reader_one.mono _ _ _ _)
      | (with_reducible exact LeO.refl _)
      | (with_reducible exact LeO.none _)
      | (with_reducible refine LeO.ite ?_ ?_)
      | (with_reducible refine LeO.bind ?_ (fun _ => ?_))
      | exact spec_reader_one.mono _ _ _ _
      | exact LeO.none _
      | refine LeO.ite ?_ ?_
      | refine LeO.bind ?_ (fun _ => ?_)
set_option maxHeartbeats 8000000 in
set_option maxRecDepth 100000 in
theorem spec_anyPlace.calls (k : Nat) (g : Nat) (s0_0 : List Int) (s0_1 : Int) (r1 : Int) (r2 : Int) (w0 w : World) (hI : IsS67 w0 w g s0_0 s0_1) (hB : Below w0.heap.size w0 w) (h : spec_anyPlace.f k s0_0 s0_1 = some (r1, r2)) :
    Calls Try.prog 48 #[.pointer (some ⟨g, 0, none⟩)] w fun e w' => e = .returned (.int .i64 r1) ∧ IsS67 w0 w' g s0_0 r2 ∧ Below w0.heap.size w0 w' ∧ KeepBut w w' g none := by
  have HI0 := Aside0.mk hI
  have HK := Aside0.mk (KeepBut.refl w g none)
  have HL := Aside0.mk hB.size
  clear hI
  have HW0 := Aside0.mk hB.size
  have HB := Aside0.mk hB
  clear hB
  have H : ((spec_reader_one.f k s0_0 s0_1 (([0, 1, 2, 3, 5, 7, (-1), 15, 16] : List Int))).bind fun bt389 => (some (bt389.1, bt389.2))) = some (r1, r2) := h
  clear h
  obtain ⟨y386, hy386⟩ : ∃ y_ : List Int, y_ = (([0, 1, 2, 3, 5, 7, (-1), 15, 16] : List Int)) := ⟨_, rfl⟩
  replace H : ((spec_reader_one.f k s0_0 s0_1 y386).bind fun bt389 => (some (bt389.1, bt389.2))) = some (r1, r2) := by first | (rw [hy386]; with_reducible exact H) | (have H2_ := (Option.bind_some _ _).symm.trans H; rw [hy386]; with_reducible exact H2_) | (have H2_ := (Option.bind_some _ _).symm.trans H; with_reducible exact H2_) | with_reducible exact H | (rw [hy386]; exact H) | exact H
  have Ny386 := Aside0.mk hy386
  clear hy386
  replace H := Option.bind_eq_some_iff.mp H
  obtain ⟨⟨t389, t390⟩, A20, H⟩ := H
  replace H : (some (t389, t390)) = some (r1, r2) := H
  have A2 := Aside0.mk A20
  clear A20
  simp only [Option.some.injEq, Prod.mk.injEq] at H
  obtain ⟨rfl, rfl⟩ := H
  go_enter Try.func48, Try.ntmps48
  go_wp2_with (first | ((with_reducible refine gate_dst (N := 4) rfl ?_); refine Kd.R_lit (Kd.int .i64) _ 3 ?hg (N := 4) ?hd (xs := ([0, 1, 2, 3, 5, 7, (-1), 15, 16] : List Int)) (inner := [.int .i64 0, .int .i64 1, .int .i64 2, .int .i64 3, .int .i64 5, .int .i64 7, .int .i64 (-1), .int .i64 15, .int .i64 16]) (ok := fun _ => True) (okp := fun _ => True) ?hr ?hp (fun _ hk => hk) trivial (Below.refl _ _) (Nat.le_refl _) (by simp) ?_; (case hd => rfl); (case hg => rfl); (case hr => first | (go_simp; done) | (go_simp; rfl)); (case hp => exact (Reps.one (show Kd.M (Kd.int .i64) _ _ _ 0 [.int .i64 0] from rfl) (Reps.one (show Kd.M (Kd.int .i64) _ _ _ 1 [.int .i64 1] from rfl) (Reps.one (show Kd.M (Kd.int .i64) _ _ _ 2 [.int .i64 2] from rfl) (Reps.one (show Kd.M (Kd.int .i64) _ _ _ 3 [.int .i64 3] from rfl) (Reps.one (show Kd.M (Kd.int .i64) _ _ _ 5 [.int .i64 5] from rfl) (Reps.one (show Kd.M (Kd.int .i64) _ _ _ 7 [.int .i64 7] from rfl) (Reps.one (show Kd.M (Kd.int .i64) _ _ _ (-1) [.int .i64 (-1)] from rfl) (Reps.one (show Kd.M (Kd.int .i64) _ _ _ 15 [.int .i64 15] from rfl) (Reps.one (show Kd.M (Kd.int .i64) _ _ _ 16 [.int .i64 16] from rfl) (Reps.none _ _))))))))))); intro v387 w3 ho4 hb hg_ hnew_; clear hg_ hnew_; (first | rw [← Ny386.out] at ho4 | (simp only [Int.reduceToNat] at ho4; rw [← Ny386.out] at ho4)); have n0_ := Aside0.mk (Kd.R_lower ho4 (keep_size (w := w) (g := g) (row := none) (B.kk HK))); have n1_ := Aside0.mk (IsS67.below (B.st HI0) hb); have n2_ := Aside0.mk (KeepBut.trans (B.kk HK) (KeepBut.of_below hb g none) (.inl rfl)); have n3_ := Aside0.mk (below_step (B.bs HB) hb); clear HI0 HK HB; have HO388 := n0_; have HI0 := n1_; have HK := n2_; have HB := n3_; clear n0_ n1_ n2_ n3_; clear hb ho4; obtain ⟨Ao5, co5, eo5⟩ := Kd.R_slice HO388.out; subst eo5) | ((with_reducible refine gate_callee (f := 64) rfl ?_); refine goesL_ (some 5) rfl rfl Try.func64 (by kernel_rfl) rfl #[.pointer (some ⟨g, 0, none⟩), .slice Ao5 y386.length co5] rfl B.am ?_; (with_reducible refine (spec_reader_one.calls k g s0_0 s0_1 _ _ y386 t389 t390 w0 _ ?side1 ?side2 ?side3 ?side4 ?side5 A2.out).mono ?_); (case side1 => exact B.st HI0); (case side2 => exact B.bs HB); (case side3 => exact B.kc ((Kd.R_reads' HO388.out).2.2)); (case side4 => exact (Kd.R_reads' HO388.out).2.1); (case side5 => exact far_slice (IsS67.own_ne HI0.out HO388.out (by decide))); rintro e w6 ⟨rfl, hi, hb, hk⟩; refine ⟨_, rfl, ?_⟩; have n0_ := Aside0.mk (Kd.R_mono (Kd.R_keep (IsS67.apart (show IsS67 w0 _ g s0_0 s0_1 from B.st HI0) (B.kr HO388) (by decide)) hk (fun _ h => h.2)) (fun _ h => h.1)); have n1_ := Aside0.mk (KeepBut.trans (B.kk HK) hk (.inl rfl)); have n2_ := Aside0.mk (hb); have n3_ := Aside0.mk (hi); clear HO388 HK HB HI0; have HO388 := n0_; have HK := n1_; have HB := n2_; have HI0 := n3_; clear n0_ n1_ n2_ n3_; (try clear hb); (try clear hb2); (try clear hk); (try clear hi)))
  go_ret
  exact ⟨by first | rfl | (simp [errW_none, errW_some] <;> rfl) | (simp [*, errW_none, errW_some] <;> rfl), B.st HI0, B.bs HB, B.kk HK⟩

/-! ### spec_DrawPixelAt: function 26 -/
def spec_DrawPixelAt.f (k : Nat) (l0 : List Int) : Option (Int × Int × Int × List Int × Int × Int) := (spec_newReader.f l0).bind fun bt392 => ((spec_anyImage.f k bt392.1 bt392.2).bind fun bt395 => ((spec_anyPlace.f k bt392.1 bt395.2.2.2.2).bind fun bt403 => ((spec_anyPlace.f k bt392.1 bt403.2).bind fun bt405 => (some (bt395.1, bt395.2.1, bt395.2.2.1, bt395.2.2.2.1, bt403.1, bt405.1)))))
theorem spec_DrawPixelAt.mono : ∀ a0 k, LeO (spec_DrawPixelAt.f k a0) (spec_DrawPixelAt.f (k + 1) a0) := by
  intro a0 k
  unfold spec_DrawPixelAt.f
  repeat' first
      | (with_reducible exact spec_anyImage.mono _ _ _)
      | (with_reducible exact spec_anyPlace.mono _ _ _)
      | (with_reducible exact LeO.refl _)
      | (with_reducible exact LeO.none _)
      | (with_reducible refine LeO.ite ?_ ?_)
      | (with_reducible refine LeO.bind ?_ (fun _ => ?_))
      | exact spec_anyImage.mono _ _ _
      | exact spec_anyPlace.mono _ _ _
      | exact LeO.none _
      | refine LeO.ite ?_ ?_
      | refine LeO.bind ?_ (fun _ => ?_)
set_option maxHeartbeats 8000000 in
set_option maxRecDepth 100000 in
theorem spec_DrawPixelAt.calls (k : Nat) (A0 : Option Addr) (c0 : Nat) (l0 : List Int) (r1 : Int) (r2 : Int) (r3 : Int) (r4 : List Int) (r5 : Int) (r6 : Int) (w : World) (hr0 : Kd.C (Kd.int .u8) w A0 l0.length l0) (hc0 : l0.length ≤ c0) (h : spec_DrawPixelAt.f k l0 = some (r1, r2, r3, r4, r5, r6)) :
    Calls Try.prog 26 #[.slice A0 l0.length c0] w fun e w' => ∃ v3_ : Value, e = .returned (.tuple #[.agg #[.int .i64 r1, .int .i64 r2, .int .i64 r3, v3_], .int .i64 r5, .int .i64 r6]) ∧ Kd.Q (Kd.int .i64) 3 w' w.heap.size (fun _ => True) v3_ r4 ∧ Below w.heap.size w w' := by
  have hu27 := Try.underlying27
  have HR0 := Aside0.mk hr0
  have HC0 := Aside0.mk hc0
  clear hr0 hc0
  have HB := Aside0.mk (Below.refl w.heap.size w)
  have H : ((spec_newReader.f l0).bind fun bt392 => ((spec_anyImage.f k bt392.1 bt392.2).bind fun bt395 => ((spec_anyPlace.f k bt392.1 bt395.2.2.2.2).bind fun bt403 => ((spec_anyPlace.f k bt392.1 bt403.2).bind fun bt405 => (some (bt395.1, bt395.2.1, bt395.2.2.1, bt395.2.2.2.1, bt403.1, bt405.1)))))) = some (r1, r2, r3, r4, r5, r6) := h
  clear h
  replace H := Option.bind_eq_some_iff.mp H
  obtain ⟨⟨t392, t393⟩, A20, H⟩ := H
  replace H : ((spec_anyImage.f k t392 t393).bind fun bt395 => ((spec_anyPlace.f k t392 bt395.2.2.2.2).bind fun bt403 => ((spec_anyPlace.f k t392 bt403.2).bind fun bt405 => (some (bt395.1, bt395.2.1, bt395.2.2.1, bt395.2.2.2.1, bt403.1, bt405.1))))) = some (r1, r2, r3, r4, r5, r6) := H
  have A2 := Aside0.mk A20
  clear A20
  replace H := Option.bind_eq_some_iff.mp H
  obtain ⟨⟨t395, t396, t397, t398, t401⟩, A30, H⟩ := H
  replace H : ((spec_anyPlace.f k t392 t401).bind fun bt403 => ((spec_anyPlace.f k t392 bt403.2).bind fun bt405 => (some (t395, t396, t397, t398, bt403.1, bt405.1)))) = some (r1, r2, r3, r4, r5, r6) := H
  have A3 := Aside0.mk A30
  clear A30
  replace H := Option.bind_eq_some_iff.mp H
  obtain ⟨⟨t403, t404⟩, A40, H⟩ := H
  replace H : ((spec_anyPlace.f k t392 t404).bind fun bt405 => (some (t395, t396, t397, t398, t403, bt405.1))) = some (r1, r2, r3, r4, r5, r6) := H
  have A4 := Aside0.mk A40
  clear A40
  replace H := Option.bind_eq_some_iff.mp H
  obtain ⟨⟨t405, t406⟩, A50, H⟩ := H
  replace H : (some (t395, t396, t397, t398, t403, t405)) = some (r1, r2, r3, r4, r5, r6) := H
  have A5 := Aside0.mk A50
  clear A50
  simp only [Option.some.injEq, Prod.mk.injEq] at H
  obtain ⟨rfl, rfl, rfl, rfl, rfl, rfl⟩ := H
  go_enter Try.func26, Try.ntmps26
  try go_wp2_with (first | ((with_reducible refine gate_dst (N := 2) rfl ?_); refine box_event ?hg (N := 2) ?hd (cs := #[.int .i64 0, .int .i64 0, .int .i64 0, .slice none 0 0]) (t := 27) ?hr ?_; (case hd => rfl); (case hg => rfl); (case hr => first | (go_simp; done) | (go_simp; rfl)); intro gb391 hg w6 hbox hb; have n0_ := Aside0.mk (below_step (B.bl HB) hb); have n1_ := Aside0.mk (hbox); have n2_ := Aside0.mk (B.nle hg (below_size (B.bl HB))); have n3_ := Aside0.mk (B.nle hg (below_size (B.bl HB))); clear HB; have HB := n0_; have BK391 := n1_; have GW391 := n2_; have GE391 := n3_; clear n0_ n1_ n2_ n3_; clear hb hbox hg) | ((with_reducible refine gate_callee (f := 46) rfl ?_); refine goesL_ (some 9) rfl rfl Try.func46 (by kernel_rfl) rfl #[.slice A0 l0.length c0] rfl B.am ?_; (with_reducible refine (spec_newReader.calls _ _ l0 t392 t393 w _ ?side1 ?side2 ?side3 A2.out).mono ?_); (case side1 => exact B.bl HB); (case side2 => exact HR0.out); (case side3 => exact HC0.out); rintro e w7 ⟨g394, rfl, hi, hb, hb2⟩; refine ⟨_, rfl, ?_⟩; have n0_ := Aside0.mk (blk_below (B.kb BK391) hb2); have n1_ := Aside0.mk (hb); have n2_ := Aside0.mk (hi); have n3_ := Aside0.mk (IsS67.ne_blk hi (blk_below (B.kb BK391) hb2) (by decide)); have n4_ := Aside0.mk (Ne.symm (IsS67.ne_blk hi (blk_below (B.kb BK391) hb2) (by decide))); clear BK391 HB; have BK391 := n0_; have HB := n1_; have HI394 := n2_; have NB394_391 := n3_; have NB391_394 := n4_; clear n0_ n1_ n2_ n3_ n4_; (try clear hb); (try clear hb2); (try clear hk); (try clear hi)) | ((with_reducible refine gate_callee (f := 47) rfl ?_); refine goesL_ (some 11) rfl rfl Try.func47 (by kernel_rfl) rfl #[.pointer (some ⟨g394, 0, none⟩)] rfl B.am ?_; (with_reducible refine (spec_anyImage.calls k g394 t392 t393 t395 t396 t397 t398 t401 w _ ?side1 ?side2 A3.out).mono ?_); (case side1 => exact B.st HI394); (case side2 => exact B.bs HB); rintro e w8 ⟨v399, rfl, ho0, hi, hb, hk⟩; refine ⟨_, rfl, ?_⟩; have n0_ := Aside0.mk (KeepBut.blk hk (g' := gb391) (o := .cells #[.int .i64 0, .int .i64 0, .int .i64 0, .slice none 0 0] 27 (0, 0)) (B.kb BK391) NB391_394.out (by simp)); have n1_ := Aside0.mk (Kd.Q_lower ho0 (below_size (B.bs HB))); have n2_ := Aside0.mk (hb); have n3_ := Aside0.mk (hi); clear BK391 HB HI394; have BK391 := n0_; have HO400 := n1_; have HB := n2_; have HI394 := n3_; clear n0_ n1_ n2_ n3_; (try clear hb); (try clear hb2); (try clear hk); (try clear hi); (try clear ho0)) | ((with_reducible refine gate_dst (N := 6) rfl ?_); refine box_event ?hg (N := 6) ?hd (cs := #[.int .i64 0, .int .i64 0, .int .i64 0, .slice none 0 0]) (t := 27) ?hr ?_; (case hd => rfl); (case hg => rfl); (case hr => first | (go_simp; done) | (go_simp; rfl)); intro gb402 hg w9 hbox hb; have n0_ := Aside0.mk (Kd.Q_below (B.kq HO400) hb); have n1_ := Aside0.mk (blk_below (B.kb BK391) hb); have n2_ := Aside0.mk (IsS67.below (B.st HI394) hb); have n3_ := Aside0.mk (below_step (B.bs HB) hb); have n4_ := Aside0.mk (hbox); have n5_ := Aside0.mk ((by rw [hg]; exact (below_size (B.bs HB)) : w.heap.size ≤ gb402)); have n6_ := Aside0.mk ((by rw [hg]; exact (below_size (B.bs HB)) : w.heap.size ≤ gb402)); have n7_ := Aside0.mk (B.nlt hg (blk_lt (B.kb BK391))); have n8_ := Aside0.mk (B.ngt hg (blk_lt (B.kb BK391))); have n9_ := Aside0.mk ((by rw [hg]; exact Nat.ne_of_lt (IsS67.lt (show IsS67 w _ g394 t392 t401 from B.st HI394)) : g394 ≠ gb402)); have n10_ := Aside0.mk ((by rw [hg]; exact Nat.ne_of_gt (IsS67.lt (show IsS67 w _ g394 t392 t401 from B.st HI394)) : gb402 ≠ g394)); clear HO400 BK391 HI394 HB; have HO400 := n0_; have BK391 := n1_; have HI394 := n2_; have HB := n3_; have BK402 := n4_; have GW402 := n5_; have GE402 := n6_; have NB391_402 := n7_; have NB402_391 := n8_; have NB394_402 := n9_; have NB402_394 := n10_; clear n0_ n1_ n2_ n3_ n4_ n5_ n6_ n7_ n8_ n9_ n10_; clear hb hbox hg; have hnb10 := NB402_391.out; have hnc10 := NB391_402.out; have hnb11 := NB402_394.out; have hnc11 := NB394_402.out; have hcz12_0 : w9.cell? ⟨gb402, 0, none⟩ = some (.int .i64 0) := B.bc BK402 0; have hcz12_1 : w9.cell? ⟨gb402, 1, none⟩ = some (.int .i64 0) := B.bc BK402 1; have hcz12_2 : w9.cell? ⟨gb402, 2, none⟩ = some (.int .i64 0) := B.bc BK402 2; have hcz12_3 : w9.cell? ⟨gb402, 3, none⟩ = some (.slice none 0 0) := B.bc BK402 3; have hfz12_0 := blk_frozen BK402.out 0; have hfz12_1 := blk_frozen BK402.out 1; have hfz12_2 := blk_frozen BK402.out 2; have hfz12_3 := blk_frozen BK402.out 3; obtain ⟨Ao13, co13, eo13, _⟩ := Kd.Q_slice HO400.out; subst eo13) | ((with_reducible refine gate_callee (f := 48) rfl ?_); refine goesL_ (some 13) rfl rfl Try.func48 (by kernel_rfl) rfl #[.pointer (some ⟨g394, 0, none⟩)] rfl B.am ?_; (with_reducible refine (spec_anyPlace.calls k g394 t392 t401 t403 t404 w _ ?side1 ?side2 A4.out).mono ?_); (case side1 => exact B.st HI394); (case side2 => exact B.bs HB); rintro e w14 ⟨rfl, hi, hb, hk⟩; refine ⟨_, rfl, ?_⟩; have n0_ := Aside0.mk (KeepBut.blk hk (g' := gb391) (o := .cells #[.int .i64 0, .int .i64 0, .int .i64 0, .slice none 0 0] 27 (0, 0)) (B.kb0 (B.bf4 BK391 NB391_402)) NB391_394.out (by simp)); have n1_ := Aside0.mk (Kd.Q_mono (Kd.Q_keep (IsS67.apartQ (show IsS67 w _ g394 t392 t401 from B.st HI394) (by (with_reducible repeat (first | apply Kd.Q_alloc | apply Kd.Q_drewN | apply Kd.Q_drew)); exact (Kd.Q_mono (Kd.Q_far (p := ⟨gb402, 3, none⟩) (Kd.Q_far (p := ⟨gb402, 2, none⟩) (Kd.Q_far (p := ⟨gb402, 1, none⟩) (Kd.Q_far (p := ⟨gb402, 0, none⟩) (Kd.Q_types HO400.out BK402.out (by decide)) (fun _ hk => hk.2) (.int .i64 t395)) (fun _ hk => hk.2) (.int .i64 t396)) (fun _ hk => hk.2) (.int .i64 t397)) (fun _ hk => hk.2) (.slice Ao13 t398.length co13)) (fun _ h_ => h_.1))) (by decide)) hk (fun _ h => h.2)) (fun _ h => h.1)); have n2_ := Aside0.mk (KeepBut.blk hk (g' := gb402) (o := .cells #[.int .i64 t395, .int .i64 t396, .int .i64 t397, .slice Ao13 t398.length co13] 27 (0, 0)) (B.kb0 (B.bp4 BK402)) NB402_394.out (by simp)); have n3_ := Aside0.mk (hb); have n4_ := Aside0.mk (hi); clear BK391 HO400 BK402 HB HI394; have BK391 := n0_; have HO400 := n1_; have BK402 := n2_; have HB := n3_; have HI394 := n4_; clear n0_ n1_ n2_ n3_ n4_; (try clear hb); (try clear hb2); (try clear hk); (try clear hi)))
  have n0_ := Aside0.mk (Kd.Q_drew HO400.out)
  have n1_ := Aside0.mk (blk_drew BK391.out)
  have n2_ := Aside0.mk (blk_drew BK402.out)
  have n3_ := Aside0.mk (IsS67.drew HI394.out)
  have n4_ := Aside0.mk (below_drew1 HB.out)
  clear HO400 BK391 BK402 HI394 HB
  have HO400 := n0_
  have BK391 := n1_
  have BK402 := n2_
  have HI394 := n3_
  have HB := n4_
  clear n0_ n1_ n2_ n3_ n4_
  refine start_ (n := 7) (S := fun w' => w'.cell? ⟨gb402, 0, none⟩ = some (.int .i64 t395) ∧ w'.cell? ⟨gb402, 1, none⟩ = some (.int .i64 t396) ∧ w'.cell? ⟨gb402, 2, none⟩ = some (.int .i64 t397) ∧ w'.cell? ⟨gb402, 3, none⟩ = some (.slice Ao13 t398.length co13)) (ds := []) #[false, false, false, false, false, false, false] (by kernel_rfl) rfl rfl ⟨B.bc BK402 0, B.bc BK402 1, B.bc BK402 2, B.bc BK402 3⟩ (fun hHeld => ?_)
  generalize w14.drew = w15 at HO400 BK391 BK402 HI394 HB hHeld ⊢
  refine pure_ (i := 1) (N := some 15) (v := ?_) (a' := ?_) #[false, true, false, false, false, false, false] rfl rfl (by kernel_rfl) (fun _ _ _ h => h) (Or.inl ⟨by rfl, ?_⟩) ?_ ?_
  rotate_left
  · intro w'
    go_simp
    with_reducible rfl
  rotate_left
  · simp only [Act.put, List.setIfInBounds_toArray, List.set_cons_zero, List.set_cons_succ, i64_w, i32_w]
    rfl
  refine pure_ (i := 2) (N := some 16) (v := ?_) (a' := ?_) #[false, true, true, false, false, false, false] rfl rfl (by kernel_rfl) (fun _ _ _ h => h) (Or.inl ⟨by rfl, ?_⟩) ?_ ?_
  rotate_left
  · intro w'
    go_simp
    with_reducible rfl
  rotate_left
  · simp only [Act.put, List.setIfInBounds_toArray, List.set_cons_zero, List.set_cons_succ, i64_w, i32_w]
    rfl
  refine take_ (i := 0) (N := some 14) (v := ?_) (a' := ?_) #[true, true, true, false, false, false, false] rfl rfl (by kernel_rfl) (fun _ _ _ h => h) (Or.inl ⟨by rfl, ?_⟩) hHeld ?_ ?_
  rotate_left
  · rintro w' ⟨s0, s1, s2, s3⟩
    go_simp
    with_reducible rfl
  rotate_left
  · simp only [Act.put, List.setIfInBounds_toArray, List.set_cons_zero, List.set_cons_succ, i64_w, i32_w]
    rfl
  refine one_ (i := 3) (N := some 17) #[true, true, true, true, false, false, false] rfl rfl (by kernel_rfl) (by decide) (fun K hK => ?_)
  refine goes_ Try.func48 (by kernel_rfl) rfl #[.pointer (some ⟨g394, 0, none⟩)] (by rfl) rfl rfl B.am ?_
  with_reducible refine (spec_anyPlace.calls k g394 t392 t404 t405 t406 w _ ?side1 ?side2 A5.out).mono ?_
  (case side1 => exact B.st HI394)
  (case side2 => exact B.bs HB)
  rintro e w16 ⟨rfl, hi, hb, hk⟩
  refine ⟨_, rfl, ?_⟩
  have n0_ := Aside0.mk (KeepBut.blk hk (g' := gb391) (o := .cells #[.int .i64 0, .int .i64 0, .int .i64 0, .slice none 0 0] 27 (0, 0)) (B.kb BK391) NB391_394.out (by simp))
  have n1_ := Aside0.mk (Kd.Q_mono (Kd.Q_keep (IsS67.apartQ (show IsS67 w _ g394 t392 t404 from B.st HI394) (B.kq HO400) (by decide)) hk (fun _ h => h.2)) (fun _ h => h.1))
  have n2_ := Aside0.mk (KeepBut.blk hk (g' := gb402) (o := .cells #[.int .i64 t395, .int .i64 t396, .int .i64 t397, .slice Ao13 t398.length co13] 27 (0, 0)) (B.kb BK402) NB402_394.out (by simp))
  have n3_ := Aside0.mk (hb)
  have n4_ := Aside0.mk (hi)
  clear BK391 HO400 BK402 HB HI394
  have BK391 := n0_
  have HO400 := n1_
  have BK402 := n2_
  have HB := n3_
  have HI394 := n4_
  clear n0_ n1_ n2_ n3_ n4_
  (try clear hb)
  (try clear hb2)
  (try clear hk)
  (try clear hi)
  refine hK.out _ _ ⟨B.bc BK402 0, B.bc BK402 1, B.bc BK402 2, B.bc BK402 3⟩ (fun hHeld => ?_)
  clear hK K
  refine norm_ (a' := ?_) ?_ ?_
  rotate_left
  · show Act.put _ (some 17) _ = _
    simp only [Act.put, List.setIfInBounds_toArray, List.set_cons_zero, List.set_cons_succ, i64_w, i32_w]
    rfl
  refine one_ (i := 4) (N := none) #[true, true, true, true, true, false, false] rfl rfl (by kernel_rfl) (by decide) (fun K hK => ?_)
  have hs17 : w16.cell? ⟨gb391, 0, none⟩ = some (.int .i64 0) := B.bc BK391 0
  have hfs17 := blk_frozen BK391.out 0
  have hns17_1 := NB402_391.out
  have hms17_1 := NB391_402.out
  have hs18 : w16.cell? ⟨gb391, 1, none⟩ = some (.int .i64 0) := B.bc BK391 1
  have hfs18 := blk_frozen BK391.out 1
  have hns18_1 := NB402_391.out
  have hms18_1 := NB391_402.out
  have hs19 : w16.cell? ⟨gb391, 2, none⟩ = some (.int .i64 0) := B.bc BK391 2
  have hfs19 := blk_frozen BK391.out 2
  have hns19_1 := NB402_391.out
  have hms19_1 := NB391_402.out
  have hs20 : w16.cell? ⟨gb391, 3, none⟩ = some (.slice none 0 0) := B.bc BK391 3
  have hfs20 := blk_frozen BK391.out 3
  have hns20_1 := NB402_391.out
  have hms20_1 := NB391_402.out
  refine skip_ (w1 := ?_) (by rfl) rfl ?_ ?_
  rotate_left
  · go_simp
    rfl
  refine hK.out _ _ ⟨(B.cf4 NB402_391 hHeld.1), (B.cf4 NB402_391 hHeld.2.1), (B.cf4 NB402_391 hHeld.2.2.1), (B.cf4 NB402_391 hHeld.2.2.2)⟩ (fun hHeld => ?_)
  clear hK K
  refine pure_ (i := 5) (N := some 3) (v := ?_) (a' := ?_) #[true, true, true, true, true, true, false] rfl rfl (by kernel_rfl) (fun _ _ _ h => h) (Or.inl ⟨by rfl, ?_⟩) ?_ ?_
  rotate_left
  · intro w'
    go_simp
    with_reducible rfl
  rotate_left
  · simp only [Act.put, List.setIfInBounds_toArray, List.set_cons_zero, List.set_cons_succ, i64_w, i32_w]
    rfl
  refine pure_ (i := 6) (N := some 4) (v := ?_) (a' := ?_) #[true, true, true, true, true, true, true] rfl rfl (by kernel_rfl) (fun _ _ _ h => h) (Or.inl ⟨by rfl, ?_⟩) ?_ ?_
  rotate_left
  · intro w'
    go_simp
    with_reducible rfl
  rotate_left
  · simp only [Act.put, List.setIfInBounds_toArray, List.set_cons_zero, List.set_cons_succ, i64_w, i32_w]
    rfl
  refine done_ (by kernel_rfl) ?_
  try go_wp2
  refine bodyPost_ret (results_ctt rfl _ _ gb391 27 #[.int .i64 t395, .int .i64 t396, .int .i64 t397, .slice Ao13 t398.length co13] (0, 0) _ rfl (B.kb0 (B.bp4 BK391)) Try.underlying27 rfl (by kernel_rfl)) rfl ?_
  exact ⟨_, by first | rfl | (simp [errW_none, errW_some] <;> rfl) | (simp [*, errW_none, errW_some] <;> rfl), by (with_reducible repeat (first | apply Kd.Q_alloc | apply Kd.Q_drewN | apply Kd.Q_drew)); exact Kd.Q_mono (Kd.Q_far (p := ⟨gb391, 3, none⟩) (Kd.Q_far (p := ⟨gb391, 2, none⟩) (Kd.Q_far (p := ⟨gb391, 1, none⟩) (Kd.Q_far (p := ⟨gb391, 0, none⟩) (Kd.Q_types HO400.out BK391.out (by decide)) (fun _ hk => hk.2) (.int .i64 t395)) (fun _ hk => hk.2) (.int .i64 t396)) (fun _ hk => hk.2) (.int .i64 t397)) (fun _ hk => hk.2) (.slice Ao13 t398.length co13)) (fun _ hk => trivial), B.bs HB⟩

/-! ### laws_FnPixelAt: function 6 -/
def laws_FnPixelAt.j0 : Nat → Int → Int → List Int → Bool → Int → Int → Int → List Int → Option (Bool)
  | 0, _, _, _, _, _, _, _, _ => none
  | k + 1, x4, x5, x6, x32, x418000, x418001, x418002, x418003 => if x32 = true then ((spec_PixelAt.f k x418000 x418001 x418002 x418003 x4 x5).bind fun t425 => ((laws_equalInts.f k x6 t425).bind fun t428 => (some t428))) else (if 0 ≤ (wrap64 ((wrap64 ((wrap64 (x5 * x418000)) + x4)) * x418002)) then (if (wrap64 ((wrap64 ((wrap64 (x5 * x418000)) + x4)) * x418002)) ≤ (wrap64 ((wrap64 ((wrap64 ((wrap64 (x5 * x418000)) + x4)) * x418002)) + x418002)) then (if (wrap64 ((wrap64 ((wrap64 ((wrap64 (x5 * x418000)) + x4)) * x418002)) + x418002)) ≤ (x418003.length : Int) then ((laws_equalInts.f k x6 ((x418003.take ((wrap64 ((wrap64 ((wrap64 ((wrap64 (x5 * x418000)) + x4)) * x418002)) + x418002)) : Int).toNat).drop ((wrap64 ((wrap64 ((wrap64 (x5 * x418000)) + x4)) * x418002)) : Int).toNat)).bind fun t433 => (some t433)) else (none)) else (none)) else (none))
def laws_FnPixelAt.f (k : Nat) (l0 : List Int) : Option (Bool) := if (l0.length : Int) > 1048576 then (some true) else ((spec_DrawPixelAt.f k l0).bind fun bt409 => ((impl_PixelAt.f bt409.1 bt409.2.1 bt409.2.2.1 bt409.2.2.2.1 bt409.2.2.2.2.1 bt409.2.2.2.2.2).bind fun t418 => ((spec_PixelAt.f k bt409.1 bt409.2.1 bt409.2.2.1 bt409.2.2.2.1 bt409.2.2.2.2.1 bt409.2.2.2.2.2).bind fun t421 => ((laws_equalInts.f k t418 t421).bind fun t424 => (if t424 = true then (laws_FnPixelAt.j0 k bt409.2.2.2.2.1 bt409.2.2.2.2.2 t418 ((t418.length : Int) == 0) bt409.1 bt409.2.1 bt409.2.2.1 bt409.2.2.2.1) else (laws_FnPixelAt.j0 k bt409.2.2.2.2.1 bt409.2.2.2.2.2 t418 true bt409.1 bt409.2.1 bt409.2.2.1 bt409.2.2.2.1))))))
theorem laws_FnPixelAt.mono_l : ∀ k, (∀ y0 y1 y2 y3 y4 y5 y6 y7, LeO (laws_FnPixelAt.j0 k y0 y1 y2 y3 y4 y5 y6 y7) (laws_FnPixelAt.j0 (k + 1) y0 y1 y2 y3 y4 y5 y6 y7))
  | 0 => fun _ _ _ _ _ _ _ _ r h => by simp [laws_FnPixelAt.j0] at h
  | k + 1 => by
    have ih0 := laws_FnPixelAt.mono_l k
    · intro y0 y1 y2 y3 y4 y5 y6 y7
      unfold laws_FnPixelAt.j0
      repeat' first
      | (with_reducible exact ih0 _ _ _ _ _ _ _ _)
      | (with_reducible exact laws_equalInts.mono _ _ _)
      | (with_reducible exact spec_DrawPixelAt.mono _ _)
      | (with_reducible exact spec_PixelAt.mono _ _ _ _ _ _ _)
      | (with_reducible exact LeO.refl _)
      | (with_reducible exact LeO.none _)
      | (with_reducible refine LeO.ite ?_ ?_)
      | (with_reducible refine LeO.bind ?_ (fun _ => ?_))
      | exact ih0 _ _ _ _ _ _ _ _
      | exact laws_equalInts.mono _ _ _
      | exact spec_DrawPixelAt.mono _ _
      | exact spec_PixelAt.mono _ _ _ _ _ _ _
      | exact LeO.none _
      | refine LeO.ite ?_ ?_
      | refine LeO.bind ?_ (fun _ => ?_)
theorem laws_FnPixelAt.mono : ∀ a0 k, LeO (laws_FnPixelAt.f k a0) (laws_FnPixelAt.f (k + 1) a0) := by
  intro a0 k
  have ih0 := laws_FnPixelAt.mono_l k
  unfold laws_FnPixelAt.f
  repeat' first
      | (with_reducible exact ih0 _ _ _ _ _ _ _ _)
      | (with_reducible exact laws_equalInts.mono _ _ _)
      | (with_reducible exact spec_DrawPixelAt.mono _ _)
      | (with_reducible exact spec_PixelAt.mono _ _ _ _ _ _ _)
      | (with_reducible exact LeO.refl _)
      | (with_reducible exact LeO.none _)
      | (with_reducible refine LeO.ite ?_ ?_)
      | (with_reducible refine LeO.bind ?_ (fun _ => ?_))
      | exact ih0 _ _ _ _ _ _ _ _
      | exact laws_equalInts.mono _ _ _
      | exact spec_DrawPixelAt.mono _ _
      | exact spec_PixelAt.mono _ _ _ _ _ _ _
      | exact LeO.none _
      | refine LeO.ite ?_ ?_
      | refine LeO.bind ?_ (fun _ => ?_)
set_option maxHeartbeats 8000000 in
set_option maxRecDepth 100000 in
theorem laws_FnPixelAt.calls (k : Nat) (A0 : Option Addr) (c0 : Nat) (l0 : List Int) (r : Bool) (w : World) (hr0 : Kd.C (Kd.int .u8) w A0 l0.length l0) (hc0 : l0.length ≤ c0) (h : laws_FnPixelAt.f k l0 = some r) (ht_ : Aside0 (r = true)) :
    Calls Try.prog 6 #[.slice A0 l0.length c0] w fun e w' => e = .returned (.bool r) ∧ Below w.heap.size w w' := by
  have hu27 := Try.underlying27
  have HR0 := Aside0.mk hr0
  have HC0 := Aside0.mk hc0
  clear hr0 hc0
  have HB := Aside0.mk (Below.refl w.heap.size w)
  have H : (if (l0.length : Int) > 1048576 then (some true) else ((spec_DrawPixelAt.f k l0).bind fun bt409 => ((impl_PixelAt.f bt409.1 bt409.2.1 bt409.2.2.1 bt409.2.2.2.1 bt409.2.2.2.2.1 bt409.2.2.2.2.2).bind fun t418 => ((spec_PixelAt.f k bt409.1 bt409.2.1 bt409.2.2.1 bt409.2.2.2.1 bt409.2.2.2.2.1 bt409.2.2.2.2.2).bind fun t421 => ((laws_equalInts.f k t418 t421).bind fun t424 => (if t424 = true then (laws_FnPixelAt.j0 k bt409.2.2.2.2.1 bt409.2.2.2.2.2 t418 ((t418.length : Int) == 0) bt409.1 bt409.2.1 bt409.2.2.1 bt409.2.2.2.1) else (laws_FnPixelAt.j0 k bt409.2.2.2.2.1 bt409.2.2.2.2.2 t418 true bt409.1 bt409.2.1 bt409.2.2.1 bt409.2.2.2.1))))))) = some r := h
  clear h
  by_cases c2 : (l0.length : Int) > 1048576
  · rw [if_pos c2] at H
    have c2b0 : decide (1048576 < (l0.length : Int)) = true := decide_eq_true c2
    have c2b1 : decide (1048576 < l0.length) = true := decide_eq_true (by omega)
    clear c2
    obtain rfl := Option.some.inj H
    simp only [Option.some.injEq, Prod.mk.injEq] at H
    obtain ⟨rfl⟩ := H
    go_enter Try.func6, Try.ntmps6
    go_wp2
    go_ret
    exact ⟨by first | rfl | (simp [errW_none, errW_some] <;> rfl) | (simp [*, errW_none, errW_some] <;> rfl), B.bl HB⟩
  rw [if_neg c2] at H
  have c2b0 : decide (1048576 < (l0.length : Int)) = false := decide_eq_false c2
  have c2b1 : decide (1048576 < l0.length) = false := decide_eq_false (by omega)
  clear c2
  replace H := Option.bind_eq_some_iff.mp H
  obtain ⟨⟨t409, t410, t411, t412, t415, t416⟩, A30, H⟩ := H
  replace H : ((impl_PixelAt.f t409 t410 t411 t412 t415 t416).bind fun t418 => ((spec_PixelAt.f k t409 t410 t411 t412 t415 t416).bind fun t421 => ((laws_equalInts.f k t418 t421).bind fun t424 => (if t424 = true then (laws_FnPixelAt.j0 k t415 t416 t418 ((t418.length : Int) == 0) t409 t410 t411 t412) else (laws_FnPixelAt.j0 k t415 t416 t418 true t409 t410 t411 t412))))) = some r := H
  have A3 := Aside0.mk A30
  clear A30
  replace H := Option.bind_eq_some_iff.mp H
  obtain ⟨t418, A40, H⟩ := H
  replace H : ((spec_PixelAt.f k t409 t410 t411 t412 t415 t416).bind fun t421 => ((laws_equalInts.f k t418 t421).bind fun t424 => (if t424 = true then (laws_FnPixelAt.j0 k t415 t416 t418 ((t418.length : Int) == 0) t409 t410 t411 t412) else (laws_FnPixelAt.j0 k t415 t416 t418 true t409 t410 t411 t412)))) = some r := H
  have A4 := Aside0.mk A40
  clear A40
  have HC5 := Aside0.mk H
  clear H
  go_enter Try.func6, Try.ntmps6
  go_upto_region 5 with (first | ((with_reducible refine gate_callee (f := 26) rfl ?_); refine goesL_ (some 13) rfl rfl Try.func26 (by kernel_rfl) rfl #[.slice A0 l0.length c0] rfl B.am ?_; (with_reducible refine (spec_DrawPixelAt.calls k _ _ l0 t409 t410 t411 t412 t415 t416 _ ?side1 ?side2 A3.out).mono ?_); (case side1 => exact B.kc (HR0.out)); (case side2 => exact HC0.out); rintro e w6 ⟨v413, rfl, ho0, hb⟩; refine ⟨_, rfl, ?_⟩; have n0_ := Aside0.mk (Kd.Q_lower ho0 (below_size (B.bl HB))); have n1_ := Aside0.mk (below_step (B.bl HB) hb); clear HB; have HO414 := n0_; have HB := n1_; clear n0_ n1_; (try clear hb); (try clear hb2); (try clear hk); (try clear hi); (try clear ho0)) | ((with_reducible refine gate_dst (N := 3) rfl ?_); (try (refine gate_guard (by rfl) ?_; dsimp only)); refine box_event ?hg (N := 3) ?hd (cs := #[.int .i64 0, .int .i64 0, .int .i64 0, .slice none 0 0]) (t := 27) ?hr ?_; (case hd => rfl); (case hg => rfl); (case hr => first | (go_simp; done) | (go_simp; rfl)); intro gb417 hg w7 hbox hb; have n0_ := Aside0.mk (Kd.Q_below (B.kq HO414) hb); have n1_ := Aside0.mk (below_step (B.bl HB) hb); have n2_ := Aside0.mk (hbox); have n3_ := Aside0.mk (B.nle hg (below_size (B.bl HB))); have n4_ := Aside0.mk (B.nle hg (below_size (B.bl HB))); clear HO414 HB; have HO414 := n0_; have HB := n1_; have BK417 := n2_; have GW417 := n3_; have GE417 := n4_; clear n0_ n1_ n2_ n3_ n4_; clear hb hbox hg; have hcz8_0 : w7.cell? ⟨gb417, 0, none⟩ = some (.int .i64 0) := B.bc BK417 0; have hcz8_1 : w7.cell? ⟨gb417, 1, none⟩ = some (.int .i64 0) := B.bc BK417 1; have hcz8_2 : w7.cell? ⟨gb417, 2, none⟩ = some (.int .i64 0) := B.bc BK417 2; have hcz8_3 : w7.cell? ⟨gb417, 3, none⟩ = some (.slice none 0 0) := B.bc BK417 3; have hfz8_0 := blk_frozen BK417.out 0; have hfz8_1 := blk_frozen BK417.out 1; have hfz8_2 := blk_frozen BK417.out 2; have hfz8_3 := blk_frozen BK417.out 3; obtain ⟨Ao9, co9, eo9, _⟩ := Kd.Q_slice HO414.out; subst eo9) | ((with_reducible refine gate_callee (f := 24) rfl ?_); refine goesL_ (some 20) rfl rfl Try.func24 (by kernel_rfl) rfl #[.agg #[.int .i64 t409, .int .i64 t410, .int .i64 t411, .slice Ao9 t412.length co9], .int .i64 t415, .int .i64 t416] rfl B.am ?_; (with_reducible refine (impl_PixelAt.calls t409 t410 t411 _ _ t412 t415 t416 t418 _ ?side1 ?side2 A4.out).mono ?_); (case side1 => refine (Kd.Q_reads' (e := 3) (base := w.heap.size) (ok := fun k_ => True) (n := t412.length) (c := co9) ?_).2.2; exact (by (with_reducible repeat (first | apply Kd.Q_alloc | apply Kd.Q_drewN | apply Kd.Q_drew)); exact (Kd.Q_mono (Kd.Q_far (p := ⟨gb417, 3, none⟩) (Kd.Q_far (p := ⟨gb417, 2, none⟩) (Kd.Q_far (p := ⟨gb417, 1, none⟩) (Kd.Q_far (p := ⟨gb417, 0, none⟩) (Kd.Q_types HO414.out BK417.out (by decide)) (fun _ hk => hk.2) (.int .i64 t409)) (fun _ hk => hk.2) (.int .i64 t410)) (fun _ hk => hk.2) (.int .i64 t411)) (fun _ hk => hk.2) (.slice Ao9 t412.length co9)) (fun _ h_ => h_.1)))); (case side2 => exact (Kd.Q_reads' HO414.out).2.1); rintro e w10 ⟨v419, rfl, ho0, hb⟩; refine ⟨_, rfl, ?_⟩; have n0_ := Aside0.mk (Kd.Q_elder' (by (with_reducible repeat (first | apply Kd.Q_alloc | apply Kd.Q_drewN | apply Kd.Q_drew)); exact (Kd.Q_mono (Kd.Q_far (p := ⟨gb417, 3, none⟩) (Kd.Q_far (p := ⟨gb417, 2, none⟩) (Kd.Q_far (p := ⟨gb417, 1, none⟩) (Kd.Q_far (p := ⟨gb417, 0, none⟩) (Kd.Q_types HO414.out BK417.out (by decide)) (fun _ hk => hk.2) (.int .i64 t409)) (fun _ hk => hk.2) (.int .i64 t410)) (fun _ hk => hk.2) (.int .i64 t411)) (fun _ hk => hk.2) (.slice Ao9 t412.length co9)) (fun _ h_ => h_.1))) (Kd.R_base ho0) hb); have n1_ := Aside0.mk (Kd.R_lower (Kd.R_new' ho0 (Kd.Q_lt (by (with_reducible repeat (first | apply Kd.Q_alloc | apply Kd.Q_drewN | apply Kd.Q_drew)); exact (Kd.Q_mono (Kd.Q_far (p := ⟨gb417, 3, none⟩) (Kd.Q_far (p := ⟨gb417, 2, none⟩) (Kd.Q_far (p := ⟨gb417, 1, none⟩) (Kd.Q_far (p := ⟨gb417, 0, none⟩) (Kd.Q_types HO414.out BK417.out (by decide)) (fun _ hk => hk.2) (.int .i64 t409)) (fun _ hk => hk.2) (.int .i64 t410)) (fun _ hk => hk.2) (.int .i64 t411)) (fun _ hk => hk.2) (.slice Ao9 t412.length co9)) (fun _ h_ => h_.1))))) (below_size (B.bl HB))); have n2_ := Aside0.mk (blk_below (g := gb417) (o := .cells #[.int .i64 t409, .int .i64 t410, .int .i64 t411, .slice Ao9 t412.length co9] 27 (0, 0)) (B.kb0 (B.bp4 BK417)) hb); have n3_ := Aside0.mk (below_step (B.bl HB) hb); clear HO414 BK417 HB; have HO414 := n0_; have HO420 := n1_; have BK417 := n2_; have HB := n3_; clear n0_ n1_ n2_ n3_; (try clear hb); (try clear hb2); (try clear hk); (try clear hi); (try clear ho0)))
  (try simp only [Act.put, List.setIfInBounds_toArray, List.set_cons_zero, List.set_cons_succ])
  go_cut [32] (fun v32 wc => ∃ (kq : Nat) (x32_4 : Bool), v32 = .bool x32_4 ∧ Aside0 (laws_FnPixelAt.j0 kq t415 t416 t418 x32_4 t409 t410 t411 t412 = some r) ∧ Aside0 (kq ≤ k) ∧ Aside0 (Kd.R (Kd.int .i64) 3 wc w.heap.size (fun k_ => some k_ ≠ ((.slice Ao9 t412.length co9) : Value).ownBlock) v419 t418) ∧ Aside0 (Kd.Q (Kd.int .i64) 3 wc w.heap.size (fun k_ => some k_ ≠ (v419 : Value).ownBlock) (.slice Ao9 t412.length co9) t412) ∧ Aside0 (wc.heap[gb417]? = some (.cells #[.int .i64 t409, .int .i64 t410, .int .i64 t411, (.slice Ao9 t412.length co9)] 27 (0, 0))) ∧ Aside0 (Below w.heap.size w wc))
  case first =>
    have H := HC5.out
    clear HC5
    replace H := Option.bind_eq_some_iff.mp H
    obtain ⟨t421, A110, H⟩ := H
    replace H : ((laws_equalInts.f k t418 t421).bind fun t424 => (if t424 = true then (laws_FnPixelAt.j0 k t415 t416 t418 ((t418.length : Int) == 0) t409 t410 t411 t412) else (laws_FnPixelAt.j0 k t415 t416 t418 true t409 t410 t411 t412))) = some r := H
    have A11 := Aside0.mk A110
    clear A110
    replace H := Option.bind_eq_some_iff.mp H
    obtain ⟨t424, A120, H⟩ := H
    replace H : (if t424 = true then (laws_FnPixelAt.j0 k t415 t416 t418 ((t418.length : Int) == 0) t409 t410 t411 t412) else (laws_FnPixelAt.j0 k t415 t416 t418 true t409 t410 t411 t412)) = some r := H
    have A12 := Aside0.mk A120
    clear A120
    by_cases c13 : t424 = true
    · subst c13
      have H1 : (laws_FnPixelAt.j0 k t415 t416 t418 ((t418.length : Int) == 0) t409 t410 t411 t412) = some r := by rw [if_pos rfl] at H; exact H
      clear H
      have H := H1
      clear H1
      have H' := Aside0.mk H
      clear H
      have hcz14_0 : w10.cell? ⟨gb417, 0, none⟩ = some (.int .i64 t409) := B.bc BK417 0
      have hcz14_1 : w10.cell? ⟨gb417, 1, none⟩ = some (.int .i64 t410) := B.bc BK417 1
      have hcz14_2 : w10.cell? ⟨gb417, 2, none⟩ = some (.int .i64 t411) := B.bc BK417 2
      have hcz14_3 : w10.cell? ⟨gb417, 3, none⟩ = some (.slice Ao9 t412.length co9) := B.bc BK417 3
      have hfz14_0 := blk_frozen BK417.out 0
      have hfz14_1 := blk_frozen BK417.out 1
      have hfz14_2 := blk_frozen BK417.out 2
      have hfz14_3 := blk_frozen BK417.out 3
      go_wp2_with (first | ((with_reducible refine gate_callee (f := 23) rfl ?_); refine goesL_ (some 25) rfl rfl Try.func23 (by kernel_rfl) rfl #[.agg #[.int .i64 t409, .int .i64 t410, .int .i64 t411, .slice Ao9 t412.length co9], .int .i64 t415, .int .i64 t416] rfl B.am ?_; (with_reducible refine (spec_PixelAt.calls k t409 t410 t411 _ _ t412 t415 t416 t421 _ ?side1 ?side2 A11.out).mono ?_); (case side1 => exact B.kc ((Kd.Q_reads' HO414.out).2.2)); (case side2 => exact (Kd.Q_reads' HO414.out).2.1); rintro e w15 ⟨v422, rfl, ho0, hb⟩; refine ⟨_, rfl, ?_⟩; have n0_ := Aside0.mk (Kd.Q_elder' (B.kq HO414) (Kd.R_base ho0) hb); have n1_ := Aside0.mk (Kd.R_elder' (B.kr HO420) (Kd.R_base ho0) hb); have n2_ := Aside0.mk (Kd.R_lower (Kd.R_new' (Kd.R_new' ho0 (Kd.Q_lt (B.kq HO414))) (Kd.R_lt (B.kr HO420))) (below_size (B.bl HB))); have n3_ := Aside0.mk (blk_below (B.kb BK417) hb); have n4_ := Aside0.mk (below_step (B.bl HB) hb); clear HO414 HO420 BK417 HB; have HO414 := n0_; have HO420 := n1_; have HO423 := n2_; have BK417 := n3_; have HB := n4_; clear n0_ n1_ n2_ n3_ n4_; (try clear hb); (try clear hb2); (try clear hk); (try clear hi); (try clear ho0); obtain ⟨Ao16, co16, eo16⟩ := Kd.R_slice HO420.out; subst eo16; obtain ⟨Ao17, co17, eo17⟩ := Kd.R_slice HO423.out; subst eo17) | ((with_reducible refine gate_callee (f := 27) rfl ?_); refine goesL_ (some 26) rfl rfl Try.func27 (by kernel_rfl) rfl #[.slice Ao16 t418.length co16, .slice Ao17 t421.length co17] rfl B.am ?_; (with_reducible refine (laws_equalInts.calls k _ _ t418 _ _ t421 true _ ?side1 ?side2 ?side3 ?side4 A12.out).mono ?_); (case side1 => exact B.kc ((Kd.R_reads' HO420.out).2.2)); (case side2 => exact (Kd.R_reads' HO420.out).2.1); (case side3 => exact B.kc ((Kd.R_reads' HO423.out).2.2)); (case side4 => exact (Kd.R_reads' HO423.out).2.1); rintro e w' ⟨rfl, ⟨nd, rfl⟩⟩; refine ⟨_, rfl, ?_⟩))
      go_meet
      case rel => exact ⟨_, (((t418.length : Int) == 0)), (by first | rfl | (simp; done) | (simp [*]; done)), H', ⟨by first | omega | exact Nat.le_refl _⟩, ⟨B.kr0 (Kd.R_mono HO420.out (fun _ hk => hk.1.2))⟩, ⟨by (with_reducible repeat (first | apply Kd.Q_alloc | apply Kd.Q_drewN | apply Kd.Q_drew)); exact Kd.Q_mono HO414.out (fun _ hk => hk.1.2)⟩, ⟨B.kb BK417⟩, ⟨B.bl HB⟩⟩
    replace c13 := Bool.eq_false_iff.mpr c13
    subst c13
    have H1 : (laws_FnPixelAt.j0 k t415 t416 t418 true t409 t410 t411 t412) = some r := by rw [if_neg (show ¬ (false = true) by decide)] at H; exact H
    clear H
    have H := H1
    clear H1
    have H' := Aside0.mk H
    clear H
    have hcz18_0 : w10.cell? ⟨gb417, 0, none⟩ = some (.int .i64 t409) := B.bc BK417 0
    have hcz18_1 : w10.cell? ⟨gb417, 1, none⟩ = some (.int .i64 t410) := B.bc BK417 1
    have hcz18_2 : w10.cell? ⟨gb417, 2, none⟩ = some (.int .i64 t411) := B.bc BK417 2
    have hcz18_3 : w10.cell? ⟨gb417, 3, none⟩ = some (.slice Ao9 t412.length co9) := B.bc BK417 3
    have hfz18_0 := blk_frozen BK417.out 0
    have hfz18_1 := blk_frozen BK417.out 1
    have hfz18_2 := blk_frozen BK417.out 2
    have hfz18_3 := blk_frozen BK417.out 3
    go_wp2_with (first | ((with_reducible refine gate_callee (f := 23) rfl ?_); refine goesL_ (some 25) rfl rfl Try.func23 (by kernel_rfl) rfl #[.agg #[.int .i64 t409, .int .i64 t410, .int .i64 t411, .slice Ao9 t412.length co9], .int .i64 t415, .int .i64 t416] rfl B.am ?_; (with_reducible refine (spec_PixelAt.calls k t409 t410 t411 _ _ t412 t415 t416 t421 _ ?side1 ?side2 A11.out).mono ?_); (case side1 => exact B.kc ((Kd.Q_reads' HO414.out).2.2)); (case side2 => exact (Kd.Q_reads' HO414.out).2.1); rintro e w19 ⟨v422, rfl, ho0, hb⟩; refine ⟨_, rfl, ?_⟩; have n0_ := Aside0.mk (Kd.Q_elder' (B.kq HO414) (Kd.R_base ho0) hb); have n1_ := Aside0.mk (Kd.R_elder' (B.kr HO420) (Kd.R_base ho0) hb); have n2_ := Aside0.mk (Kd.R_lower (Kd.R_new' (Kd.R_new' ho0 (Kd.Q_lt (B.kq HO414))) (Kd.R_lt (B.kr HO420))) (below_size (B.bl HB))); have n3_ := Aside0.mk (blk_below (B.kb BK417) hb); have n4_ := Aside0.mk (below_step (B.bl HB) hb); clear HO414 HO420 BK417 HB; have HO414 := n0_; have HO420 := n1_; have HO423 := n2_; have BK417 := n3_; have HB := n4_; clear n0_ n1_ n2_ n3_ n4_; (try clear hb); (try clear hb2); (try clear hk); (try clear hi); (try clear ho0); obtain ⟨Ao20, co20, eo20⟩ := Kd.R_slice HO420.out; subst eo20; obtain ⟨Ao21, co21, eo21⟩ := Kd.R_slice HO423.out; subst eo21) | ((with_reducible refine gate_callee (f := 27) rfl ?_); refine goesL_ (some 26) rfl rfl Try.func27 (by kernel_rfl) rfl #[.slice Ao20 t418.length co20, .slice Ao21 t421.length co21] rfl B.am ?_; (with_reducible refine (laws_equalInts.calls k _ _ t418 _ _ t421 false _ ?side1 ?side2 ?side3 ?side4 A12.out).mono ?_); (case side1 => exact B.kc ((Kd.R_reads' HO420.out).2.2)); (case side2 => exact (Kd.R_reads' HO420.out).2.1); (case side3 => exact B.kc ((Kd.R_reads' HO423.out).2.2)); (case side4 => exact (Kd.R_reads' HO423.out).2.1); rintro e w' ⟨rfl, ⟨nd, rfl⟩⟩; refine ⟨_, rfl, ?_⟩))
    go_meet
    case rel => exact ⟨_, (true), (by first | rfl | (simp; done) | (simp [*]; done)), H', ⟨by first | omega | exact Nat.le_refl _⟩, ⟨B.kr0 (Kd.R_mono HO420.out (fun _ hk => hk.1.2))⟩, ⟨by (with_reducible repeat (first | apply Kd.Q_alloc | apply Kd.Q_drewN | apply Kd.Q_drew)); exact Kd.Q_mono HO414.out (fun _ hk => hk.1.2)⟩, ⟨B.kb BK417⟩, ⟨B.bl HB⟩⟩
  case rest =>
    clear HC5
    try clear c1
    try clear c2
    try clear c2b0
    try clear c2b1
    try clear p2
    try clear c6
    try clear c13
    try clear hcz14_0
    try clear hcz14_1
    try clear hcz14_2
    try clear hcz14_3
    try clear hcz18_0
    try clear hcz18_1
    try clear hcz18_2
    try clear hcz18_3
    try clear hcz8_0
    try clear hcz8_1
    try clear hcz8_2
    try clear hcz8_3
    try clear hfz14_0
    try clear hfz14_1
    try clear hfz14_2
    try clear hfz14_3
    try clear hfz18_0
    try clear hfz18_1
    try clear hfz18_2
    try clear hfz18_3
    try clear hfz8_0
    try clear hfz8_1
    try clear hfz8_2
    try clear hfz8_3
    obtain ⟨kq, x32_4, rfl, HA, HJ4, HO_6, HO_418003, BK417, HB⟩ := hcut
    cases kq with
    | zero => exact absurd HA.out (by simp [laws_FnPixelAt.j0])
    | succ kj4 =>
      have H := HA.out
      clear HA
      simp only [laws_FnPixelAt.j0] at H
      by_cases c22 : x32_4 = true
      · subst c22
        have H1 : ((spec_PixelAt.f kj4 t409 t410 t411 t412 t415 t416).bind fun t425 => ((laws_equalInts.f kj4 t418 t425).bind fun t428 => (some t428))) = some r := by rw [if_pos rfl] at H; exact H
        clear H
        have H := H1
        clear H1
        replace H := Option.bind_eq_some_iff.mp H
        obtain ⟨t425, A230, H⟩ := H
        replace H : ((laws_equalInts.f kj4 t418 t425).bind fun t428 => (some t428)) = some r := H
        have A23 := Aside0.mk A230
        clear A230
        replace H := Option.bind_eq_some_iff.mp H
        obtain ⟨t428, A240, H⟩ := H
        replace H : (some t428) = some r := H
        have A24 := Aside0.mk A240
        clear A240
        obtain rfl := Option.some.inj H
        simp only [Option.some.injEq, Prod.mk.injEq] at H
        obtain ⟨rfl⟩ := H
        have hcz25_0 : wc.cell? ⟨gb417, 0, none⟩ = some (.int .i64 t409) := B.bc BK417 0
        have hcz25_1 : wc.cell? ⟨gb417, 1, none⟩ = some (.int .i64 t410) := B.bc BK417 1
        have hcz25_2 : wc.cell? ⟨gb417, 2, none⟩ = some (.int .i64 t411) := B.bc BK417 2
        have hcz25_3 : wc.cell? ⟨gb417, 3, none⟩ = some (.slice Ao9 t412.length co9) := B.bc BK417 3
        have hfz25_0 := blk_frozen BK417.out 0
        have hfz25_1 := blk_frozen BK417.out 1
        have hfz25_2 := blk_frozen BK417.out 2
        have hfz25_3 := blk_frozen BK417.out 3
        go_wp2_with (first | ((with_reducible refine gate_callee (f := 23) rfl ?_); refine goesL_ (some 37) rfl rfl Try.func23 (by kernel_rfl) rfl #[.agg #[.int .i64 t409, .int .i64 t410, .int .i64 t411, .slice Ao9 t412.length co9], .int .i64 t415, .int .i64 t416] rfl B.am ?_; (with_reducible refine (spec_PixelAt.calls kj4 t409 t410 t411 _ _ t412 t415 t416 t425 _ ?side1 ?side2 A23.out).mono ?_); (case side1 => exact B.kc ((Kd.Q_reads' HO_418003.out).2.2)); (case side2 => exact (Kd.Q_reads' HO_418003.out).2.1); rintro e w26 ⟨v426, rfl, ho0, hb⟩; refine ⟨_, rfl, ?_⟩; have n0_ := Aside0.mk (Kd.R_elder' (B.kr HO_6) (Kd.R_base ho0) hb); have n1_ := Aside0.mk (Kd.Q_elder' (B.kq HO_418003) (Kd.R_base ho0) hb); have n2_ := Aside0.mk (Kd.R_lower (Kd.R_new' (Kd.R_new' ho0 (Kd.R_lt (B.kr HO_6))) (Kd.Q_lt (B.kq HO_418003))) (below_size (B.bl HB))); have n3_ := Aside0.mk (blk_below (B.kb BK417) hb); have n4_ := Aside0.mk (below_step (B.bl HB) hb); clear HO_6 HO_418003 BK417 HB; have HO_6 := n0_; have HO_418003 := n1_; have HO427 := n2_; have BK417 := n3_; have HB := n4_; clear n0_ n1_ n2_ n3_ n4_; (try clear hb); (try clear hb2); (try clear hk); (try clear hi); (try clear ho0); obtain ⟨Ao27, co27, eo27⟩ := Kd.R_slice HO_6.out; subst eo27; obtain ⟨Ao28, co28, eo28⟩ := Kd.R_slice HO427.out; subst eo28) | ((with_reducible refine gate_callee (f := 27) rfl ?_); refine goesL_ (some 38) rfl rfl Try.func27 (by kernel_rfl) rfl #[.slice Ao27 t418.length co27, .slice Ao28 t425.length co28] rfl B.am ?_; (with_reducible refine (laws_equalInts.calls kj4 _ _ t418 _ _ t425 t428 _ ?side1 ?side2 ?side3 ?side4 A24.out).mono ?_); (case side1 => exact B.kc ((Kd.R_reads' HO_6.out).2.2)); (case side2 => exact (Kd.R_reads' HO_6.out).2.1); (case side3 => exact B.kc ((Kd.R_reads' HO427.out).2.2)); (case side4 => exact (Kd.R_reads' HO427.out).2.1); rintro e w' ⟨rfl, ⟨nd, rfl⟩⟩; refine ⟨_, rfl, ?_⟩))
        go_ret
        exact ⟨by first | rfl | (simp [errW_none, errW_some] <;> rfl) | (simp [*, errW_none, errW_some] <;> rfl), B.bl HB⟩
      replace c22 := Bool.eq_false_iff.mpr c22
      subst c22
      have H1 : (if 0 ≤ (wrap64 ((wrap64 ((wrap64 (t416 * t409)) + t415)) * t411)) then (if (wrap64 ((wrap64 ((wrap64 (t416 * t409)) + t415)) * t411)) ≤ (wrap64 ((wrap64 ((wrap64 ((wrap64 (t416 * t409)) + t415)) * t411)) + t411)) then (if (wrap64 ((wrap64 ((wrap64 ((wrap64 (t416 * t409)) + t415)) * t411)) + t411)) ≤ (t412.length : Int) then ((laws_equalInts.f kj4 t418 ((t412.take ((wrap64 ((wrap64 ((wrap64 ((wrap64 (t416 * t409)) + t415)) * t411)) + t411)) : Int).toNat).drop ((wrap64 ((wrap64 ((wrap64 (t416 * t409)) + t415)) * t411)) : Int).toNat)).bind fun t433 => (some t433)) else (none)) else (none)) else (none)) = some r := by rw [if_neg (show ¬ (false = true) by decide)] at H; exact H
      clear H
      have H := H1
      clear H1
      obtain ⟨ji29, hji29⟩ : ∃ j_ : Int, (wrap64 ((wrap64 ((wrap64 (t416 * t409)) + t415)) * t411)) = j_ := ⟨_, rfl⟩
      replace H : (if 0 ≤ (ji29) then (if (ji29) ≤ (wrap64 ((ji29) + t411)) then (if (wrap64 ((ji29) + t411)) ≤ (t412.length : Int) then ((laws_equalInts.f kj4 t418 ((t412.take ((wrap64 ((ji29) + t411)) : Int).toNat).drop ((ji29) : Int).toNat)).bind fun t433 => (some t433)) else (none)) else (none)) else (none)) = some r := by first | (rw [hji29] at H; exact H) | (simp only [hji29] at H ⊢; exact H)
      have hji29w : (IntKind.i64.wrap ((wrap64 ((wrap64 (t416 * t409)) + t415)) * t411)) = ji29 := (i64_w _).trans hji29
      by_cases c30 : 0 ≤ (ji29)
      · rw [if_pos c30] at H
        have c30b0 := eq_true c30
        have c30b1 : decide (0 ≤ (ji29)) = true := decide_eq_true c30
        clear c30
        by_cases c31 : (ji29) ≤ (wrap64 ((ji29) + t411))
        · rw [if_pos c31] at H
          have c31b0 := eq_true c31
          have c31b1 : decide ((ji29) ≤ (wrap64 ((ji29) + t411))) = true := decide_eq_true c31
          by_cases c32 : (wrap64 ((ji29) + t411)) ≤ (t412.length : Int)
          · rw [if_pos c32] at H
            have c32b0 := eq_true c32
            have c32b1 : decide ((wrap64 ((ji29) + t411)) ≤ (t412.length : Int)) = true := decide_eq_true c32
            obtain ⟨y429, hy429⟩ : ∃ y_ : List Int, y_ = ((t412.take ((wrap64 ((ji29) + t411)) : Int).toNat).drop ((ji29) : Int).toNat) := ⟨_, rfl⟩
            replace H : ((laws_equalInts.f kj4 t418 y429).bind fun t433 => (some t433)) = some r := by first | (rw [hy429]; with_reducible exact H) | (have H2_ := (Option.bind_some _ _).symm.trans H; rw [hy429]; with_reducible exact H2_) | (have H2_ := (Option.bind_some _ _).symm.trans H; with_reducible exact H2_) | with_reducible exact H | (rw [hy429]; exact H) | exact H
            have Ny429 := Aside0.mk hy429
            clear hy429
            replace H := Option.bind_eq_some_iff.mp H
            obtain ⟨t433, A330, H⟩ := H
            replace H : (some t433) = some r := H
            have A33 := Aside0.mk A330
            clear A330
            obtain rfl := Option.some.inj H
            simp only [Option.some.injEq, Prod.mk.injEq] at H
            obtain ⟨rfl⟩ := H
            have hcz34_0 : wc.cell? ⟨gb417, 0, none⟩ = some (.int .i64 t409) := B.bc BK417 0
            have hcz34_1 : wc.cell? ⟨gb417, 1, none⟩ = some (.int .i64 t410) := B.bc BK417 1
            have hcz34_2 : wc.cell? ⟨gb417, 2, none⟩ = some (.int .i64 t411) := B.bc BK417 2
            have hcz34_3 : wc.cell? ⟨gb417, 3, none⟩ = some (.slice Ao9 t412.length co9) := B.bc BK417 3
            have hfz34_0 := blk_frozen BK417.out 0
            have hfz34_1 := blk_frozen BK417.out 1
            have hfz34_2 := blk_frozen BK417.out 2
            have hfz34_3 := blk_frozen BK417.out 3
            have q35 : ((wrap64 ((ji29) + t411)) : Int) ≤ ((t412.length : Int) : Int) := of_decide_eq_true (by first | (with_reducible assumption) | assumption)
            obtain ⟨i035, hi035, _, hsz35, _⟩ := info_parts info3
            have hroom35 : t412.length ≤ co9 := (Kd.Q_reads' HO_418003.out).2.1
            have hC35 : Kd.C (Kd.int .i64) _ Ao9 t412.length t412 := (Kd.Q_reads' HO_418003.out).2.2
            have ql35 : ((ji29) : Int) ≤ ((wrap64 ((ji29) + t411)) : Int) := of_decide_eq_true (by first | (with_reducible assumption) | assumption)
            have q035 : (0 : Int) ≤ ((ji29) : Int) := of_decide_eq_true (by first | (with_reducible assumption) | assumption)
            have hcut35 := cut_mid (P := Try.prog) 22 3 .i64 .i64 Try.underlying22 hi035 1 hsz35 Ao9 t412.length co9 (ji29) (wrap64 ((ji29) + t411)) q035 ql35 q35 hroom35
            have hr35 := Kd.C_mid (lo := ((ji29) : Int).toNat) (hi := ((wrap64 ((ji29) + t411)) : Int).toNat) (c := co9) hC35 (by omega) (by omega) hroom35
            obtain ⟨A35, hA35⟩ : ∃ A1, A1 = (if co9 = ((ji29) : Int).toNat then Ao9 else (Ao9 : Option Addr).map (·.add (((ji29) : Int).toNat * 1))) := ⟨_, rfl⟩
            obtain ⟨c35, hc35⟩ : ∃ c1, c1 = co9 - ((ji29) : Int).toNat := ⟨_, rfl⟩
            have hy35 : y429.length = ((wrap64 ((ji29) + t411)) : Int).toNat - ((ji29) : Int).toNat := (by rw [Ny429.out, List.length_drop, List.length_take] <;> omega)
            rw [show ((t412).take ((wrap64 ((ji29) + t411)) : Int).toNat).drop ((ji29) : Int).toNat = y429 from Ny429.out.symm] at hr35
            replace hr35 : Kd.C (Kd.int .i64) _ A35 y429.length y429 := (by rw [hA35]; exact hr35)
            rw [← hy35, ← hA35, ← hc35] at hcut35
            have HR432 := Aside0.mk hr35
            have HC432 := Aside0.mk (show y429.length ≤ c35 from by rw [hy35, hc35]; exact Nat.sub_le_sub_right (Nat.le_trans (by omega) hroom35) _)
            clear hr35 hC35 hroom35 hi035 hsz35 hc35
            have KY35 := Aside0.mk hy35
            have KA35 := Aside0.mk hA35
            clear hy35 hA35
            have KL35 := Aside0.mk (show ((wrap64 ((ji29) + t411)) : Int).toNat ≤ t412.length from by omega)
            have KM35 := Aside0.mk (show ((ji29) : Int).toNat ≤ ((wrap64 ((ji29) + t411)) : Int).toNat from by omega)
            replace q35 := eq_true q35
            obtain ⟨Ao36, co36, eo36⟩ := Kd.R_slice HO_6.out
            subst eo36
            go_wp2_with (first | ((with_reducible refine gate_callee (f := 27) rfl ?_); refine goesL_ (some 57) rfl rfl Try.func27 (by kernel_rfl) rfl #[.slice Ao36 t418.length co36, .slice A35 y429.length c35] rfl B.am ?_; (with_reducible refine (laws_equalInts.calls kj4 _ _ t418 _ _ y429 t433 _ ?side1 ?side2 ?side3 ?side4 A33.out).mono ?_); (case side1 => exact B.kc ((Kd.R_reads' HO_6.out).2.2)); (case side2 => exact (Kd.R_reads' HO_6.out).2.1); (case side3 => repeat (first | exact (by repeat (first | (with_reducible exact HR432.out) | (with_reducible refine Kd.C_alloc ?_ _) | (with_reducible refine Kd.C_drewN ?_ _) | (with_reducible refine Kd.C_drew ?_) | exact HR432.out)) | (with_reducible refine Kd.C_alloc ?_ _) | (with_reducible refine Kd.C_drewN ?_ _) | (with_reducible refine Kd.C_drew ?_))); (case side4 => exact HC432.out); rintro e w' ⟨rfl, ⟨nd, rfl⟩⟩; refine ⟨_, rfl, ?_⟩))
            go_ret
            exact ⟨by first | rfl | (simp [errW_none, errW_some] <;> rfl) | (simp only [← hji29]; first | rfl | (simp [errW_none, errW_some] <;> rfl)) | (simp [*, errW_none, errW_some] <;> rfl), B.bl HB⟩
          rw [if_neg c32] at H
          exact absurd H (by simp)
        rw [if_neg c31] at H
        exact absurd H (by simp)
      rw [if_neg c30] at H
      exact absurd H (by simp)

/-- THE ONE PURE STATEMENT of laws_FnPixelAt: yours. -/
def laws_FnPixelAt.Pure : Prop := ∀ (l0 : List Int), l0.length ≤ maxLen → l0.length * 1 ≤ 140737488351232 → (∀ x ∈ l0, (Lit.int .u8 x).wf = true) → ∃ k, laws_FnPixelAt.f k l0 = some true
theorem laws_FnPixelAt.walk (P : laws_FnPixelAt.Pure) (a0 : Option Addr) (len0 cap0 : Nat) (z0 : List Int) (w : World) (w0 : (a0 = none ∧ len0 = 0 ∧ cap0 = 0 ∧ z0 = []) ∨ ∃ x, a0 = some x ∧ len0 ≤ cap0 ∧ cap0 ≤ maxLen ∧ z0.length = cap0 ∧ (∀ i, i < z0.length → w.cell? (x.add i) = some (.int .u8 (z0.getD i 0))) ∧ ∀ n ∈ z0, (Lit.int .u8 n).wf = true) (y0 : len0 * 1 ≤ 140737488351232) :
    Calls Try.prog 6 #[.slice a0 len0 cap0] w fun e w' => e = .returned (.bool true) ∧ Below w.heap.size w w' := by
  obtain ⟨l0, rfl, hr0, hm0, hw0, hc0⟩ := ReadsInt.ofRowC w0
  obtain ⟨k, h⟩ := P l0 hm0 y0 hw0
  refine (laws_FnPixelAt.calls k _ _ l0 true w (Kd.C_of_reads (d := (0 : Int)) (h1 := fun _ => rfl) hr0) hc0 h ⟨rfl⟩).mono ?_
  rintro e w' ⟨rfl, hd⟩
  exact ⟨rfl, hd⟩

end Go.Proofs.Ytegicfkcdmhjgaa.Q
