-- Written by a program of this session (the kit's printer, with hand-proved contracts for the functions that it does not take).
import Derived.Test.YtegicfkcdmhjgaaQ0
import Derived.Test.YtegicfkcdmhjgaaQ5
import Derived.Test.YtegicfkcdmhjgaaQ7
namespace Go.Proofs.Ytegicfkcdmhjgaa.Q
open Go.RowKit Go.Proofs.YtegicfkcdmhjgaaW.PrintWords Go.Proofs.YtegicfkcdmhjgaaW.PrintLast Go.Proofs.YtegicfkcdmhjgaaW.PrintMore
attribute [local go_sem] max2_int min2_int max_two min_two max_three min_three max_four min_four   -- for this text's walks alone
set_option linter.unusedVariables false
set_option linter.unusedSimpArgs false

/-! ### spec_DrawSetPixel: function 34 -/
def spec_DrawSetPixel.f (k : Nat) (l0 : List Int) : Option (Int × Int × Int × List Int × Int × Int × List Int) := (spec_newReader.f l0).bind fun bt380 => ((spec_anyImage.f k bt380.1 bt380.2).bind fun bt383 => ((spec_reader_pick.f k bt380.1 bt383.2.2.2.2 5).bind fun bt391 => ((spec_reader_pick.f k bt380.1 bt391.2 4).bind fun bt393 => ((spec_anyPixel.f k bt380.1 bt393.2 bt383.2.2.1).bind fun bt395 => (some (bt383.1, bt383.2.1, bt383.2.2.1, bt383.2.2.2.1, bt391.1, bt393.1, bt395.1))))))
theorem spec_DrawSetPixel.mono : ∀ a0 k, LeO (spec_DrawSetPixel.f k a0) (spec_DrawSetPixel.f (k + 1) a0) := by
  intro a0 k
  unfold spec_DrawSetPixel.f
  repeat' first
      | (with_reducible exact spec_anyImage.mono _ _ _)
      | (with_reducible exact spec_anyPixel.mono _ _ _ _)
      | (with_reducible exact spec_reader_pick.mono _ _ _ _)
      | (with_reducible exact LeO.refl _)
      | (with_reducible exact LeO.none _)
      | (with_reducible refine LeO.ite ?_ ?_)
      | (with_reducible refine LeO.bind ?_ (fun _ => ?_))
      | exact spec_anyImage.mono _ _ _
      | exact spec_anyPixel.mono _ _ _ _
      | exact spec_reader_pick.mono _ _ _ _
      | exact LeO.none _
      | refine LeO.ite ?_ ?_
      | refine LeO.bind ?_ (fun _ => ?_)
def spec_DrawSetPixel.T5 : Bool × List (List Nat × List Nat) := (true, [([], []), ([], []), ([], []), ([], []), ([], []), ([4], [4]), ([3, 5], [3, 5]), ([0, 6, 0], [0]), ([1, 7, 0, 1, 7], [1]), ([2, 8, 0, 1, 2, 7, 8], [2]), ([6, 9, 0, 1, 2, 3, 4, 5, 6, 7, 8, 9], [6])])
def spec_DrawSetPixel.B5 : List Nat := [0, 0, 0, 0, 0, 16, 56, 121, 251, 511, 1023]
theorem spec_DrawSetPixel.tab5 : rtab .any (opsOf Try.f34 5) = spec_DrawSetPixel.T5 := by kernel_rfl
theorem spec_DrawSetPixel.bits5 : waitsOk spec_DrawSetPixel.T5.2 spec_DrawSetPixel.B5 = true := by kernel_rfl
set_option maxHeartbeats 8000000 in
set_option maxRecDepth 100000 in
theorem spec_DrawSetPixel.calls (k : Nat) (A0 : Option Addr) (c0 : Nat) (l0 : List Int) (r1 : Int) (r2 : Int) (r3 : Int) (r4 : List Int) (r5 : Int) (r6 : Int) (r7 : List Int) (w : World) (hr0 : Kd.C (Kd.int .u8) w A0 l0.length l0) (hc0 : l0.length ≤ c0) (h : spec_DrawSetPixel.f k l0 = some (r1, r2, r3, r4, r5, r6, r7)) :
    Calls Try.prog 34 #[.slice A0 l0.length c0] w fun e w' => ∃ v3_ v6_ : Value, e = .returned (.tuple #[.agg #[.int .i64 r1, .int .i64 r2, .int .i64 r3, v3_], .int .i64 r5, .int .i64 r6, v6_]) ∧ Kd.Q (Kd.int .i64) 3 w' w.heap.size (fun k_ => some k_ ≠ (v6_ : Value).ownBlock) v3_ r4 ∧ Kd.Q (Kd.int .i64) 3 w' w.heap.size (fun k_ => some k_ ≠ (v3_ : Value).ownBlock) v6_ r7 ∧ Below w.heap.size w w' := by
  have hu27 := Try.underlying27
  have HR0 := Aside0.mk hr0
  have HC0 := Aside0.mk hc0
  clear hr0 hc0
  have HB := Aside0.mk (Below.refl w.heap.size w)
  have H : ((spec_newReader.f l0).bind fun bt380 => ((spec_anyImage.f k bt380.1 bt380.2).bind fun bt383 => ((spec_reader_pick.f k bt380.1 bt383.2.2.2.2 5).bind fun bt391 => ((spec_reader_pick.f k bt380.1 bt391.2 4).bind fun bt393 => ((spec_anyPixel.f k bt380.1 bt393.2 bt383.2.2.1).bind fun bt395 => (some (bt383.1, bt383.2.1, bt383.2.2.1, bt383.2.2.2.1, bt391.1, bt393.1, bt395.1))))))) = some (r1, r2, r3, r4, r5, r6, r7) := h
  clear h
  replace H := Option.bind_eq_some_iff.mp H
  obtain ⟨⟨t380, t381⟩, A20, H⟩ := H
  replace H : ((spec_anyImage.f k t380 t381).bind fun bt383 => ((spec_reader_pick.f k t380 bt383.2.2.2.2 5).bind fun bt391 => ((spec_reader_pick.f k t380 bt391.2 4).bind fun bt393 => ((spec_anyPixel.f k t380 bt393.2 bt383.2.2.1).bind fun bt395 => (some (bt383.1, bt383.2.1, bt383.2.2.1, bt383.2.2.2.1, bt391.1, bt393.1, bt395.1)))))) = some (r1, r2, r3, r4, r5, r6, r7) := H
  have A2 := Aside0.mk A20
  clear A20
  replace H := Option.bind_eq_some_iff.mp H
  obtain ⟨⟨t383, t384, t385, t386, t389⟩, A30, H⟩ := H
  replace H : ((spec_reader_pick.f k t380 t389 5).bind fun bt391 => ((spec_reader_pick.f k t380 bt391.2 4).bind fun bt393 => ((spec_anyPixel.f k t380 bt393.2 t385).bind fun bt395 => (some (t383, t384, t385, t386, bt391.1, bt393.1, bt395.1))))) = some (r1, r2, r3, r4, r5, r6, r7) := H
  have A3 := Aside0.mk A30
  clear A30
  replace H := Option.bind_eq_some_iff.mp H
  obtain ⟨⟨t391, t392⟩, A40, H⟩ := H
  replace H : ((spec_reader_pick.f k t380 t392 4).bind fun bt393 => ((spec_anyPixel.f k t380 bt393.2 t385).bind fun bt395 => (some (t383, t384, t385, t386, t391, bt393.1, bt395.1)))) = some (r1, r2, r3, r4, r5, r6, r7) := H
  have A4 := Aside0.mk A40
  clear A40
  replace H := Option.bind_eq_some_iff.mp H
  obtain ⟨⟨t393, t394⟩, A50, H⟩ := H
  replace H : ((spec_anyPixel.f k t380 t394 t385).bind fun bt395 => (some (t383, t384, t385, t386, t391, t393, bt395.1))) = some (r1, r2, r3, r4, r5, r6, r7) := H
  have A5 := Aside0.mk A50
  clear A50
  replace H := Option.bind_eq_some_iff.mp H
  obtain ⟨⟨t395, t398⟩, A60, H⟩ := H
  replace H : (some (t383, t384, t385, t386, t391, t393, t395)) = some (r1, r2, r3, r4, r5, r6, r7) := H
  have A6 := Aside0.mk A60
  clear A60
  simp only [Option.some.injEq, Prod.mk.injEq] at H
  obtain ⟨rfl, rfl, rfl, rfl, rfl, rfl, rfl⟩ := H
  go_enter Try.func34, Try.ntmps34
  try go_wp2_with (first | ((with_reducible refine gate_dst (N := 2) rfl ?_); refine box_event ?hg (N := 2) ?hd (cs := #[.int .i64 0, .int .i64 0, .int .i64 0, .slice none 0 0]) (t := 27) ?hr ?_; (case hd => rfl); (case hg => rfl); (case hr => first | (go_simp; done) | (go_simp; rfl)); intro gb379 hg w7 hbox hb; have n0_ := Aside0.mk (below_step (B.bl HB) hb); have n1_ := Aside0.mk (hbox); have n2_ := Aside0.mk (B.nle hg (below_size (B.bl HB))); have n3_ := Aside0.mk (B.nle hg (below_size (B.bl HB))); clear HB; have HB := n0_; have BK379 := n1_; have GW379 := n2_; have GE379 := n3_; clear n0_ n1_ n2_ n3_; clear hb hbox hg) | ((with_reducible refine gate_callee (f := 46) rfl ?_); refine goesL_ (some 11) rfl rfl Try.func46 (by kernel_rfl) rfl #[.slice A0 l0.length c0] rfl B.am ?_; (with_reducible refine (spec_newReader.calls _ _ l0 t380 t381 w _ ?side1 ?side2 ?side3 A2.out).mono ?_); (case side1 => exact B.bl HB); (case side2 => exact HR0.out); (case side3 => exact HC0.out); rintro e w8 ⟨g382, rfl, hi, hb, hb2⟩; refine ⟨_, rfl, ?_⟩; have n0_ := Aside0.mk (blk_below (B.kb BK379) hb2); have n1_ := Aside0.mk (hb); have n2_ := Aside0.mk (hi); have n3_ := Aside0.mk (IsS67.ne_blk hi (blk_below (B.kb BK379) hb2) (by decide)); have n4_ := Aside0.mk (Ne.symm (IsS67.ne_blk hi (blk_below (B.kb BK379) hb2) (by decide))); clear BK379 HB; have BK379 := n0_; have HB := n1_; have HI382 := n2_; have NB382_379 := n3_; have NB379_382 := n4_; clear n0_ n1_ n2_ n3_ n4_; (try clear hb); (try clear hb2); (try clear hk); (try clear hi)) | ((with_reducible refine gate_callee (f := 47) rfl ?_); refine goesL_ (some 13) rfl rfl Try.func47 (by kernel_rfl) rfl #[.pointer (some ⟨g382, 0, none⟩)] rfl B.am ?_; (with_reducible refine (spec_anyImage.calls k g382 t380 t381 t383 t384 t385 t386 t389 w _ ?side1 ?side2 A3.out).mono ?_); (case side1 => exact B.st HI382); (case side2 => exact B.bs HB); rintro e w9 ⟨v387, rfl, ho0, hi, hb, hk⟩; refine ⟨_, rfl, ?_⟩; have n0_ := Aside0.mk (KeepBut.blk hk (g' := gb379) (o := .cells #[.int .i64 0, .int .i64 0, .int .i64 0, .slice none 0 0] 27 (0, 0)) (B.kb BK379) NB379_382.out (by simp)); have n1_ := Aside0.mk (Kd.Q_lower ho0 (below_size (B.bs HB))); have n2_ := Aside0.mk (hb); have n3_ := Aside0.mk (hi); clear BK379 HB HI382; have BK379 := n0_; have HO388 := n1_; have HB := n2_; have HI382 := n3_; clear n0_ n1_ n2_ n3_; (try clear hb); (try clear hb2); (try clear hk); (try clear hi); (try clear ho0)) | ((with_reducible refine gate_dst (N := 7) rfl ?_); refine box_event ?hg (N := 7) ?hd (cs := #[.int .i64 0, .int .i64 0, .int .i64 0, .slice none 0 0]) (t := 27) ?hr ?_; (case hd => rfl); (case hg => rfl); (case hr => first | (go_simp; done) | (go_simp; rfl)); intro gb390 hg w10 hbox hb; have n0_ := Aside0.mk (Kd.Q_below (B.kq HO388) hb); have n1_ := Aside0.mk (blk_below (B.kb BK379) hb); have n2_ := Aside0.mk (IsS67.below (B.st HI382) hb); have n3_ := Aside0.mk (below_step (B.bs HB) hb); have n4_ := Aside0.mk (hbox); have n5_ := Aside0.mk ((by rw [hg]; exact (below_size (B.bs HB)) : w.heap.size ≤ gb390)); have n6_ := Aside0.mk ((by rw [hg]; exact (below_size (B.bs HB)) : w.heap.size ≤ gb390)); have n7_ := Aside0.mk (B.nlt hg (blk_lt (B.kb BK379))); have n8_ := Aside0.mk (B.ngt hg (blk_lt (B.kb BK379))); have n9_ := Aside0.mk ((by rw [hg]; exact Nat.ne_of_lt (IsS67.lt (show IsS67 w _ g382 t380 t389 from B.st HI382)) : g382 ≠ gb390)); have n10_ := Aside0.mk ((by rw [hg]; exact Nat.ne_of_gt (IsS67.lt (show IsS67 w _ g382 t380 t389 from B.st HI382)) : gb390 ≠ g382)); clear HO388 BK379 HI382 HB; have HO388 := n0_; have BK379 := n1_; have HI382 := n2_; have HB := n3_; have BK390 := n4_; have GW390 := n5_; have GE390 := n6_; have NB379_390 := n7_; have NB390_379 := n8_; have NB382_390 := n9_; have NB390_382 := n10_; clear n0_ n1_ n2_ n3_ n4_ n5_ n6_ n7_ n8_ n9_ n10_; clear hb hbox hg; have hnb11 := NB390_379.out; have hnc11 := NB379_390.out; have hnb12 := NB390_382.out; have hnc12 := NB382_390.out; have hcz13_0 : w10.cell? ⟨gb390, 0, none⟩ = some (.int .i64 0) := B.bc BK390 0; have hcz13_1 : w10.cell? ⟨gb390, 1, none⟩ = some (.int .i64 0) := B.bc BK390 1; have hcz13_2 : w10.cell? ⟨gb390, 2, none⟩ = some (.int .i64 0) := B.bc BK390 2; have hcz13_3 : w10.cell? ⟨gb390, 3, none⟩ = some (.slice none 0 0) := B.bc BK390 3; have hfz13_0 := blk_frozen BK390.out 0; have hfz13_1 := blk_frozen BK390.out 1; have hfz13_2 := blk_frozen BK390.out 2; have hfz13_3 := blk_frozen BK390.out 3; obtain ⟨Ao14, co14, eo14, _⟩ := Kd.Q_slice HO388.out; subst eo14) | ((with_reducible refine gate_callee (f := 54) rfl ?_); refine goesL_ (some 15) rfl rfl Try.func54 (by kernel_rfl) rfl #[.pointer (some ⟨g382, 0, none⟩), .int .i64 5] rfl B.am ?_; (with_reducible refine (spec_reader_pick.calls k g382 t380 t389 5 t391 t392 w _ ?side1 ?side2 A4.out).mono ?_); (case side1 => exact B.st HI382); (case side2 => exact B.bs HB); rintro e w15 ⟨rfl, hi, hb, hk⟩; refine ⟨_, rfl, ?_⟩; have n0_ := Aside0.mk (KeepBut.blk hk (g' := gb379) (o := .cells #[.int .i64 0, .int .i64 0, .int .i64 0, .slice none 0 0] 27 (0, 0)) (B.kb0 (B.bf4 BK379 NB379_390)) NB379_382.out (by simp)); have n1_ := Aside0.mk (Kd.Q_mono (Kd.Q_keep (IsS67.apartQ (show IsS67 w _ g382 t380 t389 from B.st HI382) (by (with_reducible repeat (first | apply Kd.Q_alloc | apply Kd.Q_drewN | apply Kd.Q_drew)); exact (Kd.Q_mono (Kd.Q_far (p := ⟨gb390, 3, none⟩) (Kd.Q_far (p := ⟨gb390, 2, none⟩) (Kd.Q_far (p := ⟨gb390, 1, none⟩) (Kd.Q_far (p := ⟨gb390, 0, none⟩) (Kd.Q_types HO388.out BK390.out (by decide)) (fun _ hk => hk.2) (.int .i64 t383)) (fun _ hk => hk.2) (.int .i64 t384)) (fun _ hk => hk.2) (.int .i64 t385)) (fun _ hk => hk.2) (.slice Ao14 t386.length co14)) (fun _ h_ => h_.1))) (by decide)) hk (fun _ h => h.2)) (fun _ h => h.1)); have n2_ := Aside0.mk (KeepBut.blk hk (g' := gb390) (o := .cells #[.int .i64 t383, .int .i64 t384, .int .i64 t385, .slice Ao14 t386.length co14] 27 (0, 0)) (B.kb0 (B.bp4 BK390)) NB390_382.out (by simp)); have n3_ := Aside0.mk (hb); have n4_ := Aside0.mk (hi); clear BK379 HO388 BK390 HB HI382; have BK379 := n0_; have HO388 := n1_; have BK390 := n2_; have HB := n3_; have HI382 := n4_; clear n0_ n1_ n2_ n3_ n4_; (try clear hb); (try clear hb2); (try clear hk); (try clear hi)) | ((with_reducible refine gate_callee (f := 54) rfl ?_); refine goesL_ (some 17) rfl rfl Try.func54 (by kernel_rfl) rfl #[.pointer (some ⟨g382, 0, none⟩), .int .i64 4] rfl B.am ?_; (with_reducible refine (spec_reader_pick.calls k g382 t380 t392 4 t393 t394 w _ ?side1 ?side2 A5.out).mono ?_); (case side1 => exact B.st HI382); (case side2 => exact B.bs HB); rintro e w16 ⟨rfl, hi, hb, hk⟩; refine ⟨_, rfl, ?_⟩; have n0_ := Aside0.mk (KeepBut.blk hk (g' := gb379) (o := .cells #[.int .i64 0, .int .i64 0, .int .i64 0, .slice none 0 0] 27 (0, 0)) (B.kb BK379) NB379_382.out (by simp)); have n1_ := Aside0.mk (Kd.Q_mono (Kd.Q_keep (IsS67.apartQ (show IsS67 w _ g382 t380 t392 from B.st HI382) (B.kq HO388) (by decide)) hk (fun _ h => h.2)) (fun _ h => h.1)); have n2_ := Aside0.mk (KeepBut.blk hk (g' := gb390) (o := .cells #[.int .i64 t383, .int .i64 t384, .int .i64 t385, .slice Ao14 t386.length co14] 27 (0, 0)) (B.kb BK390) NB390_382.out (by simp)); have n3_ := Aside0.mk (hb); have n4_ := Aside0.mk (hi); clear BK379 HO388 BK390 HB HI382; have BK379 := n0_; have HO388 := n1_; have BK390 := n2_; have HB := n3_; have HI382 := n4_; clear n0_ n1_ n2_ n3_ n4_; (try clear hb); (try clear hb2); (try clear hk); (try clear hi)))
  have n0_ := Aside0.mk (Kd.Q_drew HO388.out)
  have n1_ := Aside0.mk (blk_drew BK379.out)
  have n2_ := Aside0.mk (blk_drew BK390.out)
  have n3_ := Aside0.mk (IsS67.drew HI382.out)
  have n4_ := Aside0.mk (below_drew1 HB.out)
  clear HO388 BK379 BK390 HI382 HB
  have HO388 := n0_
  have BK379 := n1_
  have BK390 := n2_
  have HI382 := n3_
  have HB := n4_
  clear n0_ n1_ n2_ n3_ n4_
  refine start_ (n := 11) (S := fun w' => w'.cell? ⟨gb390, 0, none⟩ = some (.int .i64 t383) ∧ w'.cell? ⟨gb390, 1, none⟩ = some (.int .i64 t384) ∧ w'.cell? ⟨gb390, 2, none⟩ = some (.int .i64 t385) ∧ w'.cell? ⟨gb390, 3, none⟩ = some (.slice Ao14 t386.length co14)) (ds := []) #[false, false, false, false, false, false, false, false, false, false, false] (by kernel_rfl) rfl rfl ⟨B.bc BK390 0, B.bc BK390 1, B.bc BK390 2, B.bc BK390 3⟩ (fun hHeld => ?_); refine with_tabW spec_DrawSetPixel.tab5 spec_DrawSetPixel.bits5 (fun HT_ HW_ => ?_)
  generalize w16.drew = w17 at HO388 BK379 BK390 HI382 HB hHeld ⊢
  refine pure_ (i := 1) (N := some 19) (v := ?_) (a' := ?_) #[false, true, false, false, false, false, false, false, false, false, false] rfl rfl (any_of HT_.out (by kernel_rfl)) (fun _ _ _ h => h) (Or.inl ⟨by rfl, ?_⟩) ?_ ?_
  rotate_left
  · intro w'
    go_simp
    with_reducible rfl
  rotate_left
  · simp only [Act.put, List.setIfInBounds_toArray, List.set_cons_zero, List.set_cons_succ, i64_w, i32_w]
    rfl
  refine pure_ (i := 2) (N := some 20) (v := ?_) (a' := ?_) #[false, true, true, false, false, false, false, false, false, false, false] rfl rfl (any_of HT_.out (by kernel_rfl)) (fun _ _ _ h => h) (Or.inl ⟨by rfl, ?_⟩) ?_ ?_
  rotate_left
  · intro w'
    go_simp
    with_reducible rfl
  rotate_left
  · simp only [Act.put, List.setIfInBounds_toArray, List.set_cons_zero, List.set_cons_succ, i64_w, i32_w]
    rfl
  refine pure_ (i := 3) (N := some 21) (v := ?_) (a' := ?_) #[false, true, true, true, false, false, false, false, false, false, false] rfl rfl (any_of HT_.out (by kernel_rfl)) (fun _ _ _ h => h) (Or.inl ⟨by rfl, ?_⟩) ?_ ?_
  rotate_left
  · intro w'
    go_simp
    with_reducible rfl
  rotate_left
  · simp only [Act.put, List.setIfInBounds_toArray, List.set_cons_zero, List.set_cons_succ, i64_w, i32_w]
    rfl
  refine pure_ (i := 4) (N := some 22) (v := ?_) (a' := ?_) #[false, true, true, true, true, false, false, false, false, false, false] rfl rfl (any_of HT_.out (by kernel_rfl)) (fun _ _ _ h => h) (Or.inl ⟨by rfl, ?_⟩) ?_ ?_
  rotate_left
  · intro w'
    go_simp
    with_reducible rfl
  rotate_left
  · simp only [Act.put, List.setIfInBounds_toArray, List.set_cons_zero, List.set_cons_succ, i64_w, i32_w]
    rfl
  refine take_ (i := 0) (N := some 18) (v := ?_) (a' := ?_) #[true, true, true, true, true, false, false, false, false, false, false] rfl rfl (take_ofW HT_.out HW_.out (by kernel_rfl)) (fun _ _ _ h => h) (Or.inl ⟨by rfl, ?_⟩) hHeld ?_ ?_
  rotate_left
  · rintro w' ⟨s0, s1, s2, s3⟩
    go_simp
    with_reducible rfl
  rotate_left
  · simp only [Act.put, List.setIfInBounds_toArray, List.set_cons_zero, List.set_cons_succ, i64_w, i32_w]
    rfl
  refine take_ (i := 5) (N := some 23) (v := ?_) (a' := ?_) #[true, true, true, true, true, true, false, false, false, false, false] rfl rfl (take_ofW HT_.out HW_.out (by kernel_rfl)) (fun _ _ _ h => h) (Or.inl ⟨by rfl, ?_⟩) hHeld ?_ ?_
  rotate_left
  · rintro w' ⟨s0, s1, s2, s3⟩
    go_simp
    with_reducible rfl
  rotate_left
  · simp only [Act.put, List.setIfInBounds_toArray, List.set_cons_zero, List.set_cons_succ, i64_w, i32_w]
    rfl
  refine one_ (i := 6) (N := some 24) #[true, true, true, true, true, true, true, false, false, false, false] rfl rfl (one_of HT_.out (by kernel_rfl)) (by decide) (fun K hK => ?_)
  refine goes_ Try.func55 (by kernel_rfl) rfl #[.pointer (some ⟨g382, 0, none⟩), .int .i64 t385] (by rfl) rfl rfl B.am ?_
  with_reducible refine (spec_anyPixel.calls k g382 t380 t394 t385 t395 t398 w _ ?side1 ?side2 A6.out).mono ?_
  (case side1 => exact B.st HI382)
  (case side2 => exact B.bs HB)
  rintro e w18 ⟨v396, rfl, ho0, hi, hb, hk⟩
  refine ⟨_, rfl, ?_⟩
  have n0_ := Aside0.mk (KeepBut.blk hk (g' := gb379) (o := .cells #[.int .i64 0, .int .i64 0, .int .i64 0, .slice none 0 0] 27 (0, 0)) (B.kb BK379) NB379_382.out (by simp))
  have n1_ := Aside0.mk (Kd.Q_mono (Kd.Q_told (Kd.Q_oldK (IsS67.apartQ (show IsS67 w _ g382 t380 t394 from B.st HI382) (B.kq HO388) (by decide)) hk) (Kd.Q_base ho0)) (fun _ h_ => h_.1))
  have n2_ := Aside0.mk (KeepBut.blk hk (g' := gb390) (o := .cells #[.int .i64 t383, .int .i64 t384, .int .i64 t385, .slice Ao14 t386.length co14] 27 (0, 0)) (B.kb BK390) NB390_382.out (by simp))
  have n3_ := Aside0.mk (Kd.Q_lower (Kd.Q_new' ho0 (Kd.Q_lt (B.kq HO388))) (below_size (B.bs HB)))
  have n4_ := Aside0.mk (hb)
  have n5_ := Aside0.mk (hi)
  clear BK379 HO388 BK390 HB HI382
  have BK379 := n0_
  have HO388 := n1_
  have BK390 := n2_
  have HO397 := n3_
  have HB := n4_
  have HI382 := n5_
  clear n0_ n1_ n2_ n3_ n4_ n5_
  (try clear hb)
  (try clear hb2)
  (try clear hk)
  (try clear hi)
  (try clear ho0)
  refine hK.out _ _ ⟨B.bc BK390 0, B.bc BK390 1, B.bc BK390 2, B.bc BK390 3⟩ (fun hHeld => ?_)
  clear hK K
  refine norm_ (a' := ?_) ?_ ?_
  rotate_left
  · show Act.put _ (some 24) _ = _
    simp only [Act.put, List.setIfInBounds_toArray, List.set_cons_zero, List.set_cons_succ, i64_w, i32_w]
    rfl
  refine one_ (i := 7) (N := none) #[true, true, true, true, true, true, true, true, false, false, false] rfl rfl (one_of HT_.out (by kernel_rfl)) (by decide) (fun K hK => ?_)
  have hs19 : w18.cell? ⟨gb379, 0, none⟩ = some (.int .i64 0) := B.bc BK379 0
  have hfs19 := blk_frozen BK379.out 0
  have hns19_1 := NB390_379.out
  have hms19_1 := NB379_390.out
  have hs20 : w18.cell? ⟨gb379, 1, none⟩ = some (.int .i64 0) := B.bc BK379 1
  have hfs20 := blk_frozen BK379.out 1
  have hns20_1 := NB390_379.out
  have hms20_1 := NB379_390.out
  have hs21 : w18.cell? ⟨gb379, 2, none⟩ = some (.int .i64 0) := B.bc BK379 2
  have hfs21 := blk_frozen BK379.out 2
  have hns21_1 := NB390_379.out
  have hms21_1 := NB379_390.out
  have hs22 : w18.cell? ⟨gb379, 3, none⟩ = some (.slice none 0 0) := B.bc BK379 3
  have hfs22 := blk_frozen BK379.out 3
  have hns22_1 := NB390_379.out
  have hms22_1 := NB379_390.out
  refine skip_ (w1 := ?_) (by rfl) rfl ?_ ?_
  rotate_left
  · go_simp
    rfl
  refine hK.out _ _ ⟨(B.cf4 NB390_379 hHeld.1), (B.cf4 NB390_379 hHeld.2.1), (B.cf4 NB390_379 hHeld.2.2.1), (B.cf4 NB390_379 hHeld.2.2.2)⟩ (fun hHeld => ?_)
  clear hK K
  refine pure_ (i := 8) (N := some 3) (v := ?_) (a' := ?_) #[true, true, true, true, true, true, true, true, true, false, false] rfl rfl (any_of HT_.out (by kernel_rfl)) (fun _ _ _ h => h) (Or.inl ⟨by rfl, ?_⟩) ?_ ?_
  rotate_left
  · intro w'
    go_simp
    with_reducible rfl
  rotate_left
  · simp only [Act.put, List.setIfInBounds_toArray, List.set_cons_zero, List.set_cons_succ, i64_w, i32_w]
    rfl
  refine pure_ (i := 9) (N := some 4) (v := ?_) (a' := ?_) #[true, true, true, true, true, true, true, true, true, true, false] rfl rfl (any_of HT_.out (by kernel_rfl)) (fun _ _ _ h => h) (Or.inl ⟨by rfl, ?_⟩) ?_ ?_
  rotate_left
  · intro w'
    go_simp
    with_reducible rfl
  rotate_left
  · simp only [Act.put, List.setIfInBounds_toArray, List.set_cons_zero, List.set_cons_succ, i64_w, i32_w]
    rfl
  refine pure_ (i := 10) (N := some 5) (v := ?_) (a' := ?_) #[true, true, true, true, true, true, true, true, true, true, true] rfl rfl (any_of HT_.out (by kernel_rfl)) (fun _ _ _ h => h) (Or.inl ⟨by rfl, ?_⟩) ?_ ?_
  rotate_left
  · intro w'
    go_simp
    with_reducible rfl
  rotate_left
  · simp only [Act.put, List.setIfInBounds_toArray, List.set_cons_zero, List.set_cons_succ, i64_w, i32_w]
    rfl
  refine done_ (done_of HT_.out (by kernel_rfl)) ?_
  try go_wp2
  refine bodyPost_ret (results_list (rs := [.cell 2 27, .tmp 3, .tmp 4, .tmp 5]) rfl (by simp) (.cell gb379 27 #[.int .i64 t383, .int .i64 t384, .int .i64 t385, .slice Ao14 t386.length co14] (0, 0) _ rfl (B.kb0 (B.bp4 BK379)) Try.underlying27 rfl (by kernel_rfl) (.tmp (.tmp (.tmp .nil))))) rfl ?_
  exact ⟨_, _, by first | rfl | (simp [errW_none, errW_some] <;> rfl) | (simp [*, errW_none, errW_some] <;> rfl), by (with_reducible repeat (first | apply Kd.Q_alloc | apply Kd.Q_drewN | apply Kd.Q_drew)); exact Kd.Q_mono (Kd.Q_far (p := ⟨gb379, 3, none⟩) (Kd.Q_far (p := ⟨gb379, 2, none⟩) (Kd.Q_far (p := ⟨gb379, 1, none⟩) (Kd.Q_far (p := ⟨gb379, 0, none⟩) (Kd.Q_types HO388.out BK379.out (by decide)) (fun _ hk => hk.2) (.int .i64 t383)) (fun _ hk => hk.2) (.int .i64 t384)) (fun _ hk => hk.2) (.int .i64 t385)) (fun _ hk => hk.2) (.slice Ao14 t386.length co14)) (fun _ hk => hk.1.2), by (with_reducible repeat (first | apply Kd.Q_alloc | apply Kd.Q_drewN | apply Kd.Q_drew)); exact Kd.Q_mono (Kd.Q_far (p := ⟨gb379, 3, none⟩) (Kd.Q_far (p := ⟨gb379, 2, none⟩) (Kd.Q_far (p := ⟨gb379, 1, none⟩) (Kd.Q_far (p := ⟨gb379, 0, none⟩) (Kd.Q_types HO397.out BK379.out (by decide)) (fun _ hk => hk.2) (.int .i64 t383)) (fun _ hk => hk.2) (.int .i64 t384)) (fun _ hk => hk.2) (.int .i64 t385)) (fun _ hk => hk.2) (.slice Ao14 t386.length co14)) (fun _ hk => hk.1.2), B.bs HB⟩

end Go.Proofs.Ytegicfkcdmhjgaa.Q
