-- Written by a program of this session (the kit's printer, with hand-proved contracts for the functions that it does not take).
import Derived.Test.YtibbkaoghbmncaaQ0
import Derived.Test.YtibbkaoghbmncaaQ3
import Derived.Test.YtibbkaoghbmncaaQ7
namespace Go.Proofs.Ytibbkaoghbmncaa.Q
open Go.RowKit Go.Proofs.YtibbkaoghbmncaaW.PrintWords Go.Proofs.YtibbkaoghbmncaaW.PrintLast Go.Proofs.YtibbkaoghbmncaaW.PrintMore
attribute [local go_sem] max2_int min2_int max_two min_two max_three min_three max_four min_four   -- for this text's walks alone
set_option linter.unusedVariables false
set_option linter.unusedSimpArgs false

/-! ### spec_DrawTurnImage: function 23 -/
def spec_DrawTurnImage.f (k : Nat) (l0 : List Int) : Option (Int × Int × Int × List Int × Int) := (spec_newReader.f l0).bind fun bt388 => ((spec_anyImage.f k bt388.1 bt388.2).bind fun bt391 => ((spec_reader_one.f k bt388.1 bt391.2.2.2.2 (([0, 1, 2, 3, 4, (-1)] : List Int))).bind fun bt402 => (some (bt391.1, bt391.2.1, bt391.2.2.1, bt391.2.2.2.1, bt402.1))))
theorem spec_DrawTurnImage.mono : ∀ a0 k, LeO (spec_DrawTurnImage.f k a0) (spec_DrawTurnImage.f (k + 1) a0) := by
  intro a0 k
  unfold spec_DrawTurnImage.f
  repeat' first
      | (with_reducible exact spec_anyImage.mono _ _ _)
      | (with_reducible exact spec_reader_one.mono _ _ _ _)
      | (with_reducible exact LeO.refl _)
      | (with_reducible exact LeO.none _)
      | (with_reducible refine LeO.ite ?_ ?_)
      | (with_reducible refine LeO.bind ?_ (fun _ => ?_))
      | exact spec_anyImage.mono _ _ _
      | exact spec_reader_one.mono _ _ _ _
      | exact LeO.none _
      | refine LeO.ite ?_ ?_
      | refine LeO.bind ?_ (fun _ => ?_)
set_option maxHeartbeats 8000000 in
set_option maxRecDepth 100000 in
theorem spec_DrawTurnImage.calls (k : Nat) (A0 : Option Addr) (c0 : Nat) (l0 : List Int) (r1 : Int) (r2 : Int) (r3 : Int) (r4 : List Int) (r5 : Int) (w : World) (hr0 : Kd.C (Kd.int .u8) w A0 l0.length l0) (hc0 : l0.length ≤ c0) (h : spec_DrawTurnImage.f k l0 = some (r1, r2, r3, r4, r5)) :
    Calls Try.prog 23 #[.slice A0 l0.length c0] w fun e w' => ∃ v3_ : Value, e = .returned (.tuple #[.agg #[.int .i64 r1, .int .i64 r2, .int .i64 r3, v3_], .int .i64 r5]) ∧ Kd.Q (Kd.int .i64) 3 w' w.heap.size (fun _ => True) v3_ r4 ∧ Below w.heap.size w w' := by
  have hu26 := Try.underlying26
  have HR0 := Aside0.mk hr0
  have HC0 := Aside0.mk hc0
  clear hr0 hc0
  have HB := Aside0.mk (Below.refl w.heap.size w)
  have H : ((spec_newReader.f l0).bind fun bt388 => ((spec_anyImage.f k bt388.1 bt388.2).bind fun bt391 => ((spec_reader_one.f k bt388.1 bt391.2.2.2.2 (([0, 1, 2, 3, 4, (-1)] : List Int))).bind fun bt402 => (some (bt391.1, bt391.2.1, bt391.2.2.1, bt391.2.2.2.1, bt402.1))))) = some (r1, r2, r3, r4, r5) := h
  clear h
  replace H := Option.bind_eq_some_iff.mp H
  obtain ⟨⟨t388, t389⟩, A20, H⟩ := H
  replace H : ((spec_anyImage.f k t388 t389).bind fun bt391 => ((spec_reader_one.f k t388 bt391.2.2.2.2 (([0, 1, 2, 3, 4, (-1)] : List Int))).bind fun bt402 => (some (bt391.1, bt391.2.1, bt391.2.2.1, bt391.2.2.2.1, bt402.1)))) = some (r1, r2, r3, r4, r5) := H
  have A2 := Aside0.mk A20
  clear A20
  replace H := Option.bind_eq_some_iff.mp H
  obtain ⟨⟨t391, t392, t393, t394, t397⟩, A30, H⟩ := H
  replace H : ((spec_reader_one.f k t388 t397 (([0, 1, 2, 3, 4, (-1)] : List Int))).bind fun bt402 => (some (t391, t392, t393, t394, bt402.1))) = some (r1, r2, r3, r4, r5) := H
  have A3 := Aside0.mk A30
  clear A30
  obtain ⟨y399, hy399⟩ : ∃ y_ : List Int, y_ = (([0, 1, 2, 3, 4, (-1)] : List Int)) := ⟨_, rfl⟩
  replace H : ((spec_reader_one.f k t388 t397 y399).bind fun bt402 => (some (t391, t392, t393, t394, bt402.1))) = some (r1, r2, r3, r4, r5) := by first | (rw [hy399]; with_reducible exact H) | (have H2_ := (Option.bind_some _ _).symm.trans H; rw [hy399]; with_reducible exact H2_) | (have H2_ := (Option.bind_some _ _).symm.trans H; with_reducible exact H2_) | with_reducible exact H | (rw [hy399]; exact H) | exact H
  have Ny399 := Aside0.mk hy399
  clear hy399
  replace H := Option.bind_eq_some_iff.mp H
  obtain ⟨⟨t402, t403⟩, A40, H⟩ := H
  replace H : (some (t391, t392, t393, t394, t402)) = some (r1, r2, r3, r4, r5) := H
  have A4 := Aside0.mk A40
  clear A40
  simp only [Option.some.injEq, Prod.mk.injEq] at H
  obtain ⟨rfl, rfl, rfl, rfl, rfl⟩ := H
  go_enter Try.func23, Try.ntmps23
  try go_wp2_with (first | ((with_reducible refine gate_dst (N := 2) rfl ?_); refine box_event ?hg (N := 2) ?hd (cs := #[.int .i64 0, .int .i64 0, .int .i64 0, .slice none 0 0]) (t := 26) ?hr ?_; (case hd => rfl); (case hg => rfl); (case hr => first | (go_simp; done) | (go_simp; rfl)); intro gb387 hg w5 hbox hb; have n0_ := Aside0.mk (below_step (B.bl HB) hb); have n1_ := Aside0.mk (hbox); have n2_ := Aside0.mk (B.nle hg (below_size (B.bl HB))); have n3_ := Aside0.mk (B.nle hg (below_size (B.bl HB))); clear HB; have HB := n0_; have BK387 := n1_; have GW387 := n2_; have GE387 := n3_; clear n0_ n1_ n2_ n3_; clear hb hbox hg) | ((with_reducible refine gate_callee (f := 48) rfl ?_); refine goesL_ (some 7) rfl rfl Try.func48 (by kernel_rfl) rfl #[.slice A0 l0.length c0] rfl B.am ?_; (with_reducible refine (spec_newReader.calls _ _ l0 t388 t389 w _ ?side1 ?side2 ?side3 A2.out).mono ?_); (case side1 => exact B.bl HB); (case side2 => exact HR0.out); (case side3 => exact HC0.out); rintro e w6 ⟨g390, rfl, hi, hb, hb2⟩; refine ⟨_, rfl, ?_⟩; have n0_ := Aside0.mk (blk_below (B.kb BK387) hb2); have n1_ := Aside0.mk (hb); have n2_ := Aside0.mk (hi); have n3_ := Aside0.mk (IsS67.ne_blk hi (blk_below (B.kb BK387) hb2) (by decide)); have n4_ := Aside0.mk (Ne.symm (IsS67.ne_blk hi (blk_below (B.kb BK387) hb2) (by decide))); clear BK387 HB; have BK387 := n0_; have HB := n1_; have HI390 := n2_; have NB390_387 := n3_; have NB387_390 := n4_; clear n0_ n1_ n2_ n3_ n4_; (try clear hb); (try clear hb2); (try clear hk); (try clear hi)) | ((with_reducible refine gate_callee (f := 47) rfl ?_); refine goesL_ (some 9) rfl rfl Try.func47 (by kernel_rfl) rfl #[.pointer (some ⟨g390, 0, none⟩)] rfl B.am ?_; (with_reducible refine (spec_anyImage.calls k g390 t388 t389 t391 t392 t393 t394 t397 w _ ?side1 ?side2 A3.out).mono ?_); (case side1 => exact B.st HI390); (case side2 => exact B.bs HB); rintro e w7 ⟨v395, rfl, ho0, hi, hb, hk⟩; refine ⟨_, rfl, ?_⟩; have n0_ := Aside0.mk (KeepBut.blk hk (g' := gb387) (o := .cells #[.int .i64 0, .int .i64 0, .int .i64 0, .slice none 0 0] 26 (0, 0)) (B.kb BK387) NB387_390.out (by simp)); have n1_ := Aside0.mk (Kd.Q_lower ho0 (below_size (B.bs HB))); have n2_ := Aside0.mk (hb); have n3_ := Aside0.mk (hi); clear BK387 HB HI390; have BK387 := n0_; have HO396 := n1_; have HB := n2_; have HI390 := n3_; clear n0_ n1_ n2_ n3_; (try clear hb); (try clear hb2); (try clear hk); (try clear hi); (try clear ho0)) | ((with_reducible refine gate_dst (N := 5) rfl ?_); refine box_event ?hg (N := 5) ?hd (cs := #[.int .i64 0, .int .i64 0, .int .i64 0, .slice none 0 0]) (t := 26) ?hr ?_; (case hd => rfl); (case hg => rfl); (case hr => first | (go_simp; done) | (go_simp; rfl)); intro gb398 hg w8 hbox hb; have n0_ := Aside0.mk (Kd.Q_below (B.kq HO396) hb); have n1_ := Aside0.mk (blk_below (B.kb BK387) hb); have n2_ := Aside0.mk (IsS67.below (B.st HI390) hb); have n3_ := Aside0.mk (below_step (B.bs HB) hb); have n4_ := Aside0.mk (hbox); have n5_ := Aside0.mk ((by rw [hg]; exact (below_size (B.bs HB)) : w.heap.size ≤ gb398)); have n6_ := Aside0.mk ((by rw [hg]; exact (below_size (B.bs HB)) : w.heap.size ≤ gb398)); have n7_ := Aside0.mk (B.nlt hg (blk_lt (B.kb BK387))); have n8_ := Aside0.mk (B.ngt hg (blk_lt (B.kb BK387))); have n9_ := Aside0.mk ((by rw [hg]; exact Nat.ne_of_lt (IsS67.lt (show IsS67 w _ g390 t388 t397 from B.st HI390)) : g390 ≠ gb398)); have n10_ := Aside0.mk ((by rw [hg]; exact Nat.ne_of_gt (IsS67.lt (show IsS67 w _ g390 t388 t397 from B.st HI390)) : gb398 ≠ g390)); clear HO396 BK387 HI390 HB; have HO396 := n0_; have BK387 := n1_; have HI390 := n2_; have HB := n3_; have BK398 := n4_; have GW398 := n5_; have GE398 := n6_; have NB387_398 := n7_; have NB398_387 := n8_; have NB390_398 := n9_; have NB398_390 := n10_; clear n0_ n1_ n2_ n3_ n4_ n5_ n6_ n7_ n8_ n9_ n10_; clear hb hbox hg; have hnb9 := NB398_387.out; have hnc9 := NB387_398.out; have hnb10 := NB398_390.out; have hnc10 := NB390_398.out; have hcz11_0 : w8.cell? ⟨gb398, 0, none⟩ = some (.int .i64 0) := B.bc BK398 0; have hcz11_1 : w8.cell? ⟨gb398, 1, none⟩ = some (.int .i64 0) := B.bc BK398 1; have hcz11_2 : w8.cell? ⟨gb398, 2, none⟩ = some (.int .i64 0) := B.bc BK398 2; have hcz11_3 : w8.cell? ⟨gb398, 3, none⟩ = some (.slice none 0 0) := B.bc BK398 3; have hfz11_0 := blk_frozen BK398.out 0; have hfz11_1 := blk_frozen BK398.out 1; have hfz11_2 := blk_frozen BK398.out 2; have hfz11_3 := blk_frozen BK398.out 3; obtain ⟨Ao12, co12, eo12, _⟩ := Kd.Q_slice HO396.out; subst eo12))
  have n0_ : Aside0 (Kd.Q (Kd.int .i64) 3 ((((w8.setCell ⟨gb398, 0, none⟩ (.int .i64 t391)).setCell ⟨gb398, 1, none⟩ (.int .i64 t392)).setCell ⟨gb398, 2, none⟩ (.int .i64 t393)).setCell ⟨gb398, 3, none⟩ (.slice Ao12 t394.length co12)) w.heap.size (fun _ => True) (.slice Ao12 t394.length co12) t394) := ⟨by (with_reducible repeat (first | apply Kd.Q_alloc | apply Kd.Q_drewN | apply Kd.Q_drew)); exact Kd.Q_mono (Kd.Q_far (p := ⟨gb398, 3, none⟩) (Kd.Q_far (p := ⟨gb398, 2, none⟩) (Kd.Q_far (p := ⟨gb398, 1, none⟩) (Kd.Q_far (p := ⟨gb398, 0, none⟩) (Kd.Q_types HO396.out BK398.out (by decide)) (fun _ hk => hk.2) (.int .i64 t391)) (fun _ hk => hk.2) (.int .i64 t392)) (fun _ hk => hk.2) (.int .i64 t393)) (fun _ hk => hk.2) (.slice Ao12 t394.length co12)) (fun _ hk => trivial)⟩
  have n1_ : Aside0 (((((w8.setCell ⟨gb398, 0, none⟩ (.int .i64 t391)).setCell ⟨gb398, 1, none⟩ (.int .i64 t392)).setCell ⟨gb398, 2, none⟩ (.int .i64 t393)).setCell ⟨gb398, 3, none⟩ (.slice Ao12 t394.length co12)).heap[gb387]? = some (.cells #[.int .i64 0, .int .i64 0, .int .i64 0, .slice none 0 0] 26 (0, 0))) := ⟨B.kb0 (B.bf4 BK387 NB387_398)⟩
  have n2_ : Aside0 (((((w8.setCell ⟨gb398, 0, none⟩ (.int .i64 t391)).setCell ⟨gb398, 1, none⟩ (.int .i64 t392)).setCell ⟨gb398, 2, none⟩ (.int .i64 t393)).setCell ⟨gb398, 3, none⟩ (.slice Ao12 t394.length co12)).heap[gb398]? = some (.cells #[.int .i64 t391, .int .i64 t392, .int .i64 t393, .slice Ao12 t394.length co12] 26 (0, 0))) := ⟨B.kb0 (B.bp4 BK398)⟩
  have n3_ : Aside0 (IsS67 w ((((w8.setCell ⟨gb398, 0, none⟩ (.int .i64 t391)).setCell ⟨gb398, 1, none⟩ (.int .i64 t392)).setCell ⟨gb398, 2, none⟩ (.int .i64 t393)).setCell ⟨gb398, 3, none⟩ (.slice Ao12 t394.length co12)) g390 t388 t397) := ⟨B.st HI390⟩
  have n4_ : Aside0 (Below w.heap.size w ((((w8.setCell ⟨gb398, 0, none⟩ (.int .i64 t391)).setCell ⟨gb398, 1, none⟩ (.int .i64 t392)).setCell ⟨gb398, 2, none⟩ (.int .i64 t393)).setCell ⟨gb398, 3, none⟩ (.slice Ao12 t394.length co12))) := ⟨B.bs HB⟩
  (try clear HO396)
  (try clear BK387)
  (try clear BK398)
  (try clear HI390)
  (try clear HB)
  generalize ((((w8.setCell ⟨gb398, 0, none⟩ (.int .i64 t391)).setCell ⟨gb398, 1, none⟩ (.int .i64 t392)).setCell ⟨gb398, 2, none⟩ (.int .i64 t393)).setCell ⟨gb398, 3, none⟩ (.slice Ao12 t394.length co12)) = w13 at n0_ n1_ n2_ n3_ n4_ ⊢
  have HO396 := n0_
  have BK387 := n1_
  have BK398 := n2_
  have HI390 := n3_
  have HB := n4_
  clear n0_ n1_ n2_ n3_ n4_
  have n0_ := Aside0.mk (Kd.Q_drew HO396.out)
  have n1_ := Aside0.mk (blk_drew BK387.out)
  have n2_ := Aside0.mk (blk_drew BK398.out)
  have n3_ := Aside0.mk (IsS67.drew HI390.out)
  have n4_ := Aside0.mk (below_drew1 HB.out)
  clear HO396 BK387 BK398 HI390 HB
  have HO396 := n0_
  have BK387 := n1_
  have BK398 := n2_
  have HI390 := n3_
  have HB := n4_
  clear n0_ n1_ n2_ n3_ n4_
  refine start_ (n := 6) (S := fun w' => w'.cell? ⟨gb398, 0, none⟩ = some (.int .i64 t391) ∧ w'.cell? ⟨gb398, 1, none⟩ = some (.int .i64 t392) ∧ w'.cell? ⟨gb398, 2, none⟩ = some (.int .i64 t393) ∧ w'.cell? ⟨gb398, 3, none⟩ = some (.slice Ao12 t394.length co12)) (ds := []) #[false, false, false, false, false, false] (by kernel_rfl) rfl rfl ⟨B.bc BK398 0, B.bc BK398 1, B.bc BK398 2, B.bc BK398 3⟩ (fun hHeld => ?_)
  generalize w13.drew = w14 at HO396 BK387 BK398 HI390 HB hHeld ⊢
  refine pure_ (i := 1) (N := some 11) (v := ?_) (a' := ?_) #[false, true, false, false, false, false] rfl rfl (by kernel_rfl) (fun _ _ _ h => h) (Or.inl ⟨by rfl, ?_⟩) ?_ ?_
  rotate_left
  · intro w'
    go_simp
    with_reducible rfl
  rotate_left
  · simp only [Act.put, List.setIfInBounds_toArray, List.set_cons_zero, List.set_cons_succ, i64_w, i32_w]
    rfl
  refine take_ (i := 0) (N := some 10) (v := ?_) (a' := ?_) #[true, true, false, false, false, false] rfl rfl (by kernel_rfl) (fun _ _ _ h => h) (Or.inl ⟨by rfl, ?_⟩) hHeld ?_ ?_
  rotate_left
  · rintro w' ⟨s0, s1, s2, s3⟩
    go_simp
    with_reducible rfl
  rotate_left
  · simp only [Act.put, List.setIfInBounds_toArray, List.set_cons_zero, List.set_cons_succ, i64_w, i32_w]
    rfl
  refine one_ (i := 2) (N := some 12) #[true, true, true, false, false, false] rfl rfl (by kernel_rfl) (by decide) (fun K hK => ?_)
  refine Kd.R_lit_step (Kd.int .i64) _ 3 ?hg (N := 12) ?hd (xs := ([0, 1, 2, 3, 4, (-1)] : List Int)) (inner := [.int .i64 0, .int .i64 1, .int .i64 2, .int .i64 3, .int .i64 4, .int .i64 (-1)]) (ok := fun _ => True) (okp := fun _ => True) ?hr ?hp (fun _ hk => hk) trivial (Below.refl _ _) (Nat.le_refl _) (by simp) ?_; (case hd => rfl); (case hg => rfl); (case hr => first | (go_simp; done) | (go_simp; rfl)); (case hp => exact (Reps.one (show Kd.M (Kd.int .i64) _ _ _ 0 [.int .i64 0] from rfl) (Reps.one (show Kd.M (Kd.int .i64) _ _ _ 1 [.int .i64 1] from rfl) (Reps.one (show Kd.M (Kd.int .i64) _ _ _ 2 [.int .i64 2] from rfl) (Reps.one (show Kd.M (Kd.int .i64) _ _ _ 3 [.int .i64 3] from rfl) (Reps.one (show Kd.M (Kd.int .i64) _ _ _ 4 [.int .i64 4] from rfl) (Reps.one (show Kd.M (Kd.int .i64) _ _ _ (-1) [.int .i64 (-1)] from rfl) (Reps.none _ _))))))))
  intro v400 w15 ho16 hb hg_ hnew_
  clear hg_ hnew_
  (first | rw [← Ny399.out] at ho16 | (simp only [Int.reduceToNat] at ho16; rw [← Ny399.out] at ho16))
  have n0_ := Aside0.mk (Kd.Q_elder' (B.kq HO396) (Kd.R_base ho16) hb)
  have n1_ := Aside0.mk (Kd.R_lower (Kd.R_new' ho16 (Kd.Q_lt (B.kq HO396))) (below_size (B.bs HB)))
  have n2_ := Aside0.mk (blk_below (B.kb BK387) hb)
  have n3_ := Aside0.mk (IsS67.below (B.st HI390) hb)
  have n4_ := Aside0.mk (blk_below (B.kb BK398) hb)
  have n5_ := Aside0.mk (below_step (B.bs HB) hb)
  clear HO396 BK387 HI390 BK398 HB
  have HO396 := n0_
  have HO401 := n1_
  have BK387 := n2_
  have HI390 := n3_
  have BK398 := n4_
  have HB := n5_
  clear n0_ n1_ n2_ n3_ n4_ n5_
  clear hb ho16
  obtain ⟨Ao17, co17, eo17⟩ := Kd.R_slice HO401.out
  (first | subst eo17 | (injection eo17 with f1_ f2_ f3_; have f4_ := f1_.symm; have f5_ := f3_.symm; clear f1_ f2_ f3_; subst f4_; subst f5_))
  refine hK.out _ _ ⟨B.bc BK398 0, B.bc BK398 1, B.bc BK398 2, B.bc BK398 3⟩ (fun hHeld => ?_)
  clear hK K
  refine norm_ (a' := ?_) ?_ ?_
  rotate_left
  · show Act.put _ (some 12) _ = _
    simp only [Act.put, List.setIfInBounds_toArray, List.set_cons_zero, List.set_cons_succ, i64_w, i32_w]
    rfl
  refine one_ (i := 3) (N := some 13) #[true, true, true, true, false, false] rfl rfl (by kernel_rfl) (by decide) (fun K hK => ?_)
  refine goes_ Try.func52 (by kernel_rfl) rfl #[.pointer (some ⟨g390, 0, none⟩), .slice Ao17 y399.length co17] (by rfl) rfl rfl B.am ?_
  with_reducible refine (spec_reader_one.calls k g390 t388 t397 _ _ y399 t402 t403 w _ ?side1 ?side2 ?side3 ?side4 ?side5 A4.out).mono ?_
  (case side1 => exact B.st HI390)
  (case side2 => exact B.bs HB)
  (case side3 => exact B.kc ((Kd.R_reads' HO401.out).2.2))
  (case side4 => exact (Kd.R_reads' HO401.out).2.1)
  (case side5 => exact far_slice (IsS67.own_ne HI390.out HO401.out (by decide)))
  rintro e w18 ⟨rfl, hi, hb, hk⟩
  refine ⟨_, rfl, ?_⟩
  have n0_ := Aside0.mk (KeepBut.blk hk (g' := gb387) (o := .cells #[.int .i64 0, .int .i64 0, .int .i64 0, .slice none 0 0] 26 (0, 0)) (B.kb BK387) NB387_390.out (by simp))
  have n1_ := Aside0.mk (Kd.Q_mono (Kd.Q_keep (IsS67.apartQ (show IsS67 w _ g390 t388 t397 from B.st HI390) (B.kq HO396) (by decide)) hk (fun _ h => h.2)) (fun _ h => h.1))
  have n2_ := Aside0.mk (KeepBut.blk hk (g' := gb398) (o := .cells #[.int .i64 t391, .int .i64 t392, .int .i64 t393, .slice Ao12 t394.length co12] 26 (0, 0)) (B.kb BK398) NB398_390.out (by simp))
  have n3_ := Aside0.mk (Kd.R_mono (Kd.R_keep (IsS67.apart (show IsS67 w _ g390 t388 t397 from B.st HI390) (B.kr HO401) (by decide)) hk (fun _ h => h.2)) (fun _ h => h.1))
  have n4_ := Aside0.mk (hb)
  have n5_ := Aside0.mk (hi)
  clear BK387 HO396 BK398 HO401 HB HI390
  have BK387 := n0_
  have HO396 := n1_
  have BK398 := n2_
  have HO401 := n3_
  have HB := n4_
  have HI390 := n5_
  clear n0_ n1_ n2_ n3_ n4_ n5_
  (try clear hb)
  (try clear hb2)
  (try clear hk)
  (try clear hi)
  refine hK.out _ _ ⟨B.bc BK398 0, B.bc BK398 1, B.bc BK398 2, B.bc BK398 3⟩ (fun hHeld => ?_)
  clear hK K
  refine norm_ (a' := ?_) ?_ ?_
  rotate_left
  · show Act.put _ (some 13) _ = _
    simp only [Act.put, List.setIfInBounds_toArray, List.set_cons_zero, List.set_cons_succ, i64_w, i32_w]
    rfl
  refine one_ (i := 4) (N := none) #[true, true, true, true, true, false] rfl rfl (by kernel_rfl) (by decide) (fun K hK => ?_)
  have hs19 : w18.cell? ⟨gb387, 0, none⟩ = some (.int .i64 0) := B.bc BK387 0
  have hfs19 := blk_frozen BK387.out 0
  have hns19_1 := NB398_387.out
  have hms19_1 := NB387_398.out
  have hs20 : w18.cell? ⟨gb387, 1, none⟩ = some (.int .i64 0) := B.bc BK387 1
  have hfs20 := blk_frozen BK387.out 1
  have hns20_1 := NB398_387.out
  have hms20_1 := NB387_398.out
  have hs21 : w18.cell? ⟨gb387, 2, none⟩ = some (.int .i64 0) := B.bc BK387 2
  have hfs21 := blk_frozen BK387.out 2
  have hns21_1 := NB398_387.out
  have hms21_1 := NB387_398.out
  have hs22 : w18.cell? ⟨gb387, 3, none⟩ = some (.slice none 0 0) := B.bc BK387 3
  have hfs22 := blk_frozen BK387.out 3
  have hns22_1 := NB398_387.out
  have hms22_1 := NB387_398.out
  refine skip_ (w1 := ?_) (by rfl) rfl ?_ ?_
  rotate_left
  · go_simp
    rfl
  refine hK.out _ _ ⟨(B.cf4 NB398_387 hHeld.1), (B.cf4 NB398_387 hHeld.2.1), (B.cf4 NB398_387 hHeld.2.2.1), (B.cf4 NB398_387 hHeld.2.2.2)⟩ (fun hHeld => ?_)
  clear hK K
  refine pure_ (i := 5) (N := some 3) (v := ?_) (a' := ?_) #[true, true, true, true, true, true] rfl rfl (by kernel_rfl) (fun _ _ _ h => h) (Or.inl ⟨by rfl, ?_⟩) ?_ ?_
  rotate_left
  · intro w'
    go_simp
    with_reducible rfl
  rotate_left
  · simp only [Act.put, List.setIfInBounds_toArray, List.set_cons_zero, List.set_cons_succ, i64_w, i32_w]
    rfl
  refine done_ (by kernel_rfl) ?_
  try go_wp2
  refine bodyPost_ret (results_ct rfl _ _ gb387 26 #[.int .i64 t391, .int .i64 t392, .int .i64 t393, .slice Ao12 t394.length co12] (0, 0) _ rfl (B.kb0 (B.bp4 BK387)) Try.underlying26 rfl (by kernel_rfl)) rfl ?_
  exact ⟨_, by first | rfl | (simp [errW_none, errW_some] <;> rfl) | (simp [*, errW_none, errW_some] <;> rfl), by (with_reducible repeat (first | apply Kd.Q_alloc | apply Kd.Q_drewN | apply Kd.Q_drew)); exact Kd.Q_mono (Kd.Q_far (p := ⟨gb387, 3, none⟩) (Kd.Q_far (p := ⟨gb387, 2, none⟩) (Kd.Q_far (p := ⟨gb387, 1, none⟩) (Kd.Q_far (p := ⟨gb387, 0, none⟩) (Kd.Q_types HO396.out BK387.out (by decide)) (fun _ hk => hk.2) (.int .i64 t391)) (fun _ hk => hk.2) (.int .i64 t392)) (fun _ hk => hk.2) (.int .i64 t393)) (fun _ hk => hk.2) (.slice Ao12 t394.length co12)) (fun _ hk => trivial), B.bs HB⟩

end Go.Proofs.Ytibbkaoghbmncaa.Q
