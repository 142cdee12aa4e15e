-- Written by a program of this session (the kit's printer, with hand-proved contracts for the functions that it does not take).
import Derived.Test.YtibbkaoghbmncaaQ0
import Derived.Test.YtibbkaoghbmncaaQ1
import Derived.Test.YtibbkaoghbmncaaQ2
import Derived.Test.YtibbkaoghbmncaaQ3
import Derived.Test.YtibbkaoghbmncaaQ7
import Derived.Test.YtibbkaoghbmncaaQ9
import Derived.Test.YtibbkaoghbmncaaQ12
namespace Go.Proofs.Ytibbkaoghbmncaa.Q
open Go.RowKit Go.Proofs.YtibbkaoghbmncaaW.PrintWords Go.Proofs.YtibbkaoghbmncaaW.PrintLast Go.Proofs.YtibbkaoghbmncaaW.PrintMore
attribute [local go_sem] max2_int min2_int max_two min_two max_three min_three max_four min_four   -- for this text's walks alone
set_option linter.unusedVariables false
set_option linter.unusedSimpArgs false

/-! ### spec_anyPlace: function 61 -/
def spec_anyPlace.f (k : Nat) (s0_0 : List Int) (s0_1 : Int) : Option (Int × Int) := (spec_reader_one.f k s0_0 s0_1 (([0, 1, 2, 3, 5, 7, (-1), 15, 16] : List Int))).bind fun bt723 => (some (bt723.1, bt723.2))
theorem spec_anyPlace.mono : ∀ a0 a1 k, LeO (spec_anyPlace.f k a0 a1) (spec_anyPlace.f (k + 1) a0 a1) := by
  intro a0 a1 k
  unfold spec_anyPlace.f
  repeat' first
      | (with_reducible exact spec_reader_one.mono _ _ _ _)
      | (with_reducible exact LeO.refl _)
      | (with_reducible exact LeO.none _)
      | (with_reducible refine LeO.ite ?_ ?_)
      | (with_reducible refine LeO.bind ?_ (fun _ => ?_))
      | exact spec_reader_one.mono _ _ _ _
      | exact LeO.none _
      | refine LeO.ite ?_ ?_
      | refine LeO.bind ?_ (fun _ => ?_)
set_option maxHeartbeats 8000000 in
set_option maxRecDepth 100000 in
theorem spec_anyPlace.calls (k : Nat) (g : Nat) (s0_0 : List Int) (s0_1 : Int) (r1 : Int) (r2 : Int) (w0 w : World) (hI : IsS67 w0 w g s0_0 s0_1) (hB : Below w0.heap.size w0 w) (h : spec_anyPlace.f k s0_0 s0_1 = some (r1, r2)) :
    Calls Try.prog 61 #[.pointer (some ⟨g, 0, none⟩)] w fun e w' => e = .returned (.int .i64 r1) ∧ IsS67 w0 w' g s0_0 r2 ∧ Below w0.heap.size w0 w' ∧ KeepBut w w' g none := by
  have HI0 := Aside0.mk hI
  have HK := Aside0.mk (KeepBut.refl w g none)
  have HL := Aside0.mk hB.size
  clear hI
  have HW0 := Aside0.mk hB.size
  have HB := Aside0.mk hB
  clear hB
  have H : ((spec_reader_one.f k s0_0 s0_1 (([0, 1, 2, 3, 5, 7, (-1), 15, 16] : List Int))).bind fun bt723 => (some (bt723.1, bt723.2))) = some (r1, r2) := h
  clear h
  obtain ⟨y720, hy720⟩ : ∃ y_ : List Int, y_ = (([0, 1, 2, 3, 5, 7, (-1), 15, 16] : List Int)) := ⟨_, rfl⟩
  replace H : ((spec_reader_one.f k s0_0 s0_1 y720).bind fun bt723 => (some (bt723.1, bt723.2))) = some (r1, r2) := by first | (rw [hy720]; with_reducible exact H) | (have H2_ := (Option.bind_some _ _).symm.trans H; rw [hy720]; with_reducible exact H2_) | (have H2_ := (Option.bind_some _ _).symm.trans H; with_reducible exact H2_) | with_reducible exact H | (rw [hy720]; exact H) | exact H
  have Ny720 := Aside0.mk hy720
  clear hy720
  replace H := Option.bind_eq_some_iff.mp H
  obtain ⟨⟨t723, t724⟩, A20, H⟩ := H
  replace H : (some (t723, t724)) = some (r1, r2) := H
  have A2 := Aside0.mk A20
  clear A20
  simp only [Option.some.injEq, Prod.mk.injEq] at H
  obtain ⟨rfl, rfl⟩ := H
  go_enter Try.func61, Try.ntmps61
  go_wp2_with (first | ((with_reducible refine gate_dst (N := 4) rfl ?_); refine Kd.R_lit (Kd.int .i64) _ 3 ?hg (N := 4) ?hd (xs := ([0, 1, 2, 3, 5, 7, (-1), 15, 16] : List Int)) (inner := [.int .i64 0, .int .i64 1, .int .i64 2, .int .i64 3, .int .i64 5, .int .i64 7, .int .i64 (-1), .int .i64 15, .int .i64 16]) (ok := fun _ => True) (okp := fun _ => True) ?hr ?hp (fun _ hk => hk) trivial (Below.refl _ _) (Nat.le_refl _) (by simp) ?_; (case hd => rfl); (case hg => rfl); (case hr => first | (go_simp; done) | (go_simp; rfl)); (case hp => exact (Reps.one (show Kd.M (Kd.int .i64) _ _ _ 0 [.int .i64 0] from rfl) (Reps.one (show Kd.M (Kd.int .i64) _ _ _ 1 [.int .i64 1] from rfl) (Reps.one (show Kd.M (Kd.int .i64) _ _ _ 2 [.int .i64 2] from rfl) (Reps.one (show Kd.M (Kd.int .i64) _ _ _ 3 [.int .i64 3] from rfl) (Reps.one (show Kd.M (Kd.int .i64) _ _ _ 5 [.int .i64 5] from rfl) (Reps.one (show Kd.M (Kd.int .i64) _ _ _ 7 [.int .i64 7] from rfl) (Reps.one (show Kd.M (Kd.int .i64) _ _ _ (-1) [.int .i64 (-1)] from rfl) (Reps.one (show Kd.M (Kd.int .i64) _ _ _ 15 [.int .i64 15] from rfl) (Reps.one (show Kd.M (Kd.int .i64) _ _ _ 16 [.int .i64 16] from rfl) (Reps.none _ _))))))))))); intro v721 w3 ho4 hb hg_ hnew_; clear hg_ hnew_; (first | rw [← Ny720.out] at ho4 | (simp only [Int.reduceToNat] at ho4; rw [← Ny720.out] at ho4)); have n0_ := Aside0.mk (Kd.R_lower ho4 (keep_size (w := w) (g := g) (row := none) (B.kk HK))); have n1_ := Aside0.mk (IsS67.below (B.st HI0) hb); have n2_ := Aside0.mk (KeepBut.trans (B.kk HK) (KeepBut.of_below hb g none) (.inl rfl)); have n3_ := Aside0.mk (below_step (B.bs HB) hb); clear HI0 HK HB; have HO722 := n0_; have HI0 := n1_; have HK := n2_; have HB := n3_; clear n0_ n1_ n2_ n3_; clear hb ho4; obtain ⟨Ao5, co5, eo5⟩ := Kd.R_slice HO722.out; subst eo5) | ((with_reducible refine gate_callee (f := 52) rfl ?_); refine goesL_ (some 5) rfl rfl Try.func52 (by kernel_rfl) rfl #[.pointer (some ⟨g, 0, none⟩), .slice Ao5 y720.length co5] rfl B.am ?_; (with_reducible refine (spec_reader_one.calls k g s0_0 s0_1 _ _ y720 t723 t724 w0 _ ?side1 ?side2 ?side3 ?side4 ?side5 A2.out).mono ?_); (case side1 => exact B.st HI0); (case side2 => exact B.bs HB); (case side3 => exact B.kc ((Kd.R_reads' HO722.out).2.2)); (case side4 => exact (Kd.R_reads' HO722.out).2.1); (case side5 => exact far_slice (IsS67.own_ne HI0.out HO722.out (by decide))); rintro e w6 ⟨rfl, hi, hb, hk⟩; refine ⟨_, rfl, ?_⟩; have n0_ := Aside0.mk (Kd.R_mono (Kd.R_keep (IsS67.apart (show IsS67 w0 _ g s0_0 s0_1 from B.st HI0) (B.kr HO722) (by decide)) hk (fun _ h => h.2)) (fun _ h => h.1)); have n1_ := Aside0.mk (KeepBut.trans (B.kk HK) hk (.inl rfl)); have n2_ := Aside0.mk (hb); have n3_ := Aside0.mk (hi); clear HO722 HK HB HI0; have HO722 := n0_; have HK := n1_; have HB := n2_; have HI0 := n3_; clear n0_ n1_ n2_ n3_; (try clear hb); (try clear hb2); (try clear hk); (try clear hi)))
  go_ret
  exact ⟨by first | rfl | (simp [errW_none, errW_some] <;> rfl) | (simp [*, errW_none, errW_some] <;> rfl), B.st HI0, B.bs HB, B.kk HK⟩

/-! ### spec_DrawPixelAt: function 28 -/
def spec_DrawPixelAt.f (k : Nat) (l0 : List Int) : Option (Int × Int × Int × List Int × Int × Int) := (spec_newReader.f l0).bind fun bt726 => ((spec_anyImage.f k bt726.1 bt726.2).bind fun bt729 => ((spec_anyPlace.f k bt726.1 bt729.2.2.2.2).bind fun bt737 => ((spec_anyPlace.f k bt726.1 bt737.2).bind fun bt739 => (some (bt729.1, bt729.2.1, bt729.2.2.1, bt729.2.2.2.1, bt737.1, bt739.1)))))
theorem spec_DrawPixelAt.mono : ∀ a0 k, LeO (spec_DrawPixelAt.f k a0) (spec_DrawPixelAt.f (k + 1) a0) := by
  intro a0 k
  unfold spec_DrawPixelAt.f
  repeat' first
      | (with_reducible exact spec_anyImage.mono _ _ _)
      | (with_reducible exact spec_anyPlace.mono _ _ _)
      | (with_reducible exact LeO.refl _)
      | (with_reducible exact LeO.none _)
      | (with_reducible refine LeO.ite ?_ ?_)
      | (with_reducible refine LeO.bind ?_ (fun _ => ?_))
      | exact spec_anyImage.mono _ _ _
      | exact spec_anyPlace.mono _ _ _
      | exact LeO.none _
      | refine LeO.ite ?_ ?_
      | refine LeO.bind ?_ (fun _ => ?_)
set_option maxHeartbeats 8000000 in
set_option maxRecDepth 100000 in
theorem spec_DrawPixelAt.calls (k : Nat) (A0 : Option Addr) (c0 : Nat) (l0 : List Int) (r1 : Int) (r2 : Int) (r3 : Int) (r4 : List Int) (r5 : Int) (r6 : Int) (w : World) (hr0 : Kd.C (Kd.int .u8) w A0 l0.length l0) (hc0 : l0.length ≤ c0) (h : spec_DrawPixelAt.f k l0 = some (r1, r2, r3, r4, r5, r6)) :
    Calls Try.prog 28 #[.slice A0 l0.length c0] w fun e w' => ∃ v3_ : Value, e = .returned (.tuple #[.agg #[.int .i64 r1, .int .i64 r2, .int .i64 r3, v3_], .int .i64 r5, .int .i64 r6]) ∧ Kd.Q (Kd.int .i64) 3 w' w.heap.size (fun _ => True) v3_ r4 ∧ Below w.heap.size w w' := by
  have hu26 := Try.underlying26
  have HR0 := Aside0.mk hr0
  have HC0 := Aside0.mk hc0
  clear hr0 hc0
  have HB := Aside0.mk (Below.refl w.heap.size w)
  have H : ((spec_newReader.f l0).bind fun bt726 => ((spec_anyImage.f k bt726.1 bt726.2).bind fun bt729 => ((spec_anyPlace.f k bt726.1 bt729.2.2.2.2).bind fun bt737 => ((spec_anyPlace.f k bt726.1 bt737.2).bind fun bt739 => (some (bt729.1, bt729.2.1, bt729.2.2.1, bt729.2.2.2.1, bt737.1, bt739.1)))))) = some (r1, r2, r3, r4, r5, r6) := h
  clear h
  replace H := Option.bind_eq_some_iff.mp H
  obtain ⟨⟨t726, t727⟩, A20, H⟩ := H
  replace H : ((spec_anyImage.f k t726 t727).bind fun bt729 => ((spec_anyPlace.f k t726 bt729.2.2.2.2).bind fun bt737 => ((spec_anyPlace.f k t726 bt737.2).bind fun bt739 => (some (bt729.1, bt729.2.1, bt729.2.2.1, bt729.2.2.2.1, bt737.1, bt739.1))))) = some (r1, r2, r3, r4, r5, r6) := H
  have A2 := Aside0.mk A20
  clear A20
  replace H := Option.bind_eq_some_iff.mp H
  obtain ⟨⟨t729, t730, t731, t732, t735⟩, A30, H⟩ := H
  replace H : ((spec_anyPlace.f k t726 t735).bind fun bt737 => ((spec_anyPlace.f k t726 bt737.2).bind fun bt739 => (some (t729, t730, t731, t732, bt737.1, bt739.1)))) = some (r1, r2, r3, r4, r5, r6) := H
  have A3 := Aside0.mk A30
  clear A30
  replace H := Option.bind_eq_some_iff.mp H
  obtain ⟨⟨t737, t738⟩, A40, H⟩ := H
  replace H : ((spec_anyPlace.f k t726 t738).bind fun bt739 => (some (t729, t730, t731, t732, t737, bt739.1))) = some (r1, r2, r3, r4, r5, r6) := H
  have A4 := Aside0.mk A40
  clear A40
  replace H := Option.bind_eq_some_iff.mp H
  obtain ⟨⟨t739, t740⟩, A50, H⟩ := H
  replace H : (some (t729, t730, t731, t732, t737, t739)) = some (r1, r2, r3, r4, r5, r6) := H
  have A5 := Aside0.mk A50
  clear A50
  simp only [Option.some.injEq, Prod.mk.injEq] at H
  obtain ⟨rfl, rfl, rfl, rfl, rfl, rfl⟩ := H
  go_enter Try.func28, Try.ntmps28
  try go_wp2_with (first | ((with_reducible refine gate_dst (N := 2) rfl ?_); refine box_event ?hg (N := 2) ?hd (cs := #[.int .i64 0, .int .i64 0, .int .i64 0, .slice none 0 0]) (t := 26) ?hr ?_; (case hd => rfl); (case hg => rfl); (case hr => first | (go_simp; done) | (go_simp; rfl)); intro gb725 hg w6 hbox hb; have n0_ := Aside0.mk (below_step (B.bl HB) hb); have n1_ := Aside0.mk (hbox); have n2_ := Aside0.mk (B.nle hg (below_size (B.bl HB))); have n3_ := Aside0.mk (B.nle hg (below_size (B.bl HB))); clear HB; have HB := n0_; have BK725 := n1_; have GW725 := n2_; have GE725 := n3_; clear n0_ n1_ n2_ n3_; clear hb hbox hg) | ((with_reducible refine gate_callee (f := 48) rfl ?_); refine goesL_ (some 9) rfl rfl Try.func48 (by kernel_rfl) rfl #[.slice A0 l0.length c0] rfl B.am ?_; (with_reducible refine (spec_newReader.calls _ _ l0 t726 t727 w _ ?side1 ?side2 ?side3 A2.out).mono ?_); (case side1 => exact B.bl HB); (case side2 => exact HR0.out); (case side3 => exact HC0.out); rintro e w7 ⟨g728, rfl, hi, hb, hb2⟩; refine ⟨_, rfl, ?_⟩; have n0_ := Aside0.mk (blk_below (B.kb BK725) hb2); have n1_ := Aside0.mk (hb); have n2_ := Aside0.mk (hi); have n3_ := Aside0.mk (IsS67.ne_blk hi (blk_below (B.kb BK725) hb2) (by decide)); have n4_ := Aside0.mk (Ne.symm (IsS67.ne_blk hi (blk_below (B.kb BK725) hb2) (by decide))); clear BK725 HB; have BK725 := n0_; have HB := n1_; have HI728 := n2_; have NB728_725 := n3_; have NB725_728 := n4_; clear n0_ n1_ n2_ n3_ n4_; (try clear hb); (try clear hb2); (try clear hk); (try clear hi)) | ((with_reducible refine gate_callee (f := 47) rfl ?_); refine goesL_ (some 11) rfl rfl Try.func47 (by kernel_rfl) rfl #[.pointer (some ⟨g728, 0, none⟩)] rfl B.am ?_; (with_reducible refine (spec_anyImage.calls k g728 t726 t727 t729 t730 t731 t732 t735 w _ ?side1 ?side2 A3.out).mono ?_); (case side1 => exact B.st HI728); (case side2 => exact B.bs HB); rintro e w8 ⟨v733, rfl, ho0, hi, hb, hk⟩; refine ⟨_, rfl, ?_⟩; have n0_ := Aside0.mk (KeepBut.blk hk (g' := gb725) (o := .cells #[.int .i64 0, .int .i64 0, .int .i64 0, .slice none 0 0] 26 (0, 0)) (B.kb BK725) NB725_728.out (by simp)); have n1_ := Aside0.mk (Kd.Q_lower ho0 (below_size (B.bs HB))); have n2_ := Aside0.mk (hb); have n3_ := Aside0.mk (hi); clear BK725 HB HI728; have BK725 := n0_; have HO734 := n1_; have HB := n2_; have HI728 := n3_; clear n0_ n1_ n2_ n3_; (try clear hb); (try clear hb2); (try clear hk); (try clear hi); (try clear ho0)) | ((with_reducible refine gate_dst (N := 6) rfl ?_); refine box_event ?hg (N := 6) ?hd (cs := #[.int .i64 0, .int .i64 0, .int .i64 0, .slice none 0 0]) (t := 26) ?hr ?_; (case hd => rfl); (case hg => rfl); (case hr => first | (go_simp; done) | (go_simp; rfl)); intro gb736 hg w9 hbox hb; have n0_ := Aside0.mk (Kd.Q_below (B.kq HO734) hb); have n1_ := Aside0.mk (blk_below (B.kb BK725) hb); have n2_ := Aside0.mk (IsS67.below (B.st HI728) hb); have n3_ := Aside0.mk (below_step (B.bs HB) hb); have n4_ := Aside0.mk (hbox); have n5_ := Aside0.mk ((by rw [hg]; exact (below_size (B.bs HB)) : w.heap.size ≤ gb736)); have n6_ := Aside0.mk ((by rw [hg]; exact (below_size (B.bs HB)) : w.heap.size ≤ gb736)); have n7_ := Aside0.mk (B.nlt hg (blk_lt (B.kb BK725))); have n8_ := Aside0.mk (B.ngt hg (blk_lt (B.kb BK725))); have n9_ := Aside0.mk ((by rw [hg]; exact Nat.ne_of_lt (IsS67.lt (show IsS67 w _ g728 t726 t735 from B.st HI728)) : g728 ≠ gb736)); have n10_ := Aside0.mk ((by rw [hg]; exact Nat.ne_of_gt (IsS67.lt (show IsS67 w _ g728 t726 t735 from B.st HI728)) : gb736 ≠ g728)); clear HO734 BK725 HI728 HB; have HO734 := n0_; have BK725 := n1_; have HI728 := n2_; have HB := n3_; have BK736 := n4_; have GW736 := n5_; have GE736 := n6_; have NB725_736 := n7_; have NB736_725 := n8_; have NB728_736 := n9_; have NB736_728 := n10_; clear n0_ n1_ n2_ n3_ n4_ n5_ n6_ n7_ n8_ n9_ n10_; clear hb hbox hg; have hnb10 := NB736_725.out; have hnc10 := NB725_736.out; have hnb11 := NB736_728.out; have hnc11 := NB728_736.out; have hcz12_0 : w9.cell? ⟨gb736, 0, none⟩ = some (.int .i64 0) := B.bc BK736 0; have hcz12_1 : w9.cell? ⟨gb736, 1, none⟩ = some (.int .i64 0) := B.bc BK736 1; have hcz12_2 : w9.cell? ⟨gb736, 2, none⟩ = some (.int .i64 0) := B.bc BK736 2; have hcz12_3 : w9.cell? ⟨gb736, 3, none⟩ = some (.slice none 0 0) := B.bc BK736 3; have hfz12_0 := blk_frozen BK736.out 0; have hfz12_1 := blk_frozen BK736.out 1; have hfz12_2 := blk_frozen BK736.out 2; have hfz12_3 := blk_frozen BK736.out 3; obtain ⟨Ao13, co13, eo13, _⟩ := Kd.Q_slice HO734.out; subst eo13) | ((with_reducible refine gate_callee (f := 61) rfl ?_); refine goesL_ (some 13) rfl rfl Try.func61 (by kernel_rfl) rfl #[.pointer (some ⟨g728, 0, none⟩)] rfl B.am ?_; (with_reducible refine (spec_anyPlace.calls k g728 t726 t735 t737 t738 w _ ?side1 ?side2 A4.out).mono ?_); (case side1 => exact B.st HI728); (case side2 => exact B.bs HB); rintro e w14 ⟨rfl, hi, hb, hk⟩; refine ⟨_, rfl, ?_⟩; have n0_ := Aside0.mk (KeepBut.blk hk (g' := gb725) (o := .cells #[.int .i64 0, .int .i64 0, .int .i64 0, .slice none 0 0] 26 (0, 0)) (B.kb0 (B.bf4 BK725 NB725_736)) NB725_728.out (by simp)); have n1_ := Aside0.mk (Kd.Q_mono (Kd.Q_keep (IsS67.apartQ (show IsS67 w _ g728 t726 t735 from B.st HI728) (by (with_reducible repeat (first | apply Kd.Q_alloc | apply Kd.Q_drewN | apply Kd.Q_drew)); exact (Kd.Q_mono (Kd.Q_far (p := ⟨gb736, 3, none⟩) (Kd.Q_far (p := ⟨gb736, 2, none⟩) (Kd.Q_far (p := ⟨gb736, 1, none⟩) (Kd.Q_far (p := ⟨gb736, 0, none⟩) (Kd.Q_types HO734.out BK736.out (by decide)) (fun _ hk => hk.2) (.int .i64 t729)) (fun _ hk => hk.2) (.int .i64 t730)) (fun _ hk => hk.2) (.int .i64 t731)) (fun _ hk => hk.2) (.slice Ao13 t732.length co13)) (fun _ h_ => h_.1))) (by decide)) hk (fun _ h => h.2)) (fun _ h => h.1)); have n2_ := Aside0.mk (KeepBut.blk hk (g' := gb736) (o := .cells #[.int .i64 t729, .int .i64 t730, .int .i64 t731, .slice Ao13 t732.length co13] 26 (0, 0)) (B.kb0 (B.bp4 BK736)) NB736_728.out (by simp)); have n3_ := Aside0.mk (hb); have n4_ := Aside0.mk (hi); clear BK725 HO734 BK736 HB HI728; have BK725 := n0_; have HO734 := n1_; have BK736 := n2_; have HB := n3_; have HI728 := n4_; clear n0_ n1_ n2_ n3_ n4_; (try clear hb); (try clear hb2); (try clear hk); (try clear hi)))
  have n0_ := Aside0.mk (Kd.Q_drew HO734.out)
  have n1_ := Aside0.mk (blk_drew BK725.out)
  have n2_ := Aside0.mk (blk_drew BK736.out)
  have n3_ := Aside0.mk (IsS67.drew HI728.out)
  have n4_ := Aside0.mk (below_drew1 HB.out)
  clear HO734 BK725 BK736 HI728 HB
  have HO734 := n0_
  have BK725 := n1_
  have BK736 := n2_
  have HI728 := n3_
  have HB := n4_
  clear n0_ n1_ n2_ n3_ n4_
  refine start_ (n := 7) (S := fun w' => w'.cell? ⟨gb736, 0, none⟩ = some (.int .i64 t729) ∧ w'.cell? ⟨gb736, 1, none⟩ = some (.int .i64 t730) ∧ w'.cell? ⟨gb736, 2, none⟩ = some (.int .i64 t731) ∧ w'.cell? ⟨gb736, 3, none⟩ = some (.slice Ao13 t732.length co13)) (ds := []) #[false, false, false, false, false, false, false] (by kernel_rfl) rfl rfl ⟨B.bc BK736 0, B.bc BK736 1, B.bc BK736 2, B.bc BK736 3⟩ (fun hHeld => ?_)
  generalize w14.drew = w15 at HO734 BK725 BK736 HI728 HB hHeld ⊢
  refine pure_ (i := 1) (N := some 15) (v := ?_) (a' := ?_) #[false, true, false, false, false, false, false] rfl rfl (by kernel_rfl) (fun _ _ _ h => h) (Or.inl ⟨by rfl, ?_⟩) ?_ ?_
  rotate_left
  · intro w'
    go_simp
    with_reducible rfl
  rotate_left
  · simp only [Act.put, List.setIfInBounds_toArray, List.set_cons_zero, List.set_cons_succ, i64_w, i32_w]
    rfl
  refine pure_ (i := 2) (N := some 16) (v := ?_) (a' := ?_) #[false, true, true, false, false, false, false] rfl rfl (by kernel_rfl) (fun _ _ _ h => h) (Or.inl ⟨by rfl, ?_⟩) ?_ ?_
  rotate_left
  · intro w'
    go_simp
    with_reducible rfl
  rotate_left
  · simp only [Act.put, List.setIfInBounds_toArray, List.set_cons_zero, List.set_cons_succ, i64_w, i32_w]
    rfl
  refine take_ (i := 0) (N := some 14) (v := ?_) (a' := ?_) #[true, true, true, false, false, false, false] rfl rfl (by kernel_rfl) (fun _ _ _ h => h) (Or.inl ⟨by rfl, ?_⟩) hHeld ?_ ?_
  rotate_left
  · rintro w' ⟨s0, s1, s2, s3⟩
    go_simp
    with_reducible rfl
  rotate_left
  · simp only [Act.put, List.setIfInBounds_toArray, List.set_cons_zero, List.set_cons_succ, i64_w, i32_w]
    rfl
  refine one_ (i := 3) (N := some 17) #[true, true, true, true, false, false, false] rfl rfl (by kernel_rfl) (by decide) (fun K hK => ?_)
  refine goes_ Try.func61 (by kernel_rfl) rfl #[.pointer (some ⟨g728, 0, none⟩)] (by rfl) rfl rfl B.am ?_
  with_reducible refine (spec_anyPlace.calls k g728 t726 t738 t739 t740 w _ ?side1 ?side2 A5.out).mono ?_
  (case side1 => exact B.st HI728)
  (case side2 => exact B.bs HB)
  rintro e w16 ⟨rfl, hi, hb, hk⟩
  refine ⟨_, rfl, ?_⟩
  have n0_ := Aside0.mk (KeepBut.blk hk (g' := gb725) (o := .cells #[.int .i64 0, .int .i64 0, .int .i64 0, .slice none 0 0] 26 (0, 0)) (B.kb BK725) NB725_728.out (by simp))
  have n1_ := Aside0.mk (Kd.Q_mono (Kd.Q_keep (IsS67.apartQ (show IsS67 w _ g728 t726 t738 from B.st HI728) (B.kq HO734) (by decide)) hk (fun _ h => h.2)) (fun _ h => h.1))
  have n2_ := Aside0.mk (KeepBut.blk hk (g' := gb736) (o := .cells #[.int .i64 t729, .int .i64 t730, .int .i64 t731, .slice Ao13 t732.length co13] 26 (0, 0)) (B.kb BK736) NB736_728.out (by simp))
  have n3_ := Aside0.mk (hb)
  have n4_ := Aside0.mk (hi)
  clear BK725 HO734 BK736 HB HI728
  have BK725 := n0_
  have HO734 := n1_
  have BK736 := n2_
  have HB := n3_
  have HI728 := n4_
  clear n0_ n1_ n2_ n3_ n4_
  (try clear hb)
  (try clear hb2)
  (try clear hk)
  (try clear hi)
  refine hK.out _ _ ⟨B.bc BK736 0, B.bc BK736 1, B.bc BK736 2, B.bc BK736 3⟩ (fun hHeld => ?_)
  clear hK K
  refine norm_ (a' := ?_) ?_ ?_
  rotate_left
  · show Act.put _ (some 17) _ = _
    simp only [Act.put, List.setIfInBounds_toArray, List.set_cons_zero, List.set_cons_succ, i64_w, i32_w]
    rfl
  refine one_ (i := 4) (N := none) #[true, true, true, true, true, false, false] rfl rfl (by kernel_rfl) (by decide) (fun K hK => ?_)
  have hs17 : w16.cell? ⟨gb725, 0, none⟩ = some (.int .i64 0) := B.bc BK725 0
  have hfs17 := blk_frozen BK725.out 0
  have hns17_1 := NB736_725.out
  have hms17_1 := NB725_736.out
  have hs18 : w16.cell? ⟨gb725, 1, none⟩ = some (.int .i64 0) := B.bc BK725 1
  have hfs18 := blk_frozen BK725.out 1
  have hns18_1 := NB736_725.out
  have hms18_1 := NB725_736.out
  have hs19 : w16.cell? ⟨gb725, 2, none⟩ = some (.int .i64 0) := B.bc BK725 2
  have hfs19 := blk_frozen BK725.out 2
  have hns19_1 := NB736_725.out
  have hms19_1 := NB725_736.out
  have hs20 : w16.cell? ⟨gb725, 3, none⟩ = some (.slice none 0 0) := B.bc BK725 3
  have hfs20 := blk_frozen BK725.out 3
  have hns20_1 := NB736_725.out
  have hms20_1 := NB725_736.out
  refine skip_ (w1 := ?_) (by rfl) rfl ?_ ?_
  rotate_left
  · go_simp
    rfl
  refine hK.out _ _ ⟨(B.cf4 NB736_725 hHeld.1), (B.cf4 NB736_725 hHeld.2.1), (B.cf4 NB736_725 hHeld.2.2.1), (B.cf4 NB736_725 hHeld.2.2.2)⟩ (fun hHeld => ?_)
  clear hK K
  refine pure_ (i := 5) (N := some 3) (v := ?_) (a' := ?_) #[true, true, true, true, true, true, false] rfl rfl (by kernel_rfl) (fun _ _ _ h => h) (Or.inl ⟨by rfl, ?_⟩) ?_ ?_
  rotate_left
  · intro w'
    go_simp
    with_reducible rfl
  rotate_left
  · simp only [Act.put, List.setIfInBounds_toArray, List.set_cons_zero, List.set_cons_succ, i64_w, i32_w]
    rfl
  refine pure_ (i := 6) (N := some 4) (v := ?_) (a' := ?_) #[true, true, true, true, true, true, true] rfl rfl (by kernel_rfl) (fun _ _ _ h => h) (Or.inl ⟨by rfl, ?_⟩) ?_ ?_
  rotate_left
  · intro w'
    go_simp
    with_reducible rfl
  rotate_left
  · simp only [Act.put, List.setIfInBounds_toArray, List.set_cons_zero, List.set_cons_succ, i64_w, i32_w]
    rfl
  refine done_ (by kernel_rfl) ?_
  try go_wp2
  refine bodyPost_ret (results_ctt rfl _ _ gb725 26 #[.int .i64 t729, .int .i64 t730, .int .i64 t731, .slice Ao13 t732.length co13] (0, 0) _ rfl (B.kb0 (B.bp4 BK725)) Try.underlying26 rfl (by kernel_rfl)) rfl ?_
  exact ⟨_, by first | rfl | (simp [errW_none, errW_some] <;> rfl) | (simp [*, errW_none, errW_some] <;> rfl), by (with_reducible repeat (first | apply Kd.Q_alloc | apply Kd.Q_drewN | apply Kd.Q_drew)); exact Kd.Q_mono (Kd.Q_far (p := ⟨gb725, 3, none⟩) (Kd.Q_far (p := ⟨gb725, 2, none⟩) (Kd.Q_far (p := ⟨gb725, 1, none⟩) (Kd.Q_far (p := ⟨gb725, 0, none⟩) (Kd.Q_types HO734.out BK725.out (by decide)) (fun _ hk => hk.2) (.int .i64 t729)) (fun _ hk => hk.2) (.int .i64 t730)) (fun _ hk => hk.2) (.int .i64 t731)) (fun _ hk => hk.2) (.slice Ao13 t732.length co13)) (fun _ hk => trivial), B.bs HB⟩

/-! ### spec_onImage: function 62 -/
def spec_onImage.f (a0_0 : Int) (a0_1 : Int) (a0_2 : Int) (l0_3 : List Int) (a1 : Int) (a2 : Int) : Option (Bool) := (spec_inRange.f a1 0 (wrap64 (a0_0 - 1))).bind fun t742 => (if t742 = true then ((spec_inRange.f a2 0 (wrap64 (a0_1 - 1))).bind fun t743 => (some t743)) else (some false))
set_option maxHeartbeats 8000000 in
set_option maxRecDepth 100000 in
theorem spec_onImage.calls (a0_0 : Int) (a0_1 : Int) (a0_2 : Int) (A0_3 : Option Addr) (c0_3 : Nat) (l0_3 : List Int) (a1 : Int) (a2 : Int) (r : Bool) (w : World) (hr0_3 : Kd.C (Kd.int .i64) w A0_3 l0_3.length l0_3) (hc0_3 : l0_3.length ≤ c0_3) (h : spec_onImage.f a0_0 a0_1 a0_2 l0_3 a1 a2 = some r) :
    Calls Try.prog 62 #[.agg #[.int .i64 a0_0, .int .i64 a0_1, .int .i64 a0_2, .slice A0_3 l0_3.length c0_3], .int .i64 a1, .int .i64 a2] w fun e w' => e = .returned (.bool r) ∧ Below w.heap.size w w' := by
  have hu26 := Try.underlying26
  have HR0_3 := Aside0.mk hr0_3
  have HC0_3 := Aside0.mk hc0_3
  clear hr0_3 hc0_3
  have HB := Aside0.mk (Below.refl w.heap.size w)
  have H : ((spec_inRange.f a1 0 (wrap64 (a0_0 - 1))).bind fun t742 => (if t742 = true then ((spec_inRange.f a2 0 (wrap64 (a0_1 - 1))).bind fun t743 => (some t743)) else (some false))) = some r := h
  clear h
  replace H := Option.bind_eq_some_iff.mp H
  obtain ⟨t742, A40, H⟩ := H
  replace H : (if t742 = true then ((spec_inRange.f a2 0 (wrap64 (a0_1 - 1))).bind fun t743 => (some t743)) else (some false)) = some r := H
  have A4 := Aside0.mk A40
  clear A40
  by_cases c5 : t742 = true
  · subst c5
    have H1 : ((spec_inRange.f a2 0 (wrap64 (a0_1 - 1))).bind fun t743 => (some t743)) = some r := by rw [if_pos rfl] at H; exact H
    clear H
    have H := H1
    clear H1
    replace H := Option.bind_eq_some_iff.mp H
    obtain ⟨t743, A60, H⟩ := H
    replace H : (some t743) = some r := H
    have A6 := Aside0.mk A60
    clear A60
    obtain rfl := Option.some.inj H
    simp only [Option.some.injEq, Prod.mk.injEq] at H
    obtain ⟨rfl⟩ := H
    go_enter Try.func62, Try.ntmps62
    go_wp2_with (first | ((with_reducible refine gate_dst (N := 3) rfl ?_); refine box_event ?hg (N := 3) ?hd (cs := #[.int .i64 a0_0, .int .i64 a0_1, .int .i64 a0_2, .slice A0_3 l0_3.length c0_3]) (t := 26) ?hr ?_; (case hd => rfl); (case hg => rfl); (case hr => first | (go_simp; done) | (go_simp; rfl)); intro gb741 hg w7 hbox hb; have n0_ := Aside0.mk (below_step (B.bl HB) hb); have n1_ := Aside0.mk (hbox); have n2_ := Aside0.mk (B.nle hg (below_size (B.bl HB))); have n3_ := Aside0.mk (B.nle hg (below_size (B.bl HB))); clear HB; have HB := n0_; have BK741 := n1_; have GW741 := n2_; have GE741 := n3_; clear n0_ n1_ n2_ n3_; clear hb hbox hg; have hcz8_0 : w7.cell? ⟨gb741, 0, none⟩ = some (.int .i64 a0_0) := B.bc BK741 0; have hcz8_1 : w7.cell? ⟨gb741, 1, none⟩ = some (.int .i64 a0_1) := B.bc BK741 1; have hcz8_2 : w7.cell? ⟨gb741, 2, none⟩ = some (.int .i64 a0_2) := B.bc BK741 2; have hcz8_3 : w7.cell? ⟨gb741, 3, none⟩ = some (.slice A0_3 l0_3.length c0_3) := B.bc BK741 3; have hfz8_0 := blk_frozen BK741.out 0; have hfz8_1 := blk_frozen BK741.out 1; have hfz8_2 := blk_frozen BK741.out 2; have hfz8_3 := blk_frozen BK741.out 3) | ((with_reducible refine gate_callee (f := 53) rfl ?_); refine goesL_ (some 11) rfl rfl Try.func53 (by kernel_rfl) rfl #[.int .i64 a1, .int .i64 0, .int .i64 (wrap64 (a0_0 - 1))] rfl B.am ?_; (with_reducible refine (spec_inRange.calls a1 0 (wrap64 (a0_0 - 1)) true _ A4.out).mono ?_); rintro e w' ⟨rfl, ⟨nd, rfl⟩⟩; refine ⟨_, rfl, ?_⟩) | (go_at_call 53; (with_reducible refine (spec_inRange.calls a2 0 (wrap64 (a0_1 - 1)) t743 _ A6.out).mono ?_); rintro e w' ⟨rfl, ⟨nd, rfl⟩⟩))
    go_ret
    exact ⟨by first | rfl | (simp [errW_none, errW_some] <;> rfl) | (simp [*, errW_none, errW_some] <;> rfl), B.bl HB⟩
  replace c5 := Bool.eq_false_iff.mpr c5
  subst c5
  have H1 : (some false) = some r := by rw [if_neg (show ¬ (false = true) by decide)] at H; exact H
  clear H
  have H := H1
  clear H1
  obtain rfl := Option.some.inj H
  simp only [Option.some.injEq, Prod.mk.injEq] at H
  obtain ⟨rfl⟩ := H
  go_enter Try.func62, Try.ntmps62
  go_wp2_with (first | ((with_reducible refine gate_dst (N := 3) rfl ?_); refine box_event ?hg (N := 3) ?hd (cs := #[.int .i64 a0_0, .int .i64 a0_1, .int .i64 a0_2, .slice A0_3 l0_3.length c0_3]) (t := 26) ?hr ?_; (case hd => rfl); (case hg => rfl); (case hr => first | (go_simp; done) | (go_simp; rfl)); intro gb741 hg w9 hbox hb; have n0_ := Aside0.mk (below_step (B.bl HB) hb); have n1_ := Aside0.mk (hbox); have n2_ := Aside0.mk (B.nle hg (below_size (B.bl HB))); have n3_ := Aside0.mk (B.nle hg (below_size (B.bl HB))); clear HB; have HB := n0_; have BK741 := n1_; have GW741 := n2_; have GE741 := n3_; clear n0_ n1_ n2_ n3_; clear hb hbox hg; have hcz10_0 : w9.cell? ⟨gb741, 0, none⟩ = some (.int .i64 a0_0) := B.bc BK741 0; have hcz10_1 : w9.cell? ⟨gb741, 1, none⟩ = some (.int .i64 a0_1) := B.bc BK741 1; have hcz10_2 : w9.cell? ⟨gb741, 2, none⟩ = some (.int .i64 a0_2) := B.bc BK741 2; have hcz10_3 : w9.cell? ⟨gb741, 3, none⟩ = some (.slice A0_3 l0_3.length c0_3) := B.bc BK741 3; have hfz10_0 := blk_frozen BK741.out 0; have hfz10_1 := blk_frozen BK741.out 1; have hfz10_2 := blk_frozen BK741.out 2; have hfz10_3 := blk_frozen BK741.out 3) | ((with_reducible refine gate_callee (f := 53) rfl ?_); refine goesL_ (some 11) rfl rfl Try.func53 (by kernel_rfl) rfl #[.int .i64 a1, .int .i64 0, .int .i64 (wrap64 (a0_0 - 1))] rfl B.am ?_; (with_reducible refine (spec_inRange.calls a1 0 (wrap64 (a0_0 - 1)) false _ A4.out).mono ?_); rintro e w' ⟨rfl, ⟨nd, rfl⟩⟩; refine ⟨_, rfl, ?_⟩))
  go_ret
  exact ⟨by first | rfl | (simp [errW_none, errW_some] <;> rfl) | (simp [*, errW_none, errW_some] <;> rfl), B.bl HB⟩

/-! ### spec_PixelAt: function 31 -/
def spec_PixelAt.f (k : Nat) (a0_0 : Int) (a0_1 : Int) (a0_2 : Int) (l0_3 : List Int) (a1 : Int) (a2 : Int) : Option (List Int) := (spec_validImage.f k a0_0 a0_1 a0_2 l0_3).bind fun t745 => (if t745 = true then ((spec_onImage.f a0_0 a0_1 a0_2 l0_3 a1 a2).bind fun t746 => (if t746 = true then ((spec_pixelAt.f a0_0 a0_1 a0_2 l0_3 a1 a2).bind fun t747 => (some t747)) else (some ([] : List Int)))) else (some ([] : List Int)))
theorem spec_PixelAt.mono : ∀ a0 a1 a2 a3 a4 a5 k, LeO (spec_PixelAt.f k a0 a1 a2 a3 a4 a5) (spec_PixelAt.f (k + 1) a0 a1 a2 a3 a4 a5) := by
  intro a0 a1 a2 a3 a4 a5 k
  unfold spec_PixelAt.f
  repeat' first
      | (with_reducible exact spec_validImage.mono _ _ _ _ _)
      | (with_reducible exact LeO.refl _)
      | (with_reducible exact LeO.none _)
      | (with_reducible refine LeO.ite ?_ ?_)
      | (with_reducible refine LeO.bind ?_ (fun _ => ?_))
      | exact spec_validImage.mono _ _ _ _ _
      | exact LeO.none _
      | refine LeO.ite ?_ ?_
      | refine LeO.bind ?_ (fun _ => ?_)
set_option maxHeartbeats 8000000 in
set_option maxRecDepth 100000 in
theorem spec_PixelAt.calls (k : Nat) (a0_0 : Int) (a0_1 : Int) (a0_2 : Int) (A0_3 : Option Addr) (c0_3 : Nat) (l0_3 : List Int) (a1 : Int) (a2 : Int) (r : List Int) (w : World) (hr0_3 : Kd.C (Kd.int .i64) w A0_3 l0_3.length l0_3) (hc0_3 : l0_3.length ≤ c0_3) (h : spec_PixelAt.f k a0_0 a0_1 a0_2 l0_3 a1 a2 = some r) :
    Calls Try.prog 31 #[.agg #[.int .i64 a0_0, .int .i64 a0_1, .int .i64 a0_2, .slice A0_3 l0_3.length c0_3], .int .i64 a1, .int .i64 a2] w fun e w' => ∃ v0_ : Value, e = .returned (v0_) ∧ Kd.R (Kd.int .i64) 3 w' w.heap.size (fun _ => True) v0_ r ∧ Below w.heap.size w w' := by
  have hu26 := Try.underlying26
  have HR0_3 := Aside0.mk hr0_3
  have HC0_3 := Aside0.mk hc0_3
  clear hr0_3 hc0_3
  have HB := Aside0.mk (Below.refl w.heap.size w)
  have H : ((spec_validImage.f k a0_0 a0_1 a0_2 l0_3).bind fun t745 => (if t745 = true then ((spec_onImage.f a0_0 a0_1 a0_2 l0_3 a1 a2).bind fun t746 => (if t746 = true then ((spec_pixelAt.f a0_0 a0_1 a0_2 l0_3 a1 a2).bind fun t747 => (some t747)) else (some ([] : List Int)))) else (some ([] : List Int)))) = some r := h
  clear h
  replace H := Option.bind_eq_some_iff.mp H
  obtain ⟨t745, A40, H⟩ := H
  replace H : (if t745 = true then ((spec_onImage.f a0_0 a0_1 a0_2 l0_3 a1 a2).bind fun t746 => (if t746 = true then ((spec_pixelAt.f a0_0 a0_1 a0_2 l0_3 a1 a2).bind fun t747 => (some t747)) else (some ([] : List Int)))) else (some ([] : List Int))) = some r := H
  have A4 := Aside0.mk A40
  clear A40
  by_cases c5 : t745 = true
  · subst c5
    have H1 : ((spec_onImage.f a0_0 a0_1 a0_2 l0_3 a1 a2).bind fun t746 => (if t746 = true then ((spec_pixelAt.f a0_0 a0_1 a0_2 l0_3 a1 a2).bind fun t747 => (some t747)) else (some ([] : List Int)))) = some r := by rw [if_pos rfl] at H; exact H
    clear H
    have H := H1
    clear H1
    replace H := Option.bind_eq_some_iff.mp H
    obtain ⟨t746, A60, H⟩ := H
    replace H : (if t746 = true then ((spec_pixelAt.f a0_0 a0_1 a0_2 l0_3 a1 a2).bind fun t747 => (some t747)) else (some ([] : List Int))) = some r := H
    have A6 := Aside0.mk A60
    clear A60
    by_cases c7 : t746 = true
    · subst c7
      have H1 : ((spec_pixelAt.f a0_0 a0_1 a0_2 l0_3 a1 a2).bind fun t747 => (some t747)) = some r := by rw [if_pos rfl] at H; exact H
      clear H
      have H := H1
      clear H1
      replace H := Option.bind_eq_some_iff.mp H
      obtain ⟨t747, A80, H⟩ := H
      replace H : (some t747) = some r := H
      have A8 := Aside0.mk A80
      clear A80
      obtain rfl := Option.some.inj H
      simp only [Option.some.injEq, Prod.mk.injEq] at H
      obtain ⟨rfl⟩ := H
      go_enter Try.func31, Try.ntmps31
      go_wp2_with (first | ((with_reducible refine gate_dst (N := 3) rfl ?_); refine box_event ?hg (N := 3) ?hd (cs := #[.int .i64 a0_0, .int .i64 a0_1, .int .i64 a0_2, .slice A0_3 l0_3.length c0_3]) (t := 26) ?hr ?_; (case hd => rfl); (case hg => rfl); (case hr => first | (go_simp; done) | (go_simp; rfl)); intro gb744 hg w9 hbox hb; have n0_ := Aside0.mk (below_step (B.bl HB) hb); have n1_ := Aside0.mk (hbox); have n2_ := Aside0.mk (B.nle hg (below_size (B.bl HB))); have n3_ := Aside0.mk (B.nle hg (below_size (B.bl HB))); clear HB; have HB := n0_; have BK744 := n1_; have GW744 := n2_; have GE744 := n3_; clear n0_ n1_ n2_ n3_; clear hb hbox hg; have hcz10_0 : w9.cell? ⟨gb744, 0, none⟩ = some (.int .i64 a0_0) := B.bc BK744 0; have hcz10_1 : w9.cell? ⟨gb744, 1, none⟩ = some (.int .i64 a0_1) := B.bc BK744 1; have hcz10_2 : w9.cell? ⟨gb744, 2, none⟩ = some (.int .i64 a0_2) := B.bc BK744 2; have hcz10_3 : w9.cell? ⟨gb744, 3, none⟩ = some (.slice A0_3 l0_3.length c0_3) := B.bc BK744 3; have hfz10_0 := blk_frozen BK744.out 0; have hfz10_1 := blk_frozen BK744.out 1; have hfz10_2 := blk_frozen BK744.out 2; have hfz10_3 := blk_frozen BK744.out 3) | ((with_reducible refine gate_callee (f := 35) rfl ?_); refine goesL_ (some 8) rfl rfl Try.func35 (by kernel_rfl) rfl #[.agg #[.int .i64 a0_0, .int .i64 a0_1, .int .i64 a0_2, .slice A0_3 l0_3.length c0_3]] rfl B.am ?_; (with_reducible refine (spec_validImage.calls k a0_0 a0_1 a0_2 _ _ l0_3 true _ ?side1 ?side2 A4.out).mono ?_); (case side1 => exact B.kc (Kd.C_below HR0_3.out HB.out)); (case side2 => exact HC0_3.out); rintro e w11 ⟨rfl, hb⟩; refine ⟨_, rfl, ?_⟩; have n0_ := Aside0.mk (blk_below (B.kb BK744) hb); have n1_ := Aside0.mk (below_step (B.bl HB) hb); clear BK744 HB; have BK744 := n0_; have HB := n1_; clear n0_ n1_; (try clear hb); (try clear hb2); (try clear hk); (try clear hi); have hcz12_0 : w11.cell? ⟨gb744, 0, none⟩ = some (.int .i64 a0_0) := B.bc BK744 0; have hcz12_1 : w11.cell? ⟨gb744, 1, none⟩ = some (.int .i64 a0_1) := B.bc BK744 1; have hcz12_2 : w11.cell? ⟨gb744, 2, none⟩ = some (.int .i64 a0_2) := B.bc BK744 2; have hcz12_3 : w11.cell? ⟨gb744, 3, none⟩ = some (.slice A0_3 l0_3.length c0_3) := B.bc BK744 3; have hfz12_0 := blk_frozen BK744.out 0; have hfz12_1 := blk_frozen BK744.out 1; have hfz12_2 := blk_frozen BK744.out 2; have hfz12_3 := blk_frozen BK744.out 3) | (go_at_call 62; (with_reducible refine (spec_onImage.calls a0_0 a0_1 a0_2 _ _ l0_3 a1 a2 true _ ?side1 ?side2 A6.out).mono ?_); (case side1 => exact B.kc (Kd.C_below HR0_3.out HB.out)); (case side2 => exact HC0_3.out); rintro e w13 ⟨rfl, hb⟩; have n0_ := Aside0.mk (blk_below (B.kb BK744) hb); have n1_ := Aside0.mk (below_step (B.bl HB) hb); clear BK744 HB; have BK744 := n0_; have HB := n1_; clear n0_ n1_; (try clear hb); (try clear hb2); (try clear hk); (try clear hi); have hcz14_0 : w13.cell? ⟨gb744, 0, none⟩ = some (.int .i64 a0_0) := B.bc BK744 0; have hcz14_1 : w13.cell? ⟨gb744, 1, none⟩ = some (.int .i64 a0_1) := B.bc BK744 1; have hcz14_2 : w13.cell? ⟨gb744, 2, none⟩ = some (.int .i64 a0_2) := B.bc BK744 2; have hcz14_3 : w13.cell? ⟨gb744, 3, none⟩ = some (.slice A0_3 l0_3.length c0_3) := B.bc BK744 3; have hfz14_0 := blk_frozen BK744.out 0; have hfz14_1 := blk_frozen BK744.out 1; have hfz14_2 := blk_frozen BK744.out 2; have hfz14_3 := blk_frozen BK744.out 3) | ((with_reducible refine gate_callee (f := 38) rfl ?_); refine goesL_ (some 20) rfl rfl Try.func38 (by kernel_rfl) rfl #[.agg #[.int .i64 a0_0, .int .i64 a0_1, .int .i64 a0_2, .slice A0_3 l0_3.length c0_3], .int .i64 a1, .int .i64 a2] rfl B.am ?_; (with_reducible refine (spec_pixelAt.calls a0_0 a0_1 a0_2 _ _ l0_3 a1 a2 t747 _ ?side1 ?side2 A8.out).mono ?_); (case side1 => exact B.kc (Kd.C_below HR0_3.out HB.out)); (case side2 => exact HC0_3.out); rintro e w15 ⟨v748, rfl, ho0, hb⟩; refine ⟨_, rfl, ?_⟩; have n0_ := Aside0.mk (Kd.R_lower ho0 (below_size (B.bl HB))); have n1_ := Aside0.mk (blk_below (B.kb BK744) hb); have n2_ := Aside0.mk (below_step (B.bl HB) hb); clear BK744 HB; have HO749 := n0_; have BK744 := n1_; have HB := n2_; clear n0_ n1_ n2_; (try clear hb); (try clear hb2); (try clear hk); (try clear hi); (try clear ho0)))
      go_ret
      exact ⟨_, by first | rfl | (simp [errW_none, errW_some] <;> rfl) | (simp [*, errW_none, errW_some] <;> rfl), by (with_reducible repeat (first | apply Kd.R_alloc | apply Kd.R_drewN | apply Kd.R_drew)); exact HO749.out, B.bl HB⟩
    replace c7 := Bool.eq_false_iff.mpr c7
    subst c7
    have H1 : (some ([] : List Int)) = some r := by rw [if_neg (show ¬ (false = true) by decide)] at H; exact H
    clear H
    have H := H1
    clear H1
    obtain rfl := Option.some.inj H
    simp only [Option.some.injEq, Prod.mk.injEq] at H
    obtain ⟨rfl⟩ := H
    go_enter Try.func31, Try.ntmps31
    go_wp2_with (first | ((with_reducible refine gate_dst (N := 3) rfl ?_); refine box_event ?hg (N := 3) ?hd (cs := #[.int .i64 a0_0, .int .i64 a0_1, .int .i64 a0_2, .slice A0_3 l0_3.length c0_3]) (t := 26) ?hr ?_; (case hd => rfl); (case hg => rfl); (case hr => first | (go_simp; done) | (go_simp; rfl)); intro gb744 hg w16 hbox hb; have n0_ := Aside0.mk (below_step (B.bl HB) hb); have n1_ := Aside0.mk (hbox); have n2_ := Aside0.mk (B.nle hg (below_size (B.bl HB))); have n3_ := Aside0.mk (B.nle hg (below_size (B.bl HB))); clear HB; have HB := n0_; have BK744 := n1_; have GW744 := n2_; have GE744 := n3_; clear n0_ n1_ n2_ n3_; clear hb hbox hg; have hcz17_0 : w16.cell? ⟨gb744, 0, none⟩ = some (.int .i64 a0_0) := B.bc BK744 0; have hcz17_1 : w16.cell? ⟨gb744, 1, none⟩ = some (.int .i64 a0_1) := B.bc BK744 1; have hcz17_2 : w16.cell? ⟨gb744, 2, none⟩ = some (.int .i64 a0_2) := B.bc BK744 2; have hcz17_3 : w16.cell? ⟨gb744, 3, none⟩ = some (.slice A0_3 l0_3.length c0_3) := B.bc BK744 3; have hfz17_0 := blk_frozen BK744.out 0; have hfz17_1 := blk_frozen BK744.out 1; have hfz17_2 := blk_frozen BK744.out 2; have hfz17_3 := blk_frozen BK744.out 3) | ((with_reducible refine gate_callee (f := 35) rfl ?_); refine goesL_ (some 8) rfl rfl Try.func35 (by kernel_rfl) rfl #[.agg #[.int .i64 a0_0, .int .i64 a0_1, .int .i64 a0_2, .slice A0_3 l0_3.length c0_3]] rfl B.am ?_; (with_reducible refine (spec_validImage.calls k a0_0 a0_1 a0_2 _ _ l0_3 true _ ?side1 ?side2 A4.out).mono ?_); (case side1 => exact B.kc (Kd.C_below HR0_3.out HB.out)); (case side2 => exact HC0_3.out); rintro e w18 ⟨rfl, hb⟩; refine ⟨_, rfl, ?_⟩; have n0_ := Aside0.mk (blk_below (B.kb BK744) hb); have n1_ := Aside0.mk (below_step (B.bl HB) hb); clear BK744 HB; have BK744 := n0_; have HB := n1_; clear n0_ n1_; (try clear hb); (try clear hb2); (try clear hk); (try clear hi); have hcz19_0 : w18.cell? ⟨gb744, 0, none⟩ = some (.int .i64 a0_0) := B.bc BK744 0; have hcz19_1 : w18.cell? ⟨gb744, 1, none⟩ = some (.int .i64 a0_1) := B.bc BK744 1; have hcz19_2 : w18.cell? ⟨gb744, 2, none⟩ = some (.int .i64 a0_2) := B.bc BK744 2; have hcz19_3 : w18.cell? ⟨gb744, 3, none⟩ = some (.slice A0_3 l0_3.length c0_3) := B.bc BK744 3; have hfz19_0 := blk_frozen BK744.out 0; have hfz19_1 := blk_frozen BK744.out 1; have hfz19_2 := blk_frozen BK744.out 2; have hfz19_3 := blk_frozen BK744.out 3) | (go_at_call 62; (with_reducible refine (spec_onImage.calls a0_0 a0_1 a0_2 _ _ l0_3 a1 a2 false _ ?side1 ?side2 A6.out).mono ?_); (case side1 => exact B.kc (Kd.C_below HR0_3.out HB.out)); (case side2 => exact HC0_3.out); rintro e w20 ⟨rfl, hb⟩; have n0_ := Aside0.mk (blk_below (B.kb BK744) hb); have n1_ := Aside0.mk (below_step (B.bl HB) hb); clear BK744 HB; have BK744 := n0_; have HB := n1_; clear n0_ n1_; (try clear hb); (try clear hb2); (try clear hk); (try clear hi)))
    go_ret
    exact ⟨_, by first | rfl | (simp [errW_none, errW_some] <;> rfl) | (simp [*, errW_none, errW_some] <;> rfl), by first | exact Kd.R_nil _ _ _ _ _ | exact Kd.N_nil _ _ _ _ _ | exact Kd.V_nil _ _ _ _ _ | exact Kd.Q_nil _ _ _ _ _ | exact Kd.S_nil _ _ _ _ _, B.bl HB⟩
  replace c5 := Bool.eq_false_iff.mpr c5
  subst c5
  have H1 : (some ([] : List Int)) = some r := by rw [if_neg (show ¬ (false = true) by decide)] at H; exact H
  clear H
  have H := H1
  clear H1
  obtain rfl := Option.some.inj H
  simp only [Option.some.injEq, Prod.mk.injEq] at H
  obtain ⟨rfl⟩ := H
  go_enter Try.func31, Try.ntmps31
  go_wp2_with (first | ((with_reducible refine gate_dst (N := 3) rfl ?_); refine box_event ?hg (N := 3) ?hd (cs := #[.int .i64 a0_0, .int .i64 a0_1, .int .i64 a0_2, .slice A0_3 l0_3.length c0_3]) (t := 26) ?hr ?_; (case hd => rfl); (case hg => rfl); (case hr => first | (go_simp; done) | (go_simp; rfl)); intro gb744 hg w21 hbox hb; have n0_ := Aside0.mk (below_step (B.bl HB) hb); have n1_ := Aside0.mk (hbox); have n2_ := Aside0.mk (B.nle hg (below_size (B.bl HB))); have n3_ := Aside0.mk (B.nle hg (below_size (B.bl HB))); clear HB; have HB := n0_; have BK744 := n1_; have GW744 := n2_; have GE744 := n3_; clear n0_ n1_ n2_ n3_; clear hb hbox hg; have hcz22_0 : w21.cell? ⟨gb744, 0, none⟩ = some (.int .i64 a0_0) := B.bc BK744 0; have hcz22_1 : w21.cell? ⟨gb744, 1, none⟩ = some (.int .i64 a0_1) := B.bc BK744 1; have hcz22_2 : w21.cell? ⟨gb744, 2, none⟩ = some (.int .i64 a0_2) := B.bc BK744 2; have hcz22_3 : w21.cell? ⟨gb744, 3, none⟩ = some (.slice A0_3 l0_3.length c0_3) := B.bc BK744 3; have hfz22_0 := blk_frozen BK744.out 0; have hfz22_1 := blk_frozen BK744.out 1; have hfz22_2 := blk_frozen BK744.out 2; have hfz22_3 := blk_frozen BK744.out 3) | ((with_reducible refine gate_callee (f := 35) rfl ?_); refine goesL_ (some 8) rfl rfl Try.func35 (by kernel_rfl) rfl #[.agg #[.int .i64 a0_0, .int .i64 a0_1, .int .i64 a0_2, .slice A0_3 l0_3.length c0_3]] rfl B.am ?_; (with_reducible refine (spec_validImage.calls k a0_0 a0_1 a0_2 _ _ l0_3 false _ ?side1 ?side2 A4.out).mono ?_); (case side1 => exact B.kc (Kd.C_below HR0_3.out HB.out)); (case side2 => exact HC0_3.out); rintro e w23 ⟨rfl, hb⟩; refine ⟨_, rfl, ?_⟩; have n0_ := Aside0.mk (blk_below (B.kb BK744) hb); have n1_ := Aside0.mk (below_step (B.bl HB) hb); clear BK744 HB; have BK744 := n0_; have HB := n1_; clear n0_ n1_; (try clear hb); (try clear hb2); (try clear hk); (try clear hi)))
  go_ret
  exact ⟨_, by first | rfl | (simp [errW_none, errW_some] <;> rfl) | (simp [*, errW_none, errW_some] <;> rfl), by first | exact Kd.R_nil _ _ _ _ _ | exact Kd.N_nil _ _ _ _ _ | exact Kd.V_nil _ _ _ _ _ | exact Kd.Q_nil _ _ _ _ _ | exact Kd.S_nil _ _ _ _ _, B.bl HB⟩

/-! ### laws_FnMirrorPixels: function 9 -/
def laws_FnMirrorPixels.j0 : Nat → Int → Int → List Int → Bool → Int → Int → Int → List Int → Option (Bool)
  | 0, _, _, _, _, _, _, _, _ => none
  | k + 1, x4, x5, x6, x31, x759000, x759001, x759002, x759003 => if x31 = true then ((spec_PixelAt.f k x759000 x759001 x759002 x759003 x4 x5).bind fun t766 => ((laws_equalInts.f k x6 t766).bind fun t769 => (some t769))) else ((impl_MirrorImage.f x759000 x759001 x759002 x759003).bind fun bt770 => ((impl_PixelAt.f bt770.1 bt770.2.1 bt770.2.2.1 bt770.2.2.2 (wrap64 ((wrap64 (x759000 - 1)) - x4)) x5).bind fun t776 => ((laws_equalInts.f k t776 x6).bind fun t779 => (if t779 = true then ((impl_TransposeImage.f x759000 x759001 x759002 x759003).bind fun bt780 => ((impl_PixelAt.f bt780.1 bt780.2.1 bt780.2.2.1 bt780.2.2.2 x5 x4).bind fun t786 => ((laws_equalInts.f k t786 x6).bind fun t789 => (some t789)))) else (some false)))))
def laws_FnMirrorPixels.f (k : Nat) (l0 : List Int) : Option (Bool) := if (l0.length : Int) > 1048576 then (some true) else ((spec_DrawPixelAt.f k l0).bind fun bt750 => ((impl_PixelAt.f bt750.1 bt750.2.1 bt750.2.2.1 bt750.2.2.2.1 bt750.2.2.2.2.1 bt750.2.2.2.2.2).bind fun t759 => ((spec_PixelAt.f k bt750.1 bt750.2.1 bt750.2.2.1 bt750.2.2.2.1 bt750.2.2.2.2.1 bt750.2.2.2.2.2).bind fun t762 => ((laws_equalInts.f k t759 t762).bind fun t765 => (if t765 = true then (laws_FnMirrorPixels.j0 k bt750.2.2.2.2.1 bt750.2.2.2.2.2 t759 ((t759.length : Int) == 0) bt750.1 bt750.2.1 bt750.2.2.1 bt750.2.2.2.1) else (laws_FnMirrorPixels.j0 k bt750.2.2.2.2.1 bt750.2.2.2.2.2 t759 true bt750.1 bt750.2.1 bt750.2.2.1 bt750.2.2.2.1))))))
theorem laws_FnMirrorPixels.mono_l : ∀ k, (∀ y0 y1 y2 y3 y4 y5 y6 y7, LeO (laws_FnMirrorPixels.j0 k y0 y1 y2 y3 y4 y5 y6 y7) (laws_FnMirrorPixels.j0 (k + 1) y0 y1 y2 y3 y4 y5 y6 y7))
  | 0 => fun _ _ _ _ _ _ _ _ r h => by simp [laws_FnMirrorPixels.j0] at h
  | k + 1 => by
    have ih0 := laws_FnMirrorPixels.mono_l k
    · intro y0 y1 y2 y3 y4 y5 y6 y7
      unfold laws_FnMirrorPixels.j0
      repeat' first
      | (with_reducible exact ih0 _ _ _ _ _ _ _ _)
      | (with_reducible exact laws_equalInts.mono _ _ _)
      | (with_reducible exact spec_DrawPixelAt.mono _ _)
      | (with_reducible exact spec_PixelAt.mono _ _ _ _ _ _ _)
      | (with_reducible exact LeO.refl _)
      | (with_reducible exact LeO.none _)
      | (with_reducible refine LeO.ite ?_ ?_)
      | (with_reducible refine LeO.bind ?_ (fun _ => ?_))
      | exact ih0 _ _ _ _ _ _ _ _
      | exact laws_equalInts.mono _ _ _
      | exact spec_DrawPixelAt.mono _ _
      | exact spec_PixelAt.mono _ _ _ _ _ _ _
      | exact LeO.none _
      | refine LeO.ite ?_ ?_
      | refine LeO.bind ?_ (fun _ => ?_)
theorem laws_FnMirrorPixels.mono : ∀ a0 k, LeO (laws_FnMirrorPixels.f k a0) (laws_FnMirrorPixels.f (k + 1) a0) := by
  intro a0 k
  have ih0 := laws_FnMirrorPixels.mono_l k
  unfold laws_FnMirrorPixels.f
  repeat' first
      | (with_reducible exact ih0 _ _ _ _ _ _ _ _)
      | (with_reducible exact laws_equalInts.mono _ _ _)
      | (with_reducible exact spec_DrawPixelAt.mono _ _)
      | (with_reducible exact spec_PixelAt.mono _ _ _ _ _ _ _)
      | (with_reducible exact LeO.refl _)
      | (with_reducible exact LeO.none _)
      | (with_reducible refine LeO.ite ?_ ?_)
      | (with_reducible refine LeO.bind ?_ (fun _ => ?_))
      | exact ih0 _ _ _ _ _ _ _ _
      | exact laws_equalInts.mono _ _ _
      | exact spec_DrawPixelAt.mono _ _
      | exact spec_PixelAt.mono _ _ _ _ _ _ _
      | exact LeO.none _
      | refine LeO.ite ?_ ?_
      | refine LeO.bind ?_ (fun _ => ?_)
def laws_FnMirrorPixels.T7 : Bool × List (List Nat × List Nat) := (true, [([], []), ([0], [0]), ([], []), ([2], [2]), ([3], [3]), ([], []), ([4, 5], [4, 5]), ([], []), ([1, 6, 7, 1], [1, 6, 7]), ([], []), ([8, 9, 8], [8, 9]), ([10, 10], [10]), ([11], [11]), ([12, 11, 11], [11, 12]), ([11], [11]), ([11], [11]), ([13, 14, 15, 13, 11], [11, 13, 14, 15]), ([11], [11]), ([16, 17, 16, 11], [11, 16, 17]), ([11, 18], [11, 18]), ([19, 18, 0, 1, 2, 3, 4, 5, 6, 7, 8, 9, 10, 11, 12, 13, 14, 15, 16, 17, 18, 19], [19])])
def laws_FnMirrorPixels.B7 : List Nat := [0, 1, 0, 4, 12, 0, 60, 0, 255, 0, 1023, 2047, 4095, 8191, 4095, 4095, 65535, 4095, 262143, 524287, 1048575]
theorem laws_FnMirrorPixels.tab7 : rtab .any (opsOf Try.f9 7) = laws_FnMirrorPixels.T7 := by kernel_rfl
theorem laws_FnMirrorPixels.bits7 : waitsOk laws_FnMirrorPixels.T7.2 laws_FnMirrorPixels.B7 = true := by kernel_rfl
set_option maxHeartbeats 8000000 in
set_option maxRecDepth 100000 in
theorem laws_FnMirrorPixels.calls (k : Nat) (A0 : Option Addr) (c0 : Nat) (l0 : List Int) (r : Bool) (w : World) (hr0 : Kd.C (Kd.int .u8) w A0 l0.length l0) (hc0 : l0.length ≤ c0) (h : laws_FnMirrorPixels.f k l0 = some r) (ht_ : Aside0 (r = true)) :
    Calls Try.prog 9 #[.slice A0 l0.length c0] w fun e w' => e = .returned (.bool r) ∧ Below w.heap.size w w' := by
  have hu26 := Try.underlying26
  have HR0 := Aside0.mk hr0
  have HC0 := Aside0.mk hc0
  clear hr0 hc0
  have HB := Aside0.mk (Below.refl w.heap.size w)
  have H : (if (l0.length : Int) > 1048576 then (some true) else ((spec_DrawPixelAt.f k l0).bind fun bt750 => ((impl_PixelAt.f bt750.1 bt750.2.1 bt750.2.2.1 bt750.2.2.2.1 bt750.2.2.2.2.1 bt750.2.2.2.2.2).bind fun t759 => ((spec_PixelAt.f k bt750.1 bt750.2.1 bt750.2.2.1 bt750.2.2.2.1 bt750.2.2.2.2.1 bt750.2.2.2.2.2).bind fun t762 => ((laws_equalInts.f k t759 t762).bind fun t765 => (if t765 = true then (laws_FnMirrorPixels.j0 k bt750.2.2.2.2.1 bt750.2.2.2.2.2 t759 ((t759.length : Int) == 0) bt750.1 bt750.2.1 bt750.2.2.1 bt750.2.2.2.1) else (laws_FnMirrorPixels.j0 k bt750.2.2.2.2.1 bt750.2.2.2.2.2 t759 true bt750.1 bt750.2.1 bt750.2.2.1 bt750.2.2.2.1))))))) = some r := h
  clear h
  by_cases c2 : (l0.length : Int) > 1048576
  · rw [if_pos c2] at H
    have c2b0 : decide (1048576 < (l0.length : Int)) = true := decide_eq_true c2
    have c2b1 : decide (1048576 < l0.length) = true := decide_eq_true (by omega)
    clear c2
    obtain rfl := Option.some.inj H
    simp only [Option.some.injEq, Prod.mk.injEq] at H
    obtain ⟨rfl⟩ := H
    go_enter Try.func9, Try.ntmps9
    go_wp2
    go_ret
    exact ⟨by first | rfl | (simp [errW_none, errW_some] <;> rfl) | (simp [*, errW_none, errW_some] <;> rfl), B.bl HB⟩
  rw [if_neg c2] at H
  have c2b0 : decide (1048576 < (l0.length : Int)) = false := decide_eq_false c2
  have c2b1 : decide (1048576 < l0.length) = false := decide_eq_false (by omega)
  clear c2
  replace H := Option.bind_eq_some_iff.mp H
  obtain ⟨⟨t750, t751, t752, t753, t756, t757⟩, A30, H⟩ := H
  replace H : ((impl_PixelAt.f t750 t751 t752 t753 t756 t757).bind fun t759 => ((spec_PixelAt.f k t750 t751 t752 t753 t756 t757).bind fun t762 => ((laws_equalInts.f k t759 t762).bind fun t765 => (if t765 = true then (laws_FnMirrorPixels.j0 k t756 t757 t759 ((t759.length : Int) == 0) t750 t751 t752 t753) else (laws_FnMirrorPixels.j0 k t756 t757 t759 true t750 t751 t752 t753))))) = some r := H
  have A3 := Aside0.mk A30
  clear A30
  replace H := Option.bind_eq_some_iff.mp H
  obtain ⟨t759, A40, H⟩ := H
  replace H : ((spec_PixelAt.f k t750 t751 t752 t753 t756 t757).bind fun t762 => ((laws_equalInts.f k t759 t762).bind fun t765 => (if t765 = true then (laws_FnMirrorPixels.j0 k t756 t757 t759 ((t759.length : Int) == 0) t750 t751 t752 t753) else (laws_FnMirrorPixels.j0 k t756 t757 t759 true t750 t751 t752 t753)))) = some r := H
  have A4 := Aside0.mk A40
  clear A40
  have HC5 := Aside0.mk H
  clear H
  go_enter Try.func9, Try.ntmps9
  go_upto_region 5 with (first | ((with_reducible refine gate_callee (f := 28) rfl ?_); refine goesL_ (some 12) rfl rfl Try.func28 (by kernel_rfl) rfl #[.slice A0 l0.length c0] rfl B.am ?_; (with_reducible refine (spec_DrawPixelAt.calls k _ _ l0 t750 t751 t752 t753 t756 t757 _ ?side1 ?side2 A3.out).mono ?_); (case side1 => exact B.kc (HR0.out)); (case side2 => exact HC0.out); rintro e w6 ⟨v754, rfl, ho0, hb⟩; refine ⟨_, rfl, ?_⟩; have n0_ := Aside0.mk (Kd.Q_lower ho0 (below_size (B.bl HB))); have n1_ := Aside0.mk (below_step (B.bl HB) hb); clear HB; have HO755 := n0_; have HB := n1_; clear n0_ n1_; (try clear hb); (try clear hb2); (try clear hk); (try clear hi); (try clear ho0)) | ((with_reducible refine gate_dst (N := 3) rfl ?_); (try (refine gate_guard (by rfl) ?_; dsimp only)); refine box_event ?hg (N := 3) ?hd (cs := #[.int .i64 0, .int .i64 0, .int .i64 0, .slice none 0 0]) (t := 26) ?hr ?_; (case hd => rfl); (case hg => rfl); (case hr => first | (go_simp; done) | (go_simp; rfl)); intro gb758 hg w7 hbox hb; have n0_ := Aside0.mk (Kd.Q_below (B.kq HO755) hb); have n1_ := Aside0.mk (below_step (B.bl HB) hb); have n2_ := Aside0.mk (hbox); have n3_ := Aside0.mk (B.nle hg (below_size (B.bl HB))); have n4_ := Aside0.mk (B.nle hg (below_size (B.bl HB))); clear HO755 HB; have HO755 := n0_; have HB := n1_; have BK758 := n2_; have GW758 := n3_; have GE758 := n4_; clear n0_ n1_ n2_ n3_ n4_; clear hb hbox hg; have hcz8_0 : w7.cell? ⟨gb758, 0, none⟩ = some (.int .i64 0) := B.bc BK758 0; have hcz8_1 : w7.cell? ⟨gb758, 1, none⟩ = some (.int .i64 0) := B.bc BK758 1; have hcz8_2 : w7.cell? ⟨gb758, 2, none⟩ = some (.int .i64 0) := B.bc BK758 2; have hcz8_3 : w7.cell? ⟨gb758, 3, none⟩ = some (.slice none 0 0) := B.bc BK758 3; have hfz8_0 := blk_frozen BK758.out 0; have hfz8_1 := blk_frozen BK758.out 1; have hfz8_2 := blk_frozen BK758.out 2; have hfz8_3 := blk_frozen BK758.out 3; obtain ⟨Ao9, co9, eo9, _⟩ := Kd.Q_slice HO755.out; subst eo9) | ((with_reducible refine gate_callee (f := 29) rfl ?_); refine goesL_ (some 19) rfl rfl Try.func29 (by kernel_rfl) rfl #[.agg #[.int .i64 t750, .int .i64 t751, .int .i64 t752, .slice Ao9 t753.length co9], .int .i64 t756, .int .i64 t757] rfl B.am ?_; (with_reducible refine (impl_PixelAt.calls t750 t751 t752 _ _ t753 t756 t757 t759 _ ?side1 ?side2 A4.out).mono ?_); (case side1 => refine (Kd.Q_reads' (e := 3) (base := w.heap.size) (ok := fun k_ => True) (n := t753.length) (c := co9) ?_).2.2; exact (by (with_reducible repeat (first | apply Kd.Q_alloc | apply Kd.Q_drewN | apply Kd.Q_drew)); exact (Kd.Q_mono (Kd.Q_far (p := ⟨gb758, 3, none⟩) (Kd.Q_far (p := ⟨gb758, 2, none⟩) (Kd.Q_far (p := ⟨gb758, 1, none⟩) (Kd.Q_far (p := ⟨gb758, 0, none⟩) (Kd.Q_types HO755.out BK758.out (by decide)) (fun _ hk => hk.2) (.int .i64 t750)) (fun _ hk => hk.2) (.int .i64 t751)) (fun _ hk => hk.2) (.int .i64 t752)) (fun _ hk => hk.2) (.slice Ao9 t753.length co9)) (fun _ h_ => h_.1)))); (case side2 => exact (Kd.Q_reads' HO755.out).2.1); rintro e w10 ⟨v760, rfl, ho0, hb⟩; refine ⟨_, rfl, ?_⟩; have n0_ := Aside0.mk (Kd.Q_elder' (by (with_reducible repeat (first | apply Kd.Q_alloc | apply Kd.Q_drewN | apply Kd.Q_drew)); exact (Kd.Q_mono (Kd.Q_far (p := ⟨gb758, 3, none⟩) (Kd.Q_far (p := ⟨gb758, 2, none⟩) (Kd.Q_far (p := ⟨gb758, 1, none⟩) (Kd.Q_far (p := ⟨gb758, 0, none⟩) (Kd.Q_types HO755.out BK758.out (by decide)) (fun _ hk => hk.2) (.int .i64 t750)) (fun _ hk => hk.2) (.int .i64 t751)) (fun _ hk => hk.2) (.int .i64 t752)) (fun _ hk => hk.2) (.slice Ao9 t753.length co9)) (fun _ h_ => h_.1))) (Kd.R_base ho0) hb); have n1_ := Aside0.mk (Kd.R_lower (Kd.R_new' ho0 (Kd.Q_lt (by (with_reducible repeat (first | apply Kd.Q_alloc | apply Kd.Q_drewN | apply Kd.Q_drew)); exact (Kd.Q_mono (Kd.Q_far (p := ⟨gb758, 3, none⟩) (Kd.Q_far (p := ⟨gb758, 2, none⟩) (Kd.Q_far (p := ⟨gb758, 1, none⟩) (Kd.Q_far (p := ⟨gb758, 0, none⟩) (Kd.Q_types HO755.out BK758.out (by decide)) (fun _ hk => hk.2) (.int .i64 t750)) (fun _ hk => hk.2) (.int .i64 t751)) (fun _ hk => hk.2) (.int .i64 t752)) (fun _ hk => hk.2) (.slice Ao9 t753.length co9)) (fun _ h_ => h_.1))))) (below_size (B.bl HB))); have n2_ := Aside0.mk (blk_below (g := gb758) (o := .cells #[.int .i64 t750, .int .i64 t751, .int .i64 t752, .slice Ao9 t753.length co9] 26 (0, 0)) (B.kb0 (B.bp4 BK758)) hb); have n3_ := Aside0.mk (below_step (B.bl HB) hb); clear HO755 BK758 HB; have HO755 := n0_; have HO761 := n1_; have BK758 := n2_; have HB := n3_; clear n0_ n1_ n2_ n3_; (try clear hb); (try clear hb2); (try clear hk); (try clear hi); (try clear ho0)))
  (try simp only [Act.put, List.setIfInBounds_toArray, List.set_cons_zero, List.set_cons_succ])
  go_cut [31] (fun v31 wc => ∃ (kq : Nat) (x31_4 : Bool), v31 = .bool x31_4 ∧ Aside0 (laws_FnMirrorPixels.j0 kq t756 t757 t759 x31_4 t750 t751 t752 t753 = some r) ∧ Aside0 (kq ≤ k) ∧ Aside0 (Kd.R (Kd.int .i64) 3 wc w.heap.size (fun k_ => some k_ ≠ ((.slice Ao9 t753.length co9) : Value).ownBlock) v760 t759) ∧ Aside0 (Kd.Q (Kd.int .i64) 3 wc w.heap.size (fun k_ => some k_ ≠ (v760 : Value).ownBlock) (.slice Ao9 t753.length co9) t753) ∧ Aside0 (wc.heap[gb758]? = some (.cells #[.int .i64 t750, .int .i64 t751, .int .i64 t752, (.slice Ao9 t753.length co9)] 26 (0, 0))) ∧ Aside0 (Below w.heap.size w wc))
  case first =>
    have H := HC5.out
    clear HC5
    replace H := Option.bind_eq_some_iff.mp H
    obtain ⟨t762, A110, H⟩ := H
    replace H : ((laws_equalInts.f k t759 t762).bind fun t765 => (if t765 = true then (laws_FnMirrorPixels.j0 k t756 t757 t759 ((t759.length : Int) == 0) t750 t751 t752 t753) else (laws_FnMirrorPixels.j0 k t756 t757 t759 true t750 t751 t752 t753))) = some r := H
    have A11 := Aside0.mk A110
    clear A110
    replace H := Option.bind_eq_some_iff.mp H
    obtain ⟨t765, A120, H⟩ := H
    replace H : (if t765 = true then (laws_FnMirrorPixels.j0 k t756 t757 t759 ((t759.length : Int) == 0) t750 t751 t752 t753) else (laws_FnMirrorPixels.j0 k t756 t757 t759 true t750 t751 t752 t753)) = some r := H
    have A12 := Aside0.mk A120
    clear A120
    by_cases c13 : t765 = true
    · subst c13
      have H1 : (laws_FnMirrorPixels.j0 k t756 t757 t759 ((t759.length : Int) == 0) t750 t751 t752 t753) = some r := by rw [if_pos rfl] at H; exact H
      clear H
      have H := H1
      clear H1
      have H' := Aside0.mk H
      clear H
      have hcz14_0 : w10.cell? ⟨gb758, 0, none⟩ = some (.int .i64 t750) := B.bc BK758 0
      have hcz14_1 : w10.cell? ⟨gb758, 1, none⟩ = some (.int .i64 t751) := B.bc BK758 1
      have hcz14_2 : w10.cell? ⟨gb758, 2, none⟩ = some (.int .i64 t752) := B.bc BK758 2
      have hcz14_3 : w10.cell? ⟨gb758, 3, none⟩ = some (.slice Ao9 t753.length co9) := B.bc BK758 3
      have hfz14_0 := blk_frozen BK758.out 0
      have hfz14_1 := blk_frozen BK758.out 1
      have hfz14_2 := blk_frozen BK758.out 2
      have hfz14_3 := blk_frozen BK758.out 3
      go_wp2_with (first | ((with_reducible refine gate_callee (f := 31) rfl ?_); refine goesL_ (some 24) rfl rfl Try.func31 (by kernel_rfl) rfl #[.agg #[.int .i64 t750, .int .i64 t751, .int .i64 t752, .slice Ao9 t753.length co9], .int .i64 t756, .int .i64 t757] rfl B.am ?_; (with_reducible refine (spec_PixelAt.calls k t750 t751 t752 _ _ t753 t756 t757 t762 _ ?side1 ?side2 A11.out).mono ?_); (case side1 => exact B.kc ((Kd.Q_reads' HO755.out).2.2)); (case side2 => exact (Kd.Q_reads' HO755.out).2.1); rintro e w15 ⟨v763, rfl, ho0, hb⟩; refine ⟨_, rfl, ?_⟩; have n0_ := Aside0.mk (Kd.Q_elder' (B.kq HO755) (Kd.R_base ho0) hb); have n1_ := Aside0.mk (Kd.R_elder' (B.kr HO761) (Kd.R_base ho0) hb); have n2_ := Aside0.mk (Kd.R_lower (Kd.R_new' (Kd.R_new' ho0 (Kd.Q_lt (B.kq HO755))) (Kd.R_lt (B.kr HO761))) (below_size (B.bl HB))); have n3_ := Aside0.mk (blk_below (B.kb BK758) hb); have n4_ := Aside0.mk (below_step (B.bl HB) hb); clear HO755 HO761 BK758 HB; have HO755 := n0_; have HO761 := n1_; have HO764 := n2_; have BK758 := n3_; have HB := n4_; clear n0_ n1_ n2_ n3_ n4_; (try clear hb); (try clear hb2); (try clear hk); (try clear hi); (try clear ho0); obtain ⟨Ao16, co16, eo16⟩ := Kd.R_slice HO761.out; subst eo16; obtain ⟨Ao17, co17, eo17⟩ := Kd.R_slice HO764.out; subst eo17) | ((with_reducible refine gate_callee (f := 30) rfl ?_); refine goesL_ (some 25) rfl rfl Try.func30 (by kernel_rfl) rfl #[.slice Ao16 t759.length co16, .slice Ao17 t762.length co17] rfl B.am ?_; (with_reducible refine (laws_equalInts.calls k _ _ t759 _ _ t762 true _ ?side1 ?side2 ?side3 ?side4 A12.out).mono ?_); (case side1 => exact B.kc ((Kd.R_reads' HO761.out).2.2)); (case side2 => exact (Kd.R_reads' HO761.out).2.1); (case side3 => exact B.kc ((Kd.R_reads' HO764.out).2.2)); (case side4 => exact (Kd.R_reads' HO764.out).2.1); rintro e w' ⟨rfl, ⟨nd, rfl⟩⟩; refine ⟨_, rfl, ?_⟩))
      go_meet
      case rel => exact ⟨_, (((t759.length : Int) == 0)), (by first | rfl | (simp; done) | (simp [*]; done)), H', ⟨by first | omega | exact Nat.le_refl _⟩, ⟨B.kr0 (Kd.R_mono HO761.out (fun _ hk => hk.1.2))⟩, ⟨by (with_reducible repeat (first | apply Kd.Q_alloc | apply Kd.Q_drewN | apply Kd.Q_drew)); exact Kd.Q_mono HO755.out (fun _ hk => hk.1.2)⟩, ⟨B.kb BK758⟩, ⟨B.bl HB⟩⟩
    replace c13 := Bool.eq_false_iff.mpr c13
    subst c13
    have H1 : (laws_FnMirrorPixels.j0 k t756 t757 t759 true t750 t751 t752 t753) = some r := by rw [if_neg (show ¬ (false = true) by decide)] at H; exact H
    clear H
    have H := H1
    clear H1
    have H' := Aside0.mk H
    clear H
    have hcz18_0 : w10.cell? ⟨gb758, 0, none⟩ = some (.int .i64 t750) := B.bc BK758 0
    have hcz18_1 : w10.cell? ⟨gb758, 1, none⟩ = some (.int .i64 t751) := B.bc BK758 1
    have hcz18_2 : w10.cell? ⟨gb758, 2, none⟩ = some (.int .i64 t752) := B.bc BK758 2
    have hcz18_3 : w10.cell? ⟨gb758, 3, none⟩ = some (.slice Ao9 t753.length co9) := B.bc BK758 3
    have hfz18_0 := blk_frozen BK758.out 0
    have hfz18_1 := blk_frozen BK758.out 1
    have hfz18_2 := blk_frozen BK758.out 2
    have hfz18_3 := blk_frozen BK758.out 3
    go_wp2_with (first | ((with_reducible refine gate_callee (f := 31) rfl ?_); refine goesL_ (some 24) rfl rfl Try.func31 (by kernel_rfl) rfl #[.agg #[.int .i64 t750, .int .i64 t751, .int .i64 t752, .slice Ao9 t753.length co9], .int .i64 t756, .int .i64 t757] rfl B.am ?_; (with_reducible refine (spec_PixelAt.calls k t750 t751 t752 _ _ t753 t756 t757 t762 _ ?side1 ?side2 A11.out).mono ?_); (case side1 => exact B.kc ((Kd.Q_reads' HO755.out).2.2)); (case side2 => exact (Kd.Q_reads' HO755.out).2.1); rintro e w19 ⟨v763, rfl, ho0, hb⟩; refine ⟨_, rfl, ?_⟩; have n0_ := Aside0.mk (Kd.Q_elder' (B.kq HO755) (Kd.R_base ho0) hb); have n1_ := Aside0.mk (Kd.R_elder' (B.kr HO761) (Kd.R_base ho0) hb); have n2_ := Aside0.mk (Kd.R_lower (Kd.R_new' (Kd.R_new' ho0 (Kd.Q_lt (B.kq HO755))) (Kd.R_lt (B.kr HO761))) (below_size (B.bl HB))); have n3_ := Aside0.mk (blk_below (B.kb BK758) hb); have n4_ := Aside0.mk (below_step (B.bl HB) hb); clear HO755 HO761 BK758 HB; have HO755 := n0_; have HO761 := n1_; have HO764 := n2_; have BK758 := n3_; have HB := n4_; clear n0_ n1_ n2_ n3_ n4_; (try clear hb); (try clear hb2); (try clear hk); (try clear hi); (try clear ho0); obtain ⟨Ao20, co20, eo20⟩ := Kd.R_slice HO761.out; subst eo20; obtain ⟨Ao21, co21, eo21⟩ := Kd.R_slice HO764.out; subst eo21) | ((with_reducible refine gate_callee (f := 30) rfl ?_); refine goesL_ (some 25) rfl rfl Try.func30 (by kernel_rfl) rfl #[.slice Ao20 t759.length co20, .slice Ao21 t762.length co21] rfl B.am ?_; (with_reducible refine (laws_equalInts.calls k _ _ t759 _ _ t762 false _ ?side1 ?side2 ?side3 ?side4 A12.out).mono ?_); (case side1 => exact B.kc ((Kd.R_reads' HO761.out).2.2)); (case side2 => exact (Kd.R_reads' HO761.out).2.1); (case side3 => exact B.kc ((Kd.R_reads' HO764.out).2.2)); (case side4 => exact (Kd.R_reads' HO764.out).2.1); rintro e w' ⟨rfl, ⟨nd, rfl⟩⟩; refine ⟨_, rfl, ?_⟩))
    go_meet
    case rel => exact ⟨_, (true), (by first | rfl | (simp; done) | (simp [*]; done)), H', ⟨by first | omega | exact Nat.le_refl _⟩, ⟨B.kr0 (Kd.R_mono HO761.out (fun _ hk => hk.1.2))⟩, ⟨by (with_reducible repeat (first | apply Kd.Q_alloc | apply Kd.Q_drewN | apply Kd.Q_drew)); exact Kd.Q_mono HO755.out (fun _ hk => hk.1.2)⟩, ⟨B.kb BK758⟩, ⟨B.bl HB⟩⟩
  case rest =>
    clear HC5
    try clear c1
    try clear c2
    try clear c2b0
    try clear c2b1
    try clear p2
    try clear c3
    try clear c9
    try clear c13
    try clear hcz14_0
    try clear hcz14_1
    try clear hcz14_2
    try clear hcz14_3
    try clear hcz18_0
    try clear hcz18_1
    try clear hcz18_2
    try clear hcz18_3
    try clear hcz8_0
    try clear hcz8_1
    try clear hcz8_2
    try clear hcz8_3
    try clear hfz14_0
    try clear hfz14_1
    try clear hfz14_2
    try clear hfz14_3
    try clear hfz18_0
    try clear hfz18_1
    try clear hfz18_2
    try clear hfz18_3
    try clear hfz8_0
    try clear hfz8_1
    try clear hfz8_2
    try clear hfz8_3
    obtain ⟨kq, x31_4, rfl, HA, HJ4, HO_6, HO_759003, BK758, HB⟩ := hcut
    cases kq with
    | zero => exact absurd HA.out (by simp [laws_FnMirrorPixels.j0])
    | succ kj4 =>
      have H := HA.out
      clear HA
      simp only [laws_FnMirrorPixels.j0] at H
      by_cases c22 : x31_4 = true
      · subst c22
        have H1 : ((spec_PixelAt.f kj4 t750 t751 t752 t753 t756 t757).bind fun t766 => ((laws_equalInts.f kj4 t759 t766).bind fun t769 => (some t769))) = some r := by rw [if_pos rfl] at H; exact H
        clear H
        have H := H1
        clear H1
        replace H := Option.bind_eq_some_iff.mp H
        obtain ⟨t766, A230, H⟩ := H
        replace H : ((laws_equalInts.f kj4 t759 t766).bind fun t769 => (some t769)) = some r := H
        have A23 := Aside0.mk A230
        clear A230
        replace H := Option.bind_eq_some_iff.mp H
        obtain ⟨t769, A240, H⟩ := H
        replace H : (some t769) = some r := H
        have A24 := Aside0.mk A240
        clear A240
        obtain rfl := Option.some.inj H
        simp only [Option.some.injEq, Prod.mk.injEq] at H
        obtain ⟨rfl⟩ := H
        have hcz25_0 : wc.cell? ⟨gb758, 0, none⟩ = some (.int .i64 t750) := B.bc BK758 0
        have hcz25_1 : wc.cell? ⟨gb758, 1, none⟩ = some (.int .i64 t751) := B.bc BK758 1
        have hcz25_2 : wc.cell? ⟨gb758, 2, none⟩ = some (.int .i64 t752) := B.bc BK758 2
        have hcz25_3 : wc.cell? ⟨gb758, 3, none⟩ = some (.slice Ao9 t753.length co9) := B.bc BK758 3
        have hfz25_0 := blk_frozen BK758.out 0
        have hfz25_1 := blk_frozen BK758.out 1
        have hfz25_2 := blk_frozen BK758.out 2
        have hfz25_3 := blk_frozen BK758.out 3
        go_wp2_with (first | ((with_reducible refine gate_callee (f := 31) rfl ?_); refine goesL_ (some 36) rfl rfl Try.func31 (by kernel_rfl) rfl #[.agg #[.int .i64 t750, .int .i64 t751, .int .i64 t752, .slice Ao9 t753.length co9], .int .i64 t756, .int .i64 t757] rfl B.am ?_; (with_reducible refine (spec_PixelAt.calls kj4 t750 t751 t752 _ _ t753 t756 t757 t766 _ ?side1 ?side2 A23.out).mono ?_); (case side1 => exact B.kc ((Kd.Q_reads' HO_759003.out).2.2)); (case side2 => exact (Kd.Q_reads' HO_759003.out).2.1); rintro e w26 ⟨v767, rfl, ho0, hb⟩; refine ⟨_, rfl, ?_⟩; have n0_ := Aside0.mk (Kd.R_elder' (B.kr HO_6) (Kd.R_base ho0) hb); have n1_ := Aside0.mk (Kd.Q_elder' (B.kq HO_759003) (Kd.R_base ho0) hb); have n2_ := Aside0.mk (Kd.R_lower (Kd.R_new' (Kd.R_new' ho0 (Kd.R_lt (B.kr HO_6))) (Kd.Q_lt (B.kq HO_759003))) (below_size (B.bl HB))); have n3_ := Aside0.mk (blk_below (B.kb BK758) hb); have n4_ := Aside0.mk (below_step (B.bl HB) hb); clear HO_6 HO_759003 BK758 HB; have HO_6 := n0_; have HO_759003 := n1_; have HO768 := n2_; have BK758 := n3_; have HB := n4_; clear n0_ n1_ n2_ n3_ n4_; (try clear hb); (try clear hb2); (try clear hk); (try clear hi); (try clear ho0); obtain ⟨Ao27, co27, eo27⟩ := Kd.R_slice HO_6.out; subst eo27; obtain ⟨Ao28, co28, eo28⟩ := Kd.R_slice HO768.out; subst eo28) | ((with_reducible refine gate_callee (f := 30) rfl ?_); refine goesL_ (some 37) rfl rfl Try.func30 (by kernel_rfl) rfl #[.slice Ao27 t759.length co27, .slice Ao28 t766.length co28] rfl B.am ?_; (with_reducible refine (laws_equalInts.calls kj4 _ _ t759 _ _ t766 t769 _ ?side1 ?side2 ?side3 ?side4 A24.out).mono ?_); (case side1 => exact B.kc ((Kd.R_reads' HO_6.out).2.2)); (case side2 => exact (Kd.R_reads' HO_6.out).2.1); (case side3 => exact B.kc ((Kd.R_reads' HO768.out).2.2)); (case side4 => exact (Kd.R_reads' HO768.out).2.1); rintro e w' ⟨rfl, ⟨nd, rfl⟩⟩; refine ⟨_, rfl, ?_⟩))
        go_ret
        exact ⟨by first | rfl | (simp [errW_none, errW_some] <;> rfl) | (simp [*, errW_none, errW_some] <;> rfl), B.bl HB⟩
      replace c22 := Bool.eq_false_iff.mpr c22
      subst c22
      have H1 : ((impl_MirrorImage.f t750 t751 t752 t753).bind fun bt770 => ((impl_PixelAt.f bt770.1 bt770.2.1 bt770.2.2.1 bt770.2.2.2 (wrap64 ((wrap64 (t750 - 1)) - t756)) t757).bind fun t776 => ((laws_equalInts.f kj4 t776 t759).bind fun t779 => (if t779 = true then ((impl_TransposeImage.f t750 t751 t752 t753).bind fun bt780 => ((impl_PixelAt.f bt780.1 bt780.2.1 bt780.2.2.1 bt780.2.2.2 t757 t756).bind fun t786 => ((laws_equalInts.f kj4 t786 t759).bind fun t789 => (some t789)))) else (some false))))) = some r := by rw [if_neg (show ¬ (false = true) by decide)] at H; exact H
      clear H
      have H := H1
      clear H1
      replace H := Option.bind_eq_some_iff.mp H
      obtain ⟨⟨t770, t771, t772, t773⟩, A290, H⟩ := H
      replace H : ((impl_PixelAt.f t770 t771 t772 t773 (wrap64 ((wrap64 (t750 - 1)) - t756)) t757).bind fun t776 => ((laws_equalInts.f kj4 t776 t759).bind fun t779 => (if t779 = true then ((impl_TransposeImage.f t750 t751 t752 t753).bind fun bt780 => ((impl_PixelAt.f bt780.1 bt780.2.1 bt780.2.2.1 bt780.2.2.2 t757 t756).bind fun t786 => ((laws_equalInts.f kj4 t786 t759).bind fun t789 => (some t789)))) else (some false)))) = some r := H
      have A29 := Aside0.mk A290
      clear A290
      replace H := Option.bind_eq_some_iff.mp H
      obtain ⟨t776, A300, H⟩ := H
      replace H : ((laws_equalInts.f kj4 t776 t759).bind fun t779 => (if t779 = true then ((impl_TransposeImage.f t750 t751 t752 t753).bind fun bt780 => ((impl_PixelAt.f bt780.1 bt780.2.1 bt780.2.2.1 bt780.2.2.2 t757 t756).bind fun t786 => ((laws_equalInts.f kj4 t786 t759).bind fun t789 => (some t789)))) else (some false))) = some r := H
      have A30 := Aside0.mk A300
      clear A300
      replace H := Option.bind_eq_some_iff.mp H
      obtain ⟨t779, A310, H⟩ := H
      replace H : (if t779 = true then ((impl_TransposeImage.f t750 t751 t752 t753).bind fun bt780 => ((impl_PixelAt.f bt780.1 bt780.2.1 bt780.2.2.1 bt780.2.2.2 t757 t756).bind fun t786 => ((laws_equalInts.f kj4 t786 t759).bind fun t789 => (some t789)))) else (some false)) = some r := H
      have A31 := Aside0.mk A310
      clear A310
      by_cases c32 : t779 = true
      · subst c32
        have H1 : ((impl_TransposeImage.f t750 t751 t752 t753).bind fun bt780 => ((impl_PixelAt.f bt780.1 bt780.2.1 bt780.2.2.1 bt780.2.2.2 t757 t756).bind fun t786 => ((laws_equalInts.f kj4 t786 t759).bind fun t789 => (some t789)))) = some r := by rw [if_pos rfl] at H; exact H
        clear H
        have H := H1
        clear H1
        replace H := Option.bind_eq_some_iff.mp H
        obtain ⟨⟨t780, t781, t782, t783⟩, A330, H⟩ := H
        replace H : ((impl_PixelAt.f t780 t781 t782 t783 t757 t756).bind fun t786 => ((laws_equalInts.f kj4 t786 t759).bind fun t789 => (some t789))) = some r := H
        have A33 := Aside0.mk A330
        clear A330
        replace H := Option.bind_eq_some_iff.mp H
        obtain ⟨t786, A340, H⟩ := H
        replace H : ((laws_equalInts.f kj4 t786 t759).bind fun t789 => (some t789)) = some r := H
        have A34 := Aside0.mk A340
        clear A340
        replace H := Option.bind_eq_some_iff.mp H
        obtain ⟨t789, A350, H⟩ := H
        replace H : (some t789) = some r := H
        have A35 := Aside0.mk A350
        clear A350
        obtain rfl := Option.some.inj H
        simp only [Option.some.injEq, Prod.mk.injEq] at H
        obtain ⟨rfl⟩ := H
        try go_wp2
        have n0_ := Aside0.mk (Kd.R_drew HO_6.out)
        have n1_ := Aside0.mk (Kd.Q_drew HO_759003.out)
        have n2_ := Aside0.mk (blk_drew BK758.out)
        have n3_ := Aside0.mk (below_drew1 HB.out)
        clear HO_6 HO_759003 BK758 HB
        have HO_6 := n0_
        have HO_759003 := n1_
        have BK758 := n2_
        have HB := n3_
        clear n0_ n1_ n2_ n3_
        refine start_ (n := 21) (S := fun w' => w'.cell? ⟨gb758, 0, none⟩ = some (.int .i64 t750) ∧ w'.cell? ⟨gb758, 1, none⟩ = some (.int .i64 t751) ∧ w'.cell? ⟨gb758, 2, none⟩ = some (.int .i64 t752) ∧ w'.cell? ⟨gb758, 3, none⟩ = some (.slice Ao9 t753.length co9)) (ds := []) #[false, false, false, false, false, false, false, false, false, false, false, false, false, false, false, false, false, false, false, false, false] (by kernel_rfl) rfl rfl ⟨B.bc BK758 0, B.bc BK758 1, B.bc BK758 2, B.bc BK758 3⟩ (fun hHeld => ?_); refine with_tabW laws_FnMirrorPixels.tab7 laws_FnMirrorPixels.bits7 (fun HT_ HW_ => ?_)
        generalize wc.drew = w36 at HO_6 HO_759003 BK758 HB hHeld ⊢
        refine pure_ (i := 2) (N := some 40) (v := ?_) (a' := ?_) #[false, false, true, false, false, false, false, false, false, false, false, false, false, false, false, false, false, false, false, false, false] rfl rfl (any_of HT_.out (by kernel_rfl)) (fun _ _ _ h => h) (Or.inl ⟨by rfl, ?_⟩) ?_ ?_
        rotate_left
        · intro w'
          go_simp
          with_reducible rfl
        rotate_left
        · simp only [Act.put, List.setIfInBounds_toArray, List.set_cons_zero, List.set_cons_succ, i64_w, i32_w]
          rfl
        refine pure_ (i := 5) (N := some 43) (v := ?_) (a' := ?_) #[false, false, true, false, false, true, false, false, false, false, false, false, false, false, false, false, false, false, false, false, false] rfl rfl (any_of HT_.out (by kernel_rfl)) (fun _ _ _ h => h) (Or.inl ⟨by rfl, ?_⟩) ?_ ?_
        rotate_left
        · intro w'
          go_simp
          with_reducible rfl
        rotate_left
        · simp only [Act.put, List.setIfInBounds_toArray, List.set_cons_zero, List.set_cons_succ, i64_w, i32_w]
          rfl
        refine pure_ (i := 7) (N := some 45) (v := ?_) (a' := ?_) #[false, false, true, false, false, true, false, true, false, false, false, false, false, false, false, false, false, false, false, false, false] rfl rfl (any_of HT_.out (by kernel_rfl)) (fun _ _ _ h => h) (Or.inl ⟨by rfl, ?_⟩) ?_ ?_
        rotate_left
        · intro w'
          go_simp
          with_reducible rfl
        rotate_left
        · simp only [Act.put, List.setIfInBounds_toArray, List.set_cons_zero, List.set_cons_succ, i64_w, i32_w]
          rfl
        refine pure_ (i := 9) (N := some 47) (v := ?_) (a' := ?_) #[false, false, true, false, false, true, false, true, false, true, false, false, false, false, false, false, false, false, false, false, false] rfl rfl (any_of HT_.out (by kernel_rfl)) (fun _ _ _ h => h) (Or.inl ⟨by rfl, ?_⟩) ?_ ?_
        rotate_left
        · intro w'
          go_simp
          with_reducible rfl
        rotate_left
        · simp only [Act.put, List.setIfInBounds_toArray, List.set_cons_zero, List.set_cons_succ, i64_w, i32_w]
          rfl
        refine take_ (i := 0) (N := some 38) (v := ?_) (a' := ?_) #[true, false, true, false, false, true, false, true, false, true, false, false, false, false, false, false, false, false, false, false, false] rfl rfl (take_ofW HT_.out HW_.out (by kernel_rfl)) (fun _ _ _ h => h) (Or.inl ⟨by rfl, ?_⟩) hHeld ?_ ?_
        rotate_left
        · rintro w' ⟨s0, s1, s2, s3⟩
          go_simp
          with_reducible rfl
        rotate_left
        · simp only [Act.put, List.setIfInBounds_toArray, List.set_cons_zero, List.set_cons_succ, i64_w, i32_w]
          rfl
        refine take_ (i := 3) (N := some 41) (v := ?_) (a' := ?_) #[true, false, true, true, false, true, false, true, false, true, false, false, false, false, false, false, false, false, false, false, false] rfl rfl (take_ofW HT_.out HW_.out (by kernel_rfl)) (fun _ _ _ h => h) (Or.inl ⟨by rfl, ?_⟩) hHeld ?_ ?_
        rotate_left
        · rintro w' ⟨s0, s1, s2, s3⟩
          go_simp
          with_reducible rfl
        rotate_left
        · simp only [Act.put, List.setIfInBounds_toArray, List.set_cons_zero, List.set_cons_succ, i64_w, i32_w]
          rfl
        refine pure_ (i := 4) (N := some 42) (v := ?_) (a' := ?_) #[true, false, true, true, true, true, false, true, false, true, false, false, false, false, false, false, false, false, false, false, false] rfl rfl (any_of HT_.out (by kernel_rfl)) (fun _ _ _ h => h) (Or.inl ⟨by rfl, ?_⟩) ?_ ?_
        rotate_left
        · intro w'
          go_simp
          with_reducible rfl
        rotate_left
        · simp only [Act.put, List.setIfInBounds_toArray, List.set_cons_zero, List.set_cons_succ, i64_w, i32_w]
          rfl
        refine pure_ (i := 6) (N := some 44) (v := ?_) (a' := ?_) #[true, false, true, true, true, true, true, true, false, true, false, false, false, false, false, false, false, false, false, false, false] rfl rfl (any_of HT_.out (by kernel_rfl)) (fun _ _ _ h => h) (Or.inl ⟨by rfl, ?_⟩) ?_ ?_
        rotate_left
        · intro w'
          go_simp
          with_reducible rfl
        rotate_left
        · simp only [Act.put, List.setIfInBounds_toArray, List.set_cons_zero, List.set_cons_succ, i64_w, i32_w]
          rfl
        refine one_ (i := 1) (N := some 39) #[true, true, true, true, true, true, true, true, false, true, false, false, false, false, false, false, false, false, false, false, false] rfl rfl (one_of HT_.out (by kernel_rfl)) (by decide) (fun K hK => ?_)
        refine goes_ Try.func21 (by kernel_rfl) rfl #[.agg #[.int .i64 t750, .int .i64 t751, .int .i64 t752, .slice Ao9 t753.length co9]] (by rfl) rfl rfl B.am ?_
        with_reducible refine (impl_MirrorImage.calls t750 t751 t752 _ _ t753 t770 t771 t772 t773 _ ?side1 ?side2 A29.out).mono ?_
        (case side1 => exact B.kc ((Kd.Q_reads' HO_759003.out).2.2))
        (case side2 => exact (Kd.Q_reads' HO_759003.out).2.1)
        rintro e w37 ⟨v774, rfl, ho0, hb⟩
        refine ⟨_, rfl, ?_⟩
        have n0_ := Aside0.mk (Kd.R_elder' (B.kr HO_6) (Kd.R_base ho0) hb)
        have n1_ := Aside0.mk (Kd.Q_elder' (B.kq HO_759003) (Kd.R_base ho0) hb)
        have n2_ := Aside0.mk (Kd.R_lower (Kd.R_new' (Kd.R_new' ho0 (Kd.R_lt (B.kr HO_6))) (Kd.Q_lt (B.kq HO_759003))) (below_size (B.bl HB)))
        have n3_ := Aside0.mk (blk_below (B.kb BK758) hb)
        have n4_ := Aside0.mk (below_step (B.bl HB) hb)
        clear HO_6 HO_759003 BK758 HB
        have HO_6 := n0_
        have HO_759003 := n1_
        have HO775 := n2_
        have BK758 := n3_
        have HB := n4_
        clear n0_ n1_ n2_ n3_ n4_
        (try clear hb)
        (try clear hb2)
        (try clear hk)
        (try clear hi)
        (try clear ho0)
        obtain ⟨Ao38, co38, eo38⟩ := Kd.R_slice HO775.out
        (first | subst eo38 | (injection eo38 with f1_ f2_ f3_; have f4_ := f1_.symm; have f5_ := f3_.symm; clear f1_ f2_ f3_; subst f4_; subst f5_))
        refine hK.out _ _ ⟨B.bc BK758 0, B.bc BK758 1, B.bc BK758 2, B.bc BK758 3⟩ (fun hHeld => ?_)
        clear hK K
        refine norm_ (a' := ?_) ?_ ?_
        rotate_left
        · show Act.put _ (some 39) _ = _
          simp only [Act.put, List.setIfInBounds_toArray, List.set_cons_zero, List.set_cons_succ, i64_w, i32_w]
          rfl
        refine one_ (i := 8) (N := some 46) #[true, true, true, true, true, true, true, true, true, true, false, false, false, false, false, false, false, false, false, false, false] rfl rfl (one_of HT_.out (by kernel_rfl)) (by decide) (fun K hK => ?_)
        refine goes_ Try.func29 (by kernel_rfl) rfl #[.agg #[.int .i64 t770, .int .i64 t771, .int .i64 t772, .slice Ao38 t773.length co38], .int .i64 (wrap64 ((wrap64 (t750 - 1)) - t756)), .int .i64 t757] (by rfl) rfl rfl B.am ?_
        with_reducible refine (impl_PixelAt.calls t770 t771 t772 _ _ t773 (wrap64 ((wrap64 (t750 - 1)) - t756)) t757 t776 _ ?side1 ?side2 A30.out).mono ?_
        (case side1 => exact B.kc ((Kd.R_reads' HO775.out).2.2))
        (case side2 => exact (Kd.R_reads' HO775.out).2.1)
        rintro e w39 ⟨v777, rfl, ho0, hb⟩
        refine ⟨_, rfl, ?_⟩
        have n0_ := Aside0.mk (Kd.R_elder' (B.kr HO_6) (Kd.R_base ho0) hb)
        have n1_ := Aside0.mk (Kd.Q_elder' (B.kq HO_759003) (Kd.R_base ho0) hb)
        have n2_ := Aside0.mk (Kd.R_elder' (B.kr HO775) (Kd.R_base ho0) hb)
        have n3_ := Aside0.mk (Kd.R_lower (Kd.R_new' (Kd.R_new' (Kd.R_new' ho0 (Kd.R_lt (B.kr HO_6))) (Kd.Q_lt (B.kq HO_759003))) (Kd.R_lt (B.kr HO775))) (below_size (B.bl HB)))
        have n4_ := Aside0.mk (blk_below (B.kb BK758) hb)
        have n5_ := Aside0.mk (below_step (B.bl HB) hb)
        clear HO_6 HO_759003 HO775 BK758 HB
        have HO_6 := n0_
        have HO_759003 := n1_
        have HO775 := n2_
        have HO778 := n3_
        have BK758 := n4_
        have HB := n5_
        clear n0_ n1_ n2_ n3_ n4_ n5_
        (try clear hb)
        (try clear hb2)
        (try clear hk)
        (try clear hi)
        (try clear ho0)
        obtain ⟨Ao40, co40, eo40⟩ := Kd.R_slice HO778.out
        (first | subst eo40 | (injection eo40 with f1_ f2_ f3_; have f4_ := f1_.symm; have f5_ := f3_.symm; clear f1_ f2_ f3_; subst f4_; subst f5_))
        obtain ⟨Ao41, co41, eo41⟩ := Kd.R_slice HO_6.out
        (first | subst eo41 | (injection eo41 with f1_ f2_ f3_; have f4_ := f1_.symm; have f5_ := f3_.symm; clear f1_ f2_ f3_; subst f4_; subst f5_))
        refine hK.out _ _ ⟨B.bc BK758 0, B.bc BK758 1, B.bc BK758 2, B.bc BK758 3⟩ (fun hHeld => ?_)
        clear hK K
        refine norm_ (a' := ?_) ?_ ?_
        rotate_left
        · show Act.put _ (some 46) _ = _
          simp only [Act.put, List.setIfInBounds_toArray, List.set_cons_zero, List.set_cons_succ, i64_w, i32_w]
          rfl
        refine one_ (i := 10) (N := some 48) #[true, true, true, true, true, true, true, true, true, true, true, false, false, false, false, false, false, false, false, false, false] rfl rfl (one_of HT_.out (by kernel_rfl)) (by decide) (fun K hK => ?_)
        refine goes_ Try.func30 (by kernel_rfl) rfl #[.slice Ao40 t776.length co40, .slice Ao41 t759.length co41] (by rfl) rfl rfl B.am ?_
        with_reducible refine (laws_equalInts.calls kj4 _ _ t776 _ _ t759 true _ ?side1 ?side2 ?side3 ?side4 A31.out).mono ?_
        (case side1 => exact B.kc ((Kd.R_reads' HO778.out).2.2))
        (case side2 => exact (Kd.R_reads' HO778.out).2.1)
        (case side3 => exact B.kc ((Kd.R_reads' HO_6.out).2.2))
        (case side4 => exact (Kd.R_reads' HO_6.out).2.1)
        rintro e w' ⟨rfl, ⟨nd, rfl⟩⟩
        refine ⟨_, rfl, ?_⟩
        refine hK.out _ _ ⟨B.bc BK758 0, B.bc BK758 1, B.bc BK758 2, B.bc BK758 3⟩ (fun hHeld => ?_)
        clear hK K
        refine norm_ (a' := ?_) ?_ ?_
        rotate_left
        · show Act.put _ (some 48) _ = _
          simp only [Act.put, List.setIfInBounds_toArray, List.set_cons_zero, List.set_cons_succ, i64_w, i32_w]
          rfl
        refine pure_ (i := 11) (N := some 49) (v := ?_) (a' := ?_) #[true, true, true, true, true, true, true, true, true, true, true, true, false, false, false, false, false, false, false, false, false] rfl rfl (any_of HT_.out (by kernel_rfl)) (fun _ _ _ h => h) (Or.inl ⟨by rfl, ?_⟩) ?_ ?_
        rotate_left
        · intro w'
          go_simp
          with_reducible rfl
        rotate_left
        · simp only [Act.put, List.setIfInBounds_toArray, List.set_cons_zero, List.set_cons_succ, i64_w, i32_w]
          rfl
        refine pure_ (i := 14) (N := some 52) (v := ?_) (a' := ?_) #[true, true, true, true, true, true, true, true, true, true, true, true, false, false, true, false, false, false, false, false, false] rfl rfl (any_of HT_.out (by kernel_rfl)) (fun _ _ _ h => h) (Or.inl ⟨by rfl, ?_⟩) ?_ ?_
        rotate_left
        · intro w'
          go_simp
          with_reducible rfl
        rotate_left
        · simp only [Act.put, List.setIfInBounds_toArray, List.set_cons_zero, List.set_cons_succ, i64_w, i32_w]
          rfl
        refine pure_ (i := 15) (N := some 53) (v := ?_) (a' := ?_) #[true, true, true, true, true, true, true, true, true, true, true, true, false, false, true, true, false, false, false, false, false] rfl rfl (any_of HT_.out (by kernel_rfl)) (fun _ _ _ h => h) (Or.inl ⟨by rfl, ?_⟩) ?_ ?_
        rotate_left
        · intro w'
          go_simp
          with_reducible rfl
        rotate_left
        · simp only [Act.put, List.setIfInBounds_toArray, List.set_cons_zero, List.set_cons_succ, i64_w, i32_w]
          rfl
        refine pure_ (i := 17) (N := some 55) (v := ?_) (a' := ?_) #[true, true, true, true, true, true, true, true, true, true, true, true, false, false, true, true, false, true, false, false, false] rfl rfl (any_of HT_.out (by kernel_rfl)) (fun _ _ _ h => h) (Or.inl ⟨by rfl, ?_⟩) ?_ ?_
        rotate_left
        · intro w'
          go_simp
          with_reducible rfl
        rotate_left
        · simp only [Act.put, List.setIfInBounds_toArray, List.set_cons_zero, List.set_cons_succ, i64_w, i32_w]
          rfl
        refine take_ (i := 12) (N := some 50) (v := ?_) (a' := ?_) #[true, true, true, true, true, true, true, true, true, true, true, true, true, false, true, true, false, true, false, false, false] rfl rfl (take_ofW HT_.out HW_.out (by kernel_rfl)) (fun _ _ _ h => h) (Or.inl ⟨by rfl, ?_⟩) hHeld ?_ ?_
        rotate_left
        · rintro w' ⟨s0, s1, s2, s3⟩
          go_simp
          with_reducible rfl
        rotate_left
        · simp only [Act.put, List.setIfInBounds_toArray, List.set_cons_zero, List.set_cons_succ, i64_w, i32_w]
          rfl
        refine one_ (i := 13) (N := some 51) #[true, true, true, true, true, true, true, true, true, true, true, true, true, true, true, true, false, true, false, false, false] rfl rfl (one_of HT_.out (by kernel_rfl)) (by decide) (fun K hK => ?_)
        refine goes_ Try.func15 (by kernel_rfl) rfl #[.agg #[.int .i64 t750, .int .i64 t751, .int .i64 t752, .slice Ao9 t753.length co9]] (by rfl) rfl rfl B.am ?_
        with_reducible refine (impl_TransposeImage.calls t750 t751 t752 _ _ t753 t780 t781 t782 t783 _ ?side1 ?side2 A33.out).mono ?_
        (case side1 => exact B.kc ((Kd.Q_reads' HO_759003.out).2.2))
        (case side2 => exact (Kd.Q_reads' HO_759003.out).2.1)
        rintro e w42 ⟨v784, rfl, ho0, hb⟩
        refine ⟨_, rfl, ?_⟩
        have n0_ := Aside0.mk (Kd.R_elder' (B.kr HO_6) (Kd.R_base ho0) hb)
        have n1_ := Aside0.mk (Kd.Q_elder' (B.kq HO_759003) (Kd.R_base ho0) hb)
        have n2_ := Aside0.mk (Kd.R_elder' (B.kr HO775) (Kd.R_base ho0) hb)
        have n3_ := Aside0.mk (Kd.R_elder' (B.kr HO778) (Kd.R_base ho0) hb)
        have n4_ := Aside0.mk (Kd.R_lower (Kd.R_new' (Kd.R_new' (Kd.R_new' (Kd.R_new' ho0 (Kd.R_lt (B.kr HO_6))) (Kd.Q_lt (B.kq HO_759003))) (Kd.R_lt (B.kr HO775))) (Kd.R_lt (B.kr HO778))) (below_size (B.bl HB)))
        have n5_ := Aside0.mk (blk_below (B.kb BK758) hb)
        have n6_ := Aside0.mk (below_step (B.bl HB) hb)
        clear HO_6 HO_759003 HO775 HO778 BK758 HB
        have HO_6 := n0_
        have HO_759003 := n1_
        have HO775 := n2_
        have HO778 := n3_
        have HO785 := n4_
        have BK758 := n5_
        have HB := n6_
        clear n0_ n1_ n2_ n3_ n4_ n5_ n6_
        (try clear hb)
        (try clear hb2)
        (try clear hk)
        (try clear hi)
        (try clear ho0)
        obtain ⟨Ao43, co43, eo43⟩ := Kd.R_slice HO785.out
        (first | subst eo43 | (injection eo43 with f1_ f2_ f3_; have f4_ := f1_.symm; have f5_ := f3_.symm; clear f1_ f2_ f3_; subst f4_; subst f5_))
        refine hK.out _ _ ⟨B.bc BK758 0, B.bc BK758 1, B.bc BK758 2, B.bc BK758 3⟩ (fun hHeld => ?_)
        clear hK K
        refine norm_ (a' := ?_) ?_ ?_
        rotate_left
        · show Act.put _ (some 51) _ = _
          simp only [Act.put, List.setIfInBounds_toArray, List.set_cons_zero, List.set_cons_succ, i64_w, i32_w]
          rfl
        refine one_ (i := 16) (N := some 54) #[true, true, true, true, true, true, true, true, true, true, true, true, true, true, true, true, true, true, false, false, false] rfl rfl (one_of HT_.out (by kernel_rfl)) (by decide) (fun K hK => ?_)
        refine goes_ Try.func29 (by kernel_rfl) rfl #[.agg #[.int .i64 t780, .int .i64 t781, .int .i64 t782, .slice Ao43 t783.length co43], .int .i64 t757, .int .i64 t756] (by rfl) rfl rfl B.am ?_
        with_reducible refine (impl_PixelAt.calls t780 t781 t782 _ _ t783 t757 t756 t786 _ ?side1 ?side2 A34.out).mono ?_
        (case side1 => exact B.kc ((Kd.R_reads' HO785.out).2.2))
        (case side2 => exact (Kd.R_reads' HO785.out).2.1)
        rintro e w44 ⟨v787, rfl, ho0, hb⟩
        refine ⟨_, rfl, ?_⟩
        have n0_ := Aside0.mk (Kd.R_elder' (B.kr HO_6) (Kd.R_base ho0) hb)
        have n1_ := Aside0.mk (Kd.Q_elder' (B.kq HO_759003) (Kd.R_base ho0) hb)
        have n2_ := Aside0.mk (Kd.R_elder' (B.kr HO775) (Kd.R_base ho0) hb)
        have n3_ := Aside0.mk (Kd.R_elder' (B.kr HO778) (Kd.R_base ho0) hb)
        have n4_ := Aside0.mk (Kd.R_elder' (B.kr HO785) (Kd.R_base ho0) hb)
        have n5_ := Aside0.mk (Kd.R_lower (Kd.R_new' (Kd.R_new' (Kd.R_new' (Kd.R_new' (Kd.R_new' ho0 (Kd.R_lt (B.kr HO_6))) (Kd.Q_lt (B.kq HO_759003))) (Kd.R_lt (B.kr HO775))) (Kd.R_lt (B.kr HO778))) (Kd.R_lt (B.kr HO785))) (below_size (B.bl HB)))
        have n6_ := Aside0.mk (blk_below (B.kb BK758) hb)
        have n7_ := Aside0.mk (below_step (B.bl HB) hb)
        clear HO_6 HO_759003 HO775 HO778 HO785 BK758 HB
        have HO_6 := n0_
        have HO_759003 := n1_
        have HO775 := n2_
        have HO778 := n3_
        have HO785 := n4_
        have HO788 := n5_
        have BK758 := n6_
        have HB := n7_
        clear n0_ n1_ n2_ n3_ n4_ n5_ n6_ n7_
        (try clear hb)
        (try clear hb2)
        (try clear hk)
        (try clear hi)
        (try clear ho0)
        obtain ⟨Ao45, co45, eo45⟩ := Kd.R_slice HO788.out
        (first | subst eo45 | (injection eo45 with f1_ f2_ f3_; have f4_ := f1_.symm; have f5_ := f3_.symm; clear f1_ f2_ f3_; subst f4_; subst f5_))
        refine hK.out _ _ ⟨B.bc BK758 0, B.bc BK758 1, B.bc BK758 2, B.bc BK758 3⟩ (fun hHeld => ?_)
        clear hK K
        refine norm_ (a' := ?_) ?_ ?_
        rotate_left
        · show Act.put _ (some 54) _ = _
          simp only [Act.put, List.setIfInBounds_toArray, List.set_cons_zero, List.set_cons_succ, i64_w, i32_w]
          rfl
        refine one_ (i := 18) (N := some 56) #[true, true, true, true, true, true, true, true, true, true, true, true, true, true, true, true, true, true, true, false, false] rfl rfl (one_of HT_.out (by kernel_rfl)) (by decide) (fun K hK => ?_)
        refine goes_ Try.func30 (by kernel_rfl) rfl #[.slice Ao45 t786.length co45, .slice Ao41 t759.length co41] (by rfl) rfl rfl B.am ?_
        with_reducible refine (laws_equalInts.calls kj4 _ _ t786 _ _ t759 t789 _ ?side1 ?side2 ?side3 ?side4 A35.out).mono ?_
        (case side1 => exact B.kc ((Kd.R_reads' HO788.out).2.2))
        (case side2 => exact (Kd.R_reads' HO788.out).2.1)
        (case side3 => exact B.kc ((Kd.R_reads' HO_6.out).2.2))
        (case side4 => exact (Kd.R_reads' HO_6.out).2.1)
        rintro e w' ⟨rfl, ⟨nd, rfl⟩⟩
        refine ⟨_, rfl, ?_⟩
        refine hK.out _ _ ⟨B.bc BK758 0, B.bc BK758 1, B.bc BK758 2, B.bc BK758 3⟩ (fun hHeld => ?_)
        clear hK K
        refine norm_ (a' := ?_) ?_ ?_
        rotate_left
        · show Act.put _ (some 56) _ = _
          simp only [Act.put, List.setIfInBounds_toArray, List.set_cons_zero, List.set_cons_succ, i64_w, i32_w]
          rfl
        refine pure_ (i := 19) (N := some 57) (v := ?_) (a' := ?_) #[true, true, true, true, true, true, true, true, true, true, true, true, true, true, true, true, true, true, true, true, false] rfl rfl (any_of HT_.out (by kernel_rfl)) (fun _ _ _ h => h) (Or.inl ⟨by rfl, ?_⟩) ?_ ?_
        rotate_left
        · intro w'
          go_simp
          with_reducible rfl
        rotate_left
        · simp only [Act.put, List.setIfInBounds_toArray, List.set_cons_zero, List.set_cons_succ, i64_w, i32_w]
          rfl
        refine pure_ (i := 20) (N := some 2) (v := ?_) (a' := ?_) #[true, true, true, true, true, true, true, true, true, true, true, true, true, true, true, true, true, true, true, true, true] rfl rfl (any_of HT_.out (by kernel_rfl)) (fun _ _ _ h => h) (Or.inl ⟨by rfl, ?_⟩) ?_ ?_
        rotate_left
        · intro w'
          go_simp
          with_reducible rfl
        rotate_left
        · simp only [Act.put, List.setIfInBounds_toArray, List.set_cons_zero, List.set_cons_succ, i64_w, i32_w]
          rfl
        refine done_ (done_of HT_.out (by kernel_rfl)) ?_
        try go_wp2
        go_ret
        exact ⟨by first | rfl | (simp [errW_none, errW_some] <;> rfl) | (simp [*, errW_none, errW_some] <;> rfl), B.bl HB⟩
      replace c32 := Bool.eq_false_iff.mpr c32
      subst c32
      have H1 : (some false) = some r := by rw [if_neg (show ¬ (false = true) by decide)] at H; exact H
      clear H
      have H := H1
      clear H1
      obtain rfl := Option.some.inj H
      exact absurd ht_.out (by decide)

/-- THE ONE PURE STATEMENT of laws_FnMirrorPixels: yours. -/
def laws_FnMirrorPixels.Pure : Prop := ∀ (l0 : List Int), l0.length ≤ maxLen → l0.length * 1 ≤ 140737488351232 → (∀ x ∈ l0, (Lit.int .u8 x).wf = true) → ∃ k, laws_FnMirrorPixels.f k l0 = some true
theorem laws_FnMirrorPixels.walk (P : laws_FnMirrorPixels.Pure) (a0 : Option Addr) (len0 cap0 : Nat) (z0 : List Int) (w : World) (w0 : (a0 = none ∧ len0 = 0 ∧ cap0 = 0 ∧ z0 = []) ∨ ∃ x, a0 = some x ∧ len0 ≤ cap0 ∧ cap0 ≤ maxLen ∧ z0.length = cap0 ∧ (∀ i, i < z0.length → w.cell? (x.add i) = some (.int .u8 (z0.getD i 0))) ∧ ∀ n ∈ z0, (Lit.int .u8 n).wf = true) (y0 : len0 * 1 ≤ 140737488351232) :
    Calls Try.prog 9 #[.slice a0 len0 cap0] w fun e w' => e = .returned (.bool true) ∧ Below w.heap.size w w' := by
  obtain ⟨l0, rfl, hr0, hm0, hw0, hc0⟩ := ReadsInt.ofRowC w0
  obtain ⟨k, h⟩ := P l0 hm0 y0 hw0
  refine (laws_FnMirrorPixels.calls k _ _ l0 true w (Kd.C_of_reads (d := (0 : Int)) (h1 := fun _ => rfl) hr0) hc0 h ⟨rfl⟩).mono ?_
  rintro e w' ⟨rfl, hd⟩
  exact ⟨rfl, hd⟩

end Go.Proofs.Ytibbkaoghbmncaa.Q
