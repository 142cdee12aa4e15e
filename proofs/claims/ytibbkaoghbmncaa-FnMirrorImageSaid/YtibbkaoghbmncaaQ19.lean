-- Written by a program of this session (the kit's printer, with hand-proved contracts for the functions that it does not take).
import Derived.Test.YtibbkaoghbmncaaQ0
import Derived.Test.YtibbkaoghbmncaaQ3
import Derived.Test.YtibbkaoghbmncaaQ5
import Derived.Test.YtibbkaoghbmncaaQ7
import Derived.Test.YtibbkaoghbmncaaQ11
import Derived.Test.YtibbkaoghbmncaaQ12
namespace Go.Proofs.Ytibbkaoghbmncaa.Q
open Go.RowKit Go.Proofs.YtibbkaoghbmncaaW.PrintWords Go.Proofs.YtibbkaoghbmncaaW.PrintLast Go.Proofs.YtibbkaoghbmncaaW.PrintMore
attribute [local go_sem] max2_int min2_int max_two min_two max_three min_three max_four min_four   -- for this text's walks alone
set_option linter.unusedVariables false
set_option linter.unusedSimpArgs false

/-! ### spec_DrawMirrorImage: function 33 -/
def spec_DrawMirrorImage.f (k : Nat) (l0 : List Int) : Option (Int × Int × Int × List Int) := (spec_newReader.f l0).bind fun bt871 => ((spec_anyImage.f k bt871.1 bt871.2).bind fun bt874 => (some (bt874.1, bt874.2.1, bt874.2.2.1, bt874.2.2.2.1)))
theorem spec_DrawMirrorImage.mono : ∀ a0 k, LeO (spec_DrawMirrorImage.f k a0) (spec_DrawMirrorImage.f (k + 1) a0) := by
  intro a0 k
  unfold spec_DrawMirrorImage.f
  repeat' first
      | (with_reducible exact spec_anyImage.mono _ _ _)
      | (with_reducible exact LeO.refl _)
      | (with_reducible exact LeO.none _)
      | (with_reducible refine LeO.ite ?_ ?_)
      | (with_reducible refine LeO.bind ?_ (fun _ => ?_))
      | exact spec_anyImage.mono _ _ _
      | exact LeO.none _
      | refine LeO.ite ?_ ?_
      | refine LeO.bind ?_ (fun _ => ?_)
set_option maxHeartbeats 8000000 in
set_option maxRecDepth 100000 in
theorem spec_DrawMirrorImage.calls (k : Nat) (A0 : Option Addr) (c0 : Nat) (l0 : List Int) (r1 : Int) (r2 : Int) (r3 : Int) (r4 : List Int) (w : World) (hr0 : Kd.C (Kd.int .u8) w A0 l0.length l0) (hc0 : l0.length ≤ c0) (h : spec_DrawMirrorImage.f k l0 = some (r1, r2, r3, r4)) :
    Calls Try.prog 33 #[.slice A0 l0.length c0] w fun e w' => ∃ v3_ : Value, e = .returned (.agg #[.int .i64 r1, .int .i64 r2, .int .i64 r3, v3_]) ∧ Kd.Q (Kd.int .i64) 3 w' w.heap.size (fun _ => True) v3_ r4 ∧ Below w.heap.size w w' := by
  have hu26 := Try.underlying26
  have HR0 := Aside0.mk hr0
  have HC0 := Aside0.mk hc0
  clear hr0 hc0
  have HB := Aside0.mk (Below.refl w.heap.size w)
  have H : ((spec_newReader.f l0).bind fun bt871 => ((spec_anyImage.f k bt871.1 bt871.2).bind fun bt874 => (some (bt874.1, bt874.2.1, bt874.2.2.1, bt874.2.2.2.1)))) = some (r1, r2, r3, r4) := h
  clear h
  replace H := Option.bind_eq_some_iff.mp H
  obtain ⟨⟨t871, t872⟩, A20, H⟩ := H
  replace H : ((spec_anyImage.f k t871 t872).bind fun bt874 => (some (bt874.1, bt874.2.1, bt874.2.2.1, bt874.2.2.2.1))) = some (r1, r2, r3, r4) := H
  have A2 := Aside0.mk A20
  clear A20
  replace H := Option.bind_eq_some_iff.mp H
  obtain ⟨⟨t874, t875, t876, t877, t880⟩, A30, H⟩ := H
  replace H : (some (t874, t875, t876, t877)) = some (r1, r2, r3, r4) := H
  have A3 := Aside0.mk A30
  clear A30
  simp only [Option.some.injEq, Prod.mk.injEq] at H
  obtain ⟨rfl, rfl, rfl, rfl⟩ := H
  go_enter Try.func33, Try.ntmps33
  go_wp2_with (first | ((with_reducible refine gate_dst (N := 2) rfl ?_); refine box_event ?hg (N := 2) ?hd (cs := #[.int .i64 0, .int .i64 0, .int .i64 0, .slice none 0 0]) (t := 26) ?hr ?_; (case hd => rfl); (case hg => rfl); (case hr => first | (go_simp; done) | (go_simp; rfl)); intro gb870 hg w4 hbox hb; have n0_ := Aside0.mk (below_step (B.bl HB) hb); have n1_ := Aside0.mk (hbox); have n2_ := Aside0.mk (B.nle hg (below_size (B.bl HB))); have n3_ := Aside0.mk (B.nle hg (below_size (B.bl HB))); clear HB; have HB := n0_; have BK870 := n1_; have GW870 := n2_; have GE870 := n3_; clear n0_ n1_ n2_ n3_; clear hb hbox hg) | ((with_reducible refine gate_callee (f := 48) rfl ?_); refine goesL_ (some 4) rfl rfl Try.func48 (by kernel_rfl) rfl #[.slice A0 l0.length c0] rfl B.am ?_; (with_reducible refine (spec_newReader.calls _ _ l0 t871 t872 w _ ?side1 ?side2 ?side3 A2.out).mono ?_); (case side1 => exact B.bl HB); (case side2 => exact HR0.out); (case side3 => exact HC0.out); rintro e w5 ⟨g873, rfl, hi, hb, hb2⟩; refine ⟨_, rfl, ?_⟩; have n0_ := Aside0.mk (blk_below (B.kb BK870) hb2); have n1_ := Aside0.mk (hb); have n2_ := Aside0.mk (hi); have n3_ := Aside0.mk (IsS67.ne_blk hi (blk_below (B.kb BK870) hb2) (by decide)); have n4_ := Aside0.mk (Ne.symm (IsS67.ne_blk hi (blk_below (B.kb BK870) hb2) (by decide))); clear BK870 HB; have BK870 := n0_; have HB := n1_; have HI873 := n2_; have NB873_870 := n3_; have NB870_873 := n4_; clear n0_ n1_ n2_ n3_ n4_; (try clear hb); (try clear hb2); (try clear hk); (try clear hi)) | ((with_reducible refine gate_callee (f := 47) rfl ?_); refine goesL_ (some 5) rfl rfl Try.func47 (by kernel_rfl) rfl #[.pointer (some ⟨g873, 0, none⟩)] rfl B.am ?_; (with_reducible refine (spec_anyImage.calls k g873 t871 t872 t874 t875 t876 t877 t880 w _ ?side1 ?side2 A3.out).mono ?_); (case side1 => exact B.st HI873); (case side2 => exact B.bs HB); rintro e w6 ⟨v878, rfl, ho0, hi, hb, hk⟩; refine ⟨_, rfl, ?_⟩; have n0_ := Aside0.mk (KeepBut.blk hk (g' := gb870) (o := .cells #[.int .i64 0, .int .i64 0, .int .i64 0, .slice none 0 0] 26 (0, 0)) (B.kb BK870) NB870_873.out (by simp)); have n1_ := Aside0.mk (Kd.Q_lower ho0 (below_size (B.bs HB))); have n2_ := Aside0.mk (hb); have n3_ := Aside0.mk (hi); clear BK870 HB HI873; have BK870 := n0_; have HO879 := n1_; have HB := n2_; have HI873 := n3_; clear n0_ n1_ n2_ n3_; (try clear hb); (try clear hb2); (try clear hk); (try clear hi); (try clear ho0); have hnb7 := NB870_873.out; have hnc7 := NB873_870.out; have hcz8_0 : w6.cell? ⟨gb870, 0, none⟩ = some (.int .i64 0) := B.bc BK870 0; have hcz8_1 : w6.cell? ⟨gb870, 1, none⟩ = some (.int .i64 0) := B.bc BK870 1; have hcz8_2 : w6.cell? ⟨gb870, 2, none⟩ = some (.int .i64 0) := B.bc BK870 2; have hcz8_3 : w6.cell? ⟨gb870, 3, none⟩ = some (.slice none 0 0) := B.bc BK870 3; have hfz8_0 := blk_frozen BK870.out 0; have hfz8_1 := blk_frozen BK870.out 1; have hfz8_2 := blk_frozen BK870.out 2; have hfz8_3 := blk_frozen BK870.out 3; obtain ⟨Ao9, co9, eo9, _⟩ := Kd.Q_slice HO879.out; subst eo9))
  refine bodyPost_ret (results_cell_row rfl _ _ gb870 26 #[.int .i64 t874, .int .i64 t875, .int .i64 t876, .slice Ao9 t877.length co9] (0, 0) _ rfl (B.kb0 (B.bp4 BK870)) Try.underlying26 rfl (by kernel_rfl)) rfl ?_
  exact ⟨_, by first | rfl | (simp [errW_none, errW_some] <;> rfl) | (simp [*, errW_none, errW_some] <;> rfl), by (with_reducible repeat (first | apply Kd.Q_alloc | apply Kd.Q_drewN | apply Kd.Q_drew)); exact Kd.Q_mono (Kd.Q_far (p := ⟨gb870, 3, none⟩) (Kd.Q_far (p := ⟨gb870, 2, none⟩) (Kd.Q_far (p := ⟨gb870, 1, none⟩) (Kd.Q_far (p := ⟨gb870, 0, none⟩) (Kd.Q_types HO879.out BK870.out (by decide)) (fun _ hk => hk.2) (.int .i64 t874)) (fun _ hk => hk.2) (.int .i64 t875)) (fun _ hk => hk.2) (.int .i64 t876)) (fun _ hk => hk.2) (.slice Ao9 t877.length co9)) (fun _ hk => trivial), B.bs HB⟩

/-! ### laws_FnMirrorImage: function 11 -/
def laws_FnMirrorImage.j0 : Nat → Bool → Int → Int → Int → List Int → Int → Int → Int → List Int → Option (Bool)
  | 0, _, _, _, _, _, _, _, _, _ => none
  | k + 1, x21, x888000, x888001, x888002, x888003, x895000, x895001, x895002, x895003 => if x21 = true then ((spec_MirrorImage.f k x888000 x888001 x888002 x888003).bind fun bt902 => ((laws_equalImage.f k x895000 x895001 x895002 x895003 bt902.1 bt902.2.1 bt902.2.2.1 bt902.2.2.2).bind fun t908 => (some t908))) else ((impl_MirrorImage.f x895000 x895001 x895002 x895003).bind fun bt909 => ((laws_equalImage.f k bt909.1 bt909.2.1 bt909.2.2.1 bt909.2.2.2 x888000 x888001 x888002 x888003).bind fun t915 => (if t915 = true then ((impl_PixelAt.f x895000 x895001 x895002 x895003 (wrap64 (x888000 - 1)) 0).bind fun t916 => ((impl_PixelAt.f x888000 x888001 x888002 x888003 0 0).bind fun t919 => ((laws_equalInts.f k t916 t919).bind fun t922 => (some t922)))) else (some false))))
def laws_FnMirrorImage.f (k : Nat) (l0 : List Int) : Option (Bool) := if (l0.length : Int) > 1048576 then (some true) else ((spec_DrawMirrorImage.f k l0).bind fun bt881 => ((impl_MirrorImage.f bt881.1 bt881.2.1 bt881.2.2.1 bt881.2.2.2).bind fun bt888 => ((spec_MirrorImage.f k bt881.1 bt881.2.1 bt881.2.2.1 bt881.2.2.2).bind fun bt895 => ((laws_equalImage.f k bt888.1 bt888.2.1 bt888.2.2.1 bt888.2.2.2 bt895.1 bt895.2.1 bt895.2.2.1 bt895.2.2.2).bind fun t901 => (if t901 = true then (laws_FnMirrorImage.j0 k (bt888.1 == 0) bt881.1 bt881.2.1 bt881.2.2.1 bt881.2.2.2 bt888.1 bt888.2.1 bt888.2.2.1 bt888.2.2.2) else (laws_FnMirrorImage.j0 k true bt881.1 bt881.2.1 bt881.2.2.1 bt881.2.2.2 bt888.1 bt888.2.1 bt888.2.2.1 bt888.2.2.2))))))
theorem laws_FnMirrorImage.mono_l : ∀ k, (∀ y0 y1 y2 y3 y4 y5 y6 y7 y8, LeO (laws_FnMirrorImage.j0 k y0 y1 y2 y3 y4 y5 y6 y7 y8) (laws_FnMirrorImage.j0 (k + 1) y0 y1 y2 y3 y4 y5 y6 y7 y8))
  | 0 => fun _ _ _ _ _ _ _ _ _ r h => by simp [laws_FnMirrorImage.j0] at h
  | k + 1 => by
    have ih0 := laws_FnMirrorImage.mono_l k
    · intro y0 y1 y2 y3 y4 y5 y6 y7 y8
      unfold laws_FnMirrorImage.j0
      repeat' first
      | (with_reducible exact ih0 _ _ _ _ _ _ _ _ _)
      | (with_reducible exact laws_equalImage.mono _ _ _ _ _ _ _ _ _)
      | (with_reducible exact laws_equalInts.mono _ _ _)
      | (with_reducible exact spec_DrawMirrorImage.mono _ _)
      | (with_reducible exact spec_MirrorImage.mono _ _ _ _ _)
      | (with_reducible exact LeO.refl _)
      | (with_reducible exact LeO.none _)
      | (with_reducible refine LeO.ite ?_ ?_)
      | (with_reducible refine LeO.bind ?_ (fun _ => ?_))
      | exact ih0 _ _ _ _ _ _ _ _ _
      | exact laws_equalImage.mono _ _ _ _ _ _ _ _ _
      | exact laws_equalInts.mono _ _ _
      | exact spec_DrawMirrorImage.mono _ _
      | exact spec_MirrorImage.mono _ _ _ _ _
      | exact LeO.none _
      | refine LeO.ite ?_ ?_
      | refine LeO.bind ?_ (fun _ => ?_)
theorem laws_FnMirrorImage.mono : ∀ a0 k, LeO (laws_FnMirrorImage.f k a0) (laws_FnMirrorImage.f (k + 1) a0) := by
  intro a0 k
  have ih0 := laws_FnMirrorImage.mono_l k
  unfold laws_FnMirrorImage.f
  repeat' first
      | (with_reducible exact ih0 _ _ _ _ _ _ _ _ _)
      | (with_reducible exact laws_equalImage.mono _ _ _ _ _ _ _ _ _)
      | (with_reducible exact laws_equalInts.mono _ _ _)
      | (with_reducible exact spec_DrawMirrorImage.mono _ _)
      | (with_reducible exact spec_MirrorImage.mono _ _ _ _ _)
      | (with_reducible exact LeO.refl _)
      | (with_reducible exact LeO.none _)
      | (with_reducible refine LeO.ite ?_ ?_)
      | (with_reducible refine LeO.bind ?_ (fun _ => ?_))
      | exact ih0 _ _ _ _ _ _ _ _ _
      | exact laws_equalImage.mono _ _ _ _ _ _ _ _ _
      | exact laws_equalInts.mono _ _ _
      | exact spec_DrawMirrorImage.mono _ _
      | exact spec_MirrorImage.mono _ _ _ _ _
      | exact LeO.none _
      | refine LeO.ite ?_ ?_
      | refine LeO.bind ?_ (fun _ => ?_)
def laws_FnMirrorImage.T5 : Bool × List (List Nat × List Nat) := (true, [([], []), ([], []), ([1], [1]), ([0, 2, 2], [0, 2]), ([3], [3]), ([4, 3], [4]), ([5], [5]), ([6, 5], [5, 6]), ([7, 5], [5, 7]), ([5, 8], [5, 8])])
def laws_FnMirrorImage.B5 : List Nat := [0, 0, 2, 7, 15, 31, 63, 127, 255, 511]
theorem laws_FnMirrorImage.tab5 : rtab .any (opsOf Try.f11 5) = laws_FnMirrorImage.T5 := by kernel_rfl
theorem laws_FnMirrorImage.bits5 : waitsOk laws_FnMirrorImage.T5.2 laws_FnMirrorImage.B5 = true := by kernel_rfl
def laws_FnMirrorImage.T7 : Bool × List (List Nat × List Nat) := (true, [([], []), ([0], [0]), ([], []), ([1, 2, 1], [1, 2]), ([3, 3], [3]), ([4], [4]), ([4], [4]), ([6, 4], [4, 6]), ([7, 4], [4, 7]), ([5, 8, 4, 4], [4, 5, 8]), ([4], [4]), ([10, 9, 4], [4, 10]), ([9, 11, 11, 4], [4, 9, 11]), ([4, 12], [4, 12]), ([13, 12, 0, 1, 2, 3, 4, 5, 6, 7, 8, 9, 10, 11, 12, 13], [13])])
def laws_FnMirrorImage.B7 : List Nat := [0, 1, 0, 7, 15, 31, 31, 95, 223, 511, 31, 2047, 4095, 8191, 16383]
theorem laws_FnMirrorImage.tab7 : rtab .any (opsOf Try.f11 7) = laws_FnMirrorImage.T7 := by kernel_rfl
theorem laws_FnMirrorImage.bits7 : waitsOk laws_FnMirrorImage.T7.2 laws_FnMirrorImage.B7 = true := by kernel_rfl
set_option maxHeartbeats 8000000 in
set_option maxRecDepth 100000 in
theorem laws_FnMirrorImage.calls (k : Nat) (A0 : Option Addr) (c0 : Nat) (l0 : List Int) (r : Bool) (w : World) (hr0 : Kd.C (Kd.int .u8) w A0 l0.length l0) (hc0 : l0.length ≤ c0) (h : laws_FnMirrorImage.f k l0 = some r) (ht_ : Aside0 (r = true)) :
    Calls Try.prog 11 #[.slice A0 l0.length c0] w fun e w' => e = .returned (.bool r) ∧ Below w.heap.size w w' := by
  have hu26 := Try.underlying26
  have HR0 := Aside0.mk hr0
  have HC0 := Aside0.mk hc0
  clear hr0 hc0
  have HB := Aside0.mk (Below.refl w.heap.size w)
  have H : (if (l0.length : Int) > 1048576 then (some true) else ((spec_DrawMirrorImage.f k l0).bind fun bt881 => ((impl_MirrorImage.f bt881.1 bt881.2.1 bt881.2.2.1 bt881.2.2.2).bind fun bt888 => ((spec_MirrorImage.f k bt881.1 bt881.2.1 bt881.2.2.1 bt881.2.2.2).bind fun bt895 => ((laws_equalImage.f k bt888.1 bt888.2.1 bt888.2.2.1 bt888.2.2.2 bt895.1 bt895.2.1 bt895.2.2.1 bt895.2.2.2).bind fun t901 => (if t901 = true then (laws_FnMirrorImage.j0 k (bt888.1 == 0) bt881.1 bt881.2.1 bt881.2.2.1 bt881.2.2.2 bt888.1 bt888.2.1 bt888.2.2.1 bt888.2.2.2) else (laws_FnMirrorImage.j0 k true bt881.1 bt881.2.1 bt881.2.2.1 bt881.2.2.2 bt888.1 bt888.2.1 bt888.2.2.1 bt888.2.2.2))))))) = some r := h
  clear h
  by_cases c2 : (l0.length : Int) > 1048576
  · rw [if_pos c2] at H
    have c2b0 : decide (1048576 < (l0.length : Int)) = true := decide_eq_true c2
    have c2b1 : decide (1048576 < l0.length) = true := decide_eq_true (by omega)
    clear c2
    obtain rfl := Option.some.inj H
    simp only [Option.some.injEq, Prod.mk.injEq] at H
    obtain ⟨rfl⟩ := H
    go_enter Try.func11, Try.ntmps11
    go_wp2
    go_ret
    exact ⟨by first | rfl | (simp [errW_none, errW_some] <;> rfl) | (simp [*, errW_none, errW_some] <;> rfl), B.bl HB⟩
  rw [if_neg c2] at H
  have c2b0 : decide (1048576 < (l0.length : Int)) = false := decide_eq_false c2
  have c2b1 : decide (1048576 < l0.length) = false := decide_eq_false (by omega)
  clear c2
  replace H := Option.bind_eq_some_iff.mp H
  obtain ⟨⟨t881, t882, t883, t884⟩, A30, H⟩ := H
  replace H : ((impl_MirrorImage.f t881 t882 t883 t884).bind fun bt888 => ((spec_MirrorImage.f k t881 t882 t883 t884).bind fun bt895 => ((laws_equalImage.f k bt888.1 bt888.2.1 bt888.2.2.1 bt888.2.2.2 bt895.1 bt895.2.1 bt895.2.2.1 bt895.2.2.2).bind fun t901 => (if t901 = true then (laws_FnMirrorImage.j0 k (bt888.1 == 0) t881 t882 t883 t884 bt888.1 bt888.2.1 bt888.2.2.1 bt888.2.2.2) else (laws_FnMirrorImage.j0 k true t881 t882 t883 t884 bt888.1 bt888.2.1 bt888.2.2.1 bt888.2.2.2))))) = some r := H
  have A3 := Aside0.mk A30
  clear A30
  replace H := Option.bind_eq_some_iff.mp H
  obtain ⟨⟨t888, t889, t890, t891⟩, A40, H⟩ := H
  replace H : ((spec_MirrorImage.f k t881 t882 t883 t884).bind fun bt895 => ((laws_equalImage.f k t888 t889 t890 t891 bt895.1 bt895.2.1 bt895.2.2.1 bt895.2.2.2).bind fun t901 => (if t901 = true then (laws_FnMirrorImage.j0 k (t888 == 0) t881 t882 t883 t884 t888 t889 t890 t891) else (laws_FnMirrorImage.j0 k true t881 t882 t883 t884 t888 t889 t890 t891)))) = some r := H
  have A4 := Aside0.mk A40
  clear A40
  have HC5 := Aside0.mk H
  clear H
  go_enter Try.func11, Try.ntmps11
  go_upto_region 5 with (first | ((with_reducible refine gate_callee (f := 33) rfl ?_); refine goesL_ (some 9) rfl rfl Try.func33 (by kernel_rfl) rfl #[.slice A0 l0.length c0] rfl B.am ?_; (with_reducible refine (spec_DrawMirrorImage.calls k _ _ l0 t881 t882 t883 t884 _ ?side1 ?side2 A3.out).mono ?_); (case side1 => exact B.kc (HR0.out)); (case side2 => exact HC0.out); rintro e w6 ⟨v885, rfl, ho0, hb⟩; refine ⟨_, rfl, ?_⟩; have n0_ := Aside0.mk (Kd.Q_lower ho0 (below_size (B.bl HB))); have n1_ := Aside0.mk (below_step (B.bl HB) hb); clear HB; have HO886 := n0_; have HB := n1_; clear n0_ n1_; (try clear hb); (try clear hb2); (try clear hk); (try clear hi); (try clear ho0)) | ((with_reducible refine gate_dst (N := 3) rfl ?_); refine box_event ?hg (N := 3) ?hd (cs := #[.int .i64 0, .int .i64 0, .int .i64 0, .slice none 0 0]) (t := 26) ?hr ?_; (case hd => rfl); (case hg => rfl); (case hr => first | (go_simp; done) | (go_simp; rfl)); intro gb887 hg w7 hbox hb; have n0_ := Aside0.mk (Kd.Q_below (B.kq HO886) hb); have n1_ := Aside0.mk (below_step (B.bl HB) hb); have n2_ := Aside0.mk (hbox); have n3_ := Aside0.mk (B.nle hg (below_size (B.bl HB))); have n4_ := Aside0.mk (B.nle hg (below_size (B.bl HB))); clear HO886 HB; have HO886 := n0_; have HB := n1_; have BK887 := n2_; have GW887 := n3_; have GE887 := n4_; clear n0_ n1_ n2_ n3_ n4_; clear hb hbox hg; have hcz8_0 : w7.cell? ⟨gb887, 0, none⟩ = some (.int .i64 0) := B.bc BK887 0; have hcz8_1 : w7.cell? ⟨gb887, 1, none⟩ = some (.int .i64 0) := B.bc BK887 1; have hcz8_2 : w7.cell? ⟨gb887, 2, none⟩ = some (.int .i64 0) := B.bc BK887 2; have hcz8_3 : w7.cell? ⟨gb887, 3, none⟩ = some (.slice none 0 0) := B.bc BK887 3; have hfz8_0 := blk_frozen BK887.out 0; have hfz8_1 := blk_frozen BK887.out 1; have hfz8_2 := blk_frozen BK887.out 2; have hfz8_3 := blk_frozen BK887.out 3; obtain ⟨Ao9, co9, eo9, _⟩ := Kd.Q_slice HO886.out; subst eo9) | ((with_reducible refine gate_callee (f := 21) rfl ?_); refine goesL_ (some 11) rfl rfl Try.func21 (by kernel_rfl) rfl #[.agg #[.int .i64 t881, .int .i64 t882, .int .i64 t883, .slice Ao9 t884.length co9]] rfl B.am ?_; (with_reducible refine (impl_MirrorImage.calls t881 t882 t883 _ _ t884 t888 t889 t890 t891 _ ?side1 ?side2 A4.out).mono ?_); (case side1 => refine (Kd.Q_reads' (e := 3) (base := w.heap.size) (ok := fun k_ => True) (n := t884.length) (c := co9) ?_).2.2; exact (by (with_reducible repeat (first | apply Kd.Q_alloc | apply Kd.Q_drewN | apply Kd.Q_drew)); exact (Kd.Q_mono (Kd.Q_far (p := ⟨gb887, 3, none⟩) (Kd.Q_far (p := ⟨gb887, 2, none⟩) (Kd.Q_far (p := ⟨gb887, 1, none⟩) (Kd.Q_far (p := ⟨gb887, 0, none⟩) (Kd.Q_types HO886.out BK887.out (by decide)) (fun _ hk => hk.2) (.int .i64 t881)) (fun _ hk => hk.2) (.int .i64 t882)) (fun _ hk => hk.2) (.int .i64 t883)) (fun _ hk => hk.2) (.slice Ao9 t884.length co9)) (fun _ h_ => h_.1)))); (case side2 => exact (Kd.Q_reads' HO886.out).2.1); rintro e w10 ⟨v892, rfl, ho0, hb⟩; refine ⟨_, rfl, ?_⟩; have n0_ := Aside0.mk (Kd.Q_elder' (by (with_reducible repeat (first | apply Kd.Q_alloc | apply Kd.Q_drewN | apply Kd.Q_drew)); exact (Kd.Q_mono (Kd.Q_far (p := ⟨gb887, 3, none⟩) (Kd.Q_far (p := ⟨gb887, 2, none⟩) (Kd.Q_far (p := ⟨gb887, 1, none⟩) (Kd.Q_far (p := ⟨gb887, 0, none⟩) (Kd.Q_types HO886.out BK887.out (by decide)) (fun _ hk => hk.2) (.int .i64 t881)) (fun _ hk => hk.2) (.int .i64 t882)) (fun _ hk => hk.2) (.int .i64 t883)) (fun _ hk => hk.2) (.slice Ao9 t884.length co9)) (fun _ h_ => h_.1))) (Kd.R_base ho0) hb); have n1_ := Aside0.mk (Kd.R_lower (Kd.R_new' ho0 (Kd.Q_lt (by (with_reducible repeat (first | apply Kd.Q_alloc | apply Kd.Q_drewN | apply Kd.Q_drew)); exact (Kd.Q_mono (Kd.Q_far (p := ⟨gb887, 3, none⟩) (Kd.Q_far (p := ⟨gb887, 2, none⟩) (Kd.Q_far (p := ⟨gb887, 1, none⟩) (Kd.Q_far (p := ⟨gb887, 0, none⟩) (Kd.Q_types HO886.out BK887.out (by decide)) (fun _ hk => hk.2) (.int .i64 t881)) (fun _ hk => hk.2) (.int .i64 t882)) (fun _ hk => hk.2) (.int .i64 t883)) (fun _ hk => hk.2) (.slice Ao9 t884.length co9)) (fun _ h_ => h_.1))))) (below_size (B.bl HB))); have n2_ := Aside0.mk (blk_below (g := gb887) (o := .cells #[.int .i64 t881, .int .i64 t882, .int .i64 t883, .slice Ao9 t884.length co9] 26 (0, 0)) (B.kb0 (B.bp4 BK887)) hb); have n3_ := Aside0.mk (below_step (B.bl HB) hb); clear HO886 BK887 HB; have HO886 := n0_; have HO893 := n1_; have BK887 := n2_; have HB := n3_; clear n0_ n1_ n2_ n3_; (try clear hb); (try clear hb2); (try clear hk); (try clear hi); (try clear ho0)) | ((with_reducible refine gate_dst (N := 4) rfl ?_); refine box_event ?hg (N := 4) ?hd (cs := #[.int .i64 0, .int .i64 0, .int .i64 0, .slice none 0 0]) (t := 26) ?hr ?_; (case hd => rfl); (case hg => rfl); (case hr => first | (go_simp; done) | (go_simp; rfl)); intro gb894 hg w11 hbox hb; have n0_ := Aside0.mk (Kd.Q_below (B.kq HO886) hb); have n1_ := Aside0.mk (Kd.R_below (B.kr HO893) hb); have n2_ := Aside0.mk (blk_below (B.kb BK887) hb); have n3_ := Aside0.mk (below_step (B.bl HB) hb); have n4_ := Aside0.mk (hbox); have n5_ := Aside0.mk (B.nle hg (below_size (B.bl HB))); have n6_ := Aside0.mk (B.nle hg (below_size (B.bl HB))); have n7_ := Aside0.mk (B.nlt hg (blk_lt (B.kb BK887))); have n8_ := Aside0.mk (B.ngt hg (blk_lt (B.kb BK887))); clear HO886 HO893 BK887 HB; have HO886 := n0_; have HO893 := n1_; have BK887 := n2_; have HB := n3_; have BK894 := n4_; have GW894 := n5_; have GE894 := n6_; have NB887_894 := n7_; have NB894_887 := n8_; clear n0_ n1_ n2_ n3_ n4_ n5_ n6_ n7_ n8_; clear hb hbox hg; have hnb12 := NB894_887.out; have hnc12 := NB887_894.out; have hcz13_0 : w11.cell? ⟨gb894, 0, none⟩ = some (.int .i64 0) := B.bc BK894 0; have hcz13_1 : w11.cell? ⟨gb894, 1, none⟩ = some (.int .i64 0) := B.bc BK894 1; have hcz13_2 : w11.cell? ⟨gb894, 2, none⟩ = some (.int .i64 0) := B.bc BK894 2; have hcz13_3 : w11.cell? ⟨gb894, 3, none⟩ = some (.slice none 0 0) := B.bc BK894 3; have hfz13_0 := blk_frozen BK894.out 0; have hfz13_1 := blk_frozen BK894.out 1; have hfz13_2 := blk_frozen BK894.out 2; have hfz13_3 := blk_frozen BK894.out 3; obtain ⟨Ao14, co14, eo14⟩ := Kd.R_slice HO893.out; subst eo14))
  (try simp only [Act.put, List.setIfInBounds_toArray, List.set_cons_zero, List.set_cons_succ])
  go_cut [21] (fun v21 wc => ∃ (kq : Nat) (x21_4 : Bool), v21 = .bool x21_4 ∧ Aside0 (laws_FnMirrorImage.j0 kq x21_4 t881 t882 t883 t884 t888 t889 t890 t891 = some r) ∧ Aside0 (kq ≤ k) ∧ Aside0 (Kd.Q (Kd.int .i64) 3 wc w.heap.size (fun k_ => some k_ ≠ ((.slice Ao14 t891.length co14) : Value).ownBlock) (.slice Ao9 t884.length co9) t884) ∧ Aside0 (Kd.Q (Kd.int .i64) 3 wc w.heap.size (fun k_ => some k_ ≠ ((.slice Ao9 t884.length co9) : Value).ownBlock) (.slice Ao14 t891.length co14) t891) ∧ Aside0 (wc.heap[gb887]? = some (.cells #[.int .i64 t881, .int .i64 t882, .int .i64 t883, (.slice Ao9 t884.length co9)] 26 (0, 0))) ∧ Aside0 (wc.heap[gb894]? = some (.cells #[.int .i64 t888, .int .i64 t889, .int .i64 t890, (.slice Ao14 t891.length co14)] 26 (0, 0))) ∧ Aside0 (Below w.heap.size w wc))
  case first =>
    have H := HC5.out
    clear HC5
    replace H := Option.bind_eq_some_iff.mp H
    obtain ⟨⟨t895, t896, t897, t898⟩, A150, H⟩ := H
    replace H : ((laws_equalImage.f k t888 t889 t890 t891 t895 t896 t897 t898).bind fun t901 => (if t901 = true then (laws_FnMirrorImage.j0 k (t888 == 0) t881 t882 t883 t884 t888 t889 t890 t891) else (laws_FnMirrorImage.j0 k true t881 t882 t883 t884 t888 t889 t890 t891))) = some r := H
    have A15 := Aside0.mk A150
    clear A150
    replace H := Option.bind_eq_some_iff.mp H
    obtain ⟨t901, A160, H⟩ := H
    replace H : (if t901 = true then (laws_FnMirrorImage.j0 k (t888 == 0) t881 t882 t883 t884 t888 t889 t890 t891) else (laws_FnMirrorImage.j0 k true t881 t882 t883 t884 t888 t889 t890 t891)) = some r := H
    have A16 := Aside0.mk A160
    clear A160
    by_cases c17 : t901 = true
    · subst c17
      have H1 : (laws_FnMirrorImage.j0 k (t888 == 0) t881 t882 t883 t884 t888 t889 t890 t891) = some r := by rw [if_pos rfl] at H; exact H
      clear H
      have H := H1
      clear H1
      have H' := Aside0.mk H
      clear H
      try go_wp2
      have n0_ : Aside0 (Kd.Q (Kd.int .i64) 3 ((((w11.setCell ⟨gb894, 0, none⟩ (.int .i64 t888)).setCell ⟨gb894, 1, none⟩ (.int .i64 t889)).setCell ⟨gb894, 2, none⟩ (.int .i64 t890)).setCell ⟨gb894, 3, none⟩ (.slice Ao14 t891.length co14)) w.heap.size (fun k_ => some k_ ≠ (.slice Ao14 t891.length co14 : Value).ownBlock) (.slice Ao9 t884.length co9) t884) := ⟨by (with_reducible repeat (first | apply Kd.Q_alloc | apply Kd.Q_drewN | apply Kd.Q_drew)); exact Kd.Q_mono (Kd.Q_far (p := ⟨gb894, 3, none⟩) (Kd.Q_far (p := ⟨gb894, 2, none⟩) (Kd.Q_far (p := ⟨gb894, 1, none⟩) (Kd.Q_far (p := ⟨gb894, 0, none⟩) (Kd.Q_types HO886.out BK894.out (by decide)) (fun _ hk => hk.2) (.int .i64 t888)) (fun _ hk => hk.2) (.int .i64 t889)) (fun _ hk => hk.2) (.int .i64 t890)) (fun _ hk => hk.2) (.slice Ao14 t891.length co14)) (fun _ hk => hk.1.2)⟩
      have n1_ : Aside0 (Kd.R (Kd.int .i64) 3 ((((w11.setCell ⟨gb894, 0, none⟩ (.int .i64 t888)).setCell ⟨gb894, 1, none⟩ (.int .i64 t889)).setCell ⟨gb894, 2, none⟩ (.int .i64 t890)).setCell ⟨gb894, 3, none⟩ (.slice Ao14 t891.length co14)) w.heap.size (fun k_ => some k_ ≠ (.slice Ao9 t884.length co9 : Value).ownBlock) (.slice Ao14 t891.length co14) t891) := ⟨B.kr0 (Kd.R_mono (B.rf4 HO893 BK894) (fun _ hk => hk.1.2))⟩
      have n2_ : Aside0 (((((w11.setCell ⟨gb894, 0, none⟩ (.int .i64 t888)).setCell ⟨gb894, 1, none⟩ (.int .i64 t889)).setCell ⟨gb894, 2, none⟩ (.int .i64 t890)).setCell ⟨gb894, 3, none⟩ (.slice Ao14 t891.length co14)).heap[gb887]? = some (.cells #[.int .i64 t881, .int .i64 t882, .int .i64 t883, .slice Ao9 t884.length co9] 26 (0, 0))) := ⟨B.kb0 (B.bf4 BK887 NB887_894)⟩
      have n3_ : Aside0 (((((w11.setCell ⟨gb894, 0, none⟩ (.int .i64 t888)).setCell ⟨gb894, 1, none⟩ (.int .i64 t889)).setCell ⟨gb894, 2, none⟩ (.int .i64 t890)).setCell ⟨gb894, 3, none⟩ (.slice Ao14 t891.length co14)).heap[gb894]? = some (.cells #[.int .i64 t888, .int .i64 t889, .int .i64 t890, .slice Ao14 t891.length co14] 26 (0, 0))) := ⟨B.kb0 (B.bp4 BK894)⟩
      have n4_ : Aside0 (Below w.heap.size w ((((w11.setCell ⟨gb894, 0, none⟩ (.int .i64 t888)).setCell ⟨gb894, 1, none⟩ (.int .i64 t889)).setCell ⟨gb894, 2, none⟩ (.int .i64 t890)).setCell ⟨gb894, 3, none⟩ (.slice Ao14 t891.length co14))) := ⟨B.bl HB⟩
      (try clear HO886)
      (try clear HO893)
      (try clear BK887)
      (try clear BK894)
      (try clear HB)
      generalize ((((w11.setCell ⟨gb894, 0, none⟩ (.int .i64 t888)).setCell ⟨gb894, 1, none⟩ (.int .i64 t889)).setCell ⟨gb894, 2, none⟩ (.int .i64 t890)).setCell ⟨gb894, 3, none⟩ (.slice Ao14 t891.length co14)) = w18 at n0_ n1_ n2_ n3_ n4_ ⊢
      have HO886 := n0_
      have HO893 := n1_
      have BK887 := n2_
      have BK894 := n3_
      have HB := n4_
      clear n0_ n1_ n2_ n3_ n4_
      have n0_ := Aside0.mk (Kd.Q_drew HO886.out)
      have n1_ := Aside0.mk (Kd.R_drew HO893.out)
      have n2_ := Aside0.mk (blk_drew BK887.out)
      have n3_ := Aside0.mk (blk_drew BK894.out)
      have n4_ := Aside0.mk (below_drew1 HB.out)
      clear HO886 HO893 BK887 BK894 HB
      have HO886 := n0_
      have HO893 := n1_
      have BK887 := n2_
      have BK894 := n3_
      have HB := n4_
      clear n0_ n1_ n2_ n3_ n4_
      refine start_ (n := 10) (S := fun w' => w'.cell? ⟨gb894, 0, none⟩ = some (.int .i64 t888) ∧ w'.cell? ⟨gb894, 1, none⟩ = some (.int .i64 t889) ∧ w'.cell? ⟨gb894, 2, none⟩ = some (.int .i64 t890) ∧ w'.cell? ⟨gb894, 3, none⟩ = some (.slice Ao14 t891.length co14) ∧ w'.cell? ⟨gb887, 0, none⟩ = some (.int .i64 t881) ∧ w'.cell? ⟨gb887, 1, none⟩ = some (.int .i64 t882) ∧ w'.cell? ⟨gb887, 2, none⟩ = some (.int .i64 t883) ∧ w'.cell? ⟨gb887, 3, none⟩ = some (.slice Ao9 t884.length co9)) (ds := []) #[false, false, false, false, false, false, false, false, false, false] (by kernel_rfl) rfl rfl ⟨B.bc BK894 0, B.bc BK894 1, B.bc BK894 2, B.bc BK894 3, B.bc BK887 0, B.bc BK887 1, B.bc BK887 2, B.bc BK887 3⟩ (fun hHeld => ?_); refine with_tabW laws_FnMirrorImage.tab5 laws_FnMirrorImage.bits5 (fun HT_ HW_ => ?_)
      generalize w18.drew = w19 at HO886 HO893 BK887 BK894 HB hHeld ⊢
      refine take_ (i := 0) (N := some 12) (v := ?_) (a' := ?_) #[true, false, false, false, false, false, false, false, false, false] rfl rfl (take_ofW HT_.out HW_.out (by kernel_rfl)) (fun _ _ _ h => h) (Or.inl ⟨by rfl, ?_⟩) hHeld ?_ ?_
      rotate_left
      · rintro w' ⟨s0, s1, s2, s3, s4, s5, s6, s7⟩
        go_simp
        with_reducible rfl
      rotate_left
      · simp only [Act.put, List.setIfInBounds_toArray, List.set_cons_zero, List.set_cons_succ, i64_w, i32_w]
        rfl
      refine take_ (i := 1) (N := some 13) (v := ?_) (a' := ?_) #[true, true, false, false, false, false, false, false, false, false] rfl rfl (take_ofW HT_.out HW_.out (by kernel_rfl)) (fun _ _ _ h => h) (Or.inl ⟨by rfl, ?_⟩) hHeld ?_ ?_
      rotate_left
      · rintro w' ⟨s0, s1, s2, s3, s4, s5, s6, s7⟩
        go_simp
        with_reducible rfl
      rotate_left
      · simp only [Act.put, List.setIfInBounds_toArray, List.set_cons_zero, List.set_cons_succ, i64_w, i32_w]
        rfl
      refine one_ (i := 2) (N := some 14) #[true, true, true, false, false, false, false, false, false, false] rfl rfl (one_of HT_.out (by kernel_rfl)) (by decide) (fun K hK => ?_)
      refine goes_ Try.func32 (by kernel_rfl) rfl #[.agg #[.int .i64 t881, .int .i64 t882, .int .i64 t883, .slice Ao9 t884.length co9]] (by rfl) rfl rfl B.am ?_
      with_reducible refine (spec_MirrorImage.calls k t881 t882 t883 _ _ t884 t895 t896 t897 t898 _ ?side1 ?side2 A15.out).mono ?_
      (case side1 => exact B.kc ((Kd.Q_reads' HO886.out).2.2))
      (case side2 => exact (Kd.Q_reads' HO886.out).2.1)
      rintro e w20 ⟨v899, rfl, ho0, hb⟩
      refine ⟨_, rfl, ?_⟩
      have n0_ := Aside0.mk (Kd.Q_elder' (B.kq HO886) (Kd.R_base ho0) hb)
      have n1_ := Aside0.mk (Kd.R_elder' (B.kr HO893) (Kd.R_base ho0) hb)
      have n2_ := Aside0.mk (Kd.R_lower (Kd.R_new' (Kd.R_new' ho0 (Kd.Q_lt (B.kq HO886))) (Kd.R_lt (B.kr HO893))) (below_size (B.bl HB)))
      have n3_ := Aside0.mk (blk_below (B.kb BK887) hb)
      have n4_ := Aside0.mk (blk_below (B.kb BK894) hb)
      have n5_ := Aside0.mk (below_step (B.bl HB) hb)
      clear HO886 HO893 BK887 BK894 HB
      have HO886 := n0_
      have HO893 := n1_
      have HO900 := n2_
      have BK887 := n3_
      have BK894 := n4_
      have HB := n5_
      clear n0_ n1_ n2_ n3_ n4_ n5_
      (try clear hb)
      (try clear hb2)
      (try clear hk)
      (try clear hi)
      (try clear ho0)
      obtain ⟨Ao21, co21, eo21⟩ := Kd.R_slice HO900.out
      (first | subst eo21 | (injection eo21 with f1_ f2_ f3_; have f4_ := f1_.symm; have f5_ := f3_.symm; clear f1_ f2_ f3_; subst f4_; subst f5_))
      refine hK.out _ _ ⟨B.bc BK894 0, B.bc BK894 1, B.bc BK894 2, B.bc BK894 3, B.bc BK887 0, B.bc BK887 1, B.bc BK887 2, B.bc BK887 3⟩ (fun hHeld => ?_)
      clear hK K
      refine norm_ (a' := ?_) ?_ ?_
      rotate_left
      · show Act.put _ (some 14) _ = _
        simp only [Act.put, List.setIfInBounds_toArray, List.set_cons_zero, List.set_cons_succ, i64_w, i32_w]
        rfl
      refine one_ (i := 3) (N := some 15) #[true, true, true, true, false, false, false, false, false, false] rfl rfl (one_of HT_.out (by kernel_rfl)) (by decide) (fun K hK => ?_)
      refine goes_ Try.func20 (by kernel_rfl) rfl #[.agg #[.int .i64 t888, .int .i64 t889, .int .i64 t890, .slice Ao14 t891.length co14], .agg #[.int .i64 t895, .int .i64 t896, .int .i64 t897, .slice Ao21 t898.length co21]] (by rfl) rfl rfl B.am ?_
      with_reducible refine (laws_equalImage.calls k t888 t889 t890 _ _ t891 t895 t896 t897 _ _ t898 true _ ?side1 ?side2 ?side3 ?side4 A16.out).mono ?_
      (case side1 => exact B.kc ((Kd.R_reads' HO893.out).2.2))
      (case side2 => exact (Kd.R_reads' HO893.out).2.1)
      (case side3 => exact B.kc ((Kd.R_reads' HO900.out).2.2))
      (case side4 => exact (Kd.R_reads' HO900.out).2.1)
      rintro e w22 ⟨rfl, hb⟩
      refine ⟨_, rfl, ?_⟩
      have n0_ := Aside0.mk (Kd.Q_below (B.kq HO886) hb)
      have n1_ := Aside0.mk (Kd.R_below (B.kr HO893) hb)
      have n2_ := Aside0.mk (Kd.R_below (B.kr HO900) hb)
      have n3_ := Aside0.mk (blk_below (B.kb BK887) hb)
      have n4_ := Aside0.mk (blk_below (B.kb BK894) hb)
      have n5_ := Aside0.mk (below_step (B.bl HB) hb)
      clear HO886 HO893 HO900 BK887 BK894 HB
      have HO886 := n0_
      have HO893 := n1_
      have HO900 := n2_
      have BK887 := n3_
      have BK894 := n4_
      have HB := n5_
      clear n0_ n1_ n2_ n3_ n4_ n5_
      (try clear hb)
      (try clear hb2)
      (try clear hk)
      (try clear hi)
      refine hK.out _ _ ⟨B.bc BK894 0, B.bc BK894 1, B.bc BK894 2, B.bc BK894 3, B.bc BK887 0, B.bc BK887 1, B.bc BK887 2, B.bc BK887 3⟩ (fun hHeld => ?_)
      clear hK K
      refine norm_ (a' := ?_) ?_ ?_
      rotate_left
      · show Act.put _ (some 15) _ = _
        simp only [Act.put, List.setIfInBounds_toArray, List.set_cons_zero, List.set_cons_succ, i64_w, i32_w]
        rfl
      refine pure_ (i := 4) (N := some 16) (v := ?_) (a' := ?_) #[true, true, true, true, true, false, false, false, false, false] rfl rfl (any_of HT_.out (by kernel_rfl)) (fun _ _ _ h => h) (Or.inl ⟨by rfl, ?_⟩) ?_ ?_
      rotate_left
      · intro w'
        go_simp
        with_reducible rfl
      rotate_left
      · simp only [Act.put, List.setIfInBounds_toArray, List.set_cons_zero, List.set_cons_succ, i64_w, i32_w]
        rfl
      refine pure_ (i := 5) (N := some 17) (v := ?_) (a' := ?_) #[true, true, true, true, true, true, false, false, false, false] rfl rfl (any_of HT_.out (by kernel_rfl)) (fun _ _ _ h => h) (Or.inl ⟨by rfl, ?_⟩) ?_ ?_
      rotate_left
      · intro w'
        go_simp
        with_reducible rfl
      rotate_left
      · simp only [Act.put, List.setIfInBounds_toArray, List.set_cons_zero, List.set_cons_succ, i64_w, i32_w]
        rfl
      refine pure_ (i := 6) (N := some 18) (v := ?_) (a' := ?_) #[true, true, true, true, true, true, true, false, false, false] rfl rfl (any_of HT_.out (by kernel_rfl)) (fun _ _ _ h => h) (Or.inl ⟨by rfl, ?_⟩) ?_ ?_
      rotate_left
      · intro w'
        go_simp
        with_reducible rfl
      rotate_left
      · simp only [Act.put, List.setIfInBounds_toArray, List.set_cons_zero, List.set_cons_succ, i64_w, i32_w]
        rfl
      refine take_ (i := 7) (N := some 19) (v := ?_) (a' := ?_) #[true, true, true, true, true, true, true, true, false, false] rfl rfl (take_ofW HT_.out HW_.out (by kernel_rfl)) (fun _ _ _ h => h) (Or.inl ⟨by rfl, ?_⟩) hHeld ?_ ?_
      rotate_left
      · rintro w' ⟨s0, s1, s2, s3, s4, s5, s6, s7⟩
        go_simp
        with_reducible rfl
      rotate_left
      · simp only [Act.put, List.setIfInBounds_toArray, List.set_cons_zero, List.set_cons_succ, i64_w, i32_w]
        rfl
      refine pure_ (i := 8) (N := some 20) (v := ?_) (a' := ?_) #[true, true, true, true, true, true, true, true, true, false] rfl rfl (any_of HT_.out (by kernel_rfl)) (fun _ _ _ h => h) (Or.inl ⟨by rfl, ?_⟩) ?_ ?_
      rotate_left
      · intro w'
        go_simp
        with_reducible rfl
      rotate_left
      · simp only [Act.put, List.setIfInBounds_toArray, List.set_cons_zero, List.set_cons_succ, i64_w, i32_w]
        rfl
      refine pure_ (i := 9) (N := some 21) (v := ?_) (a' := ?_) #[true, true, true, true, true, true, true, true, true, true] rfl rfl (any_of HT_.out (by kernel_rfl)) (fun _ _ _ h => h) (Or.inl ⟨by rfl, ?_⟩) ?_ ?_
      rotate_left
      · intro w'
        go_simp
        with_reducible rfl
      rotate_left
      · simp only [Act.put, List.setIfInBounds_toArray, List.set_cons_zero, List.set_cons_succ, i64_w, i32_w]
        rfl
      refine done_ (done_of HT_.out (by kernel_rfl)) ?_
      try go_wp2
      go_meet
      case rel => exact ⟨_, ((t888 == 0)), (by first | rfl | (simp; done) | (simp [*]; done)), H', ⟨by first | omega | exact Nat.le_refl _⟩, ⟨by (with_reducible repeat (first | apply Kd.Q_alloc | apply Kd.Q_drewN | apply Kd.Q_drew)); exact Kd.Q_mono HO886.out (fun _ hk => hk.1)⟩, ⟨Kd.Q_of_R (B.kr0 (Kd.R_mono HO893.out (fun _ hk => hk.1)))⟩, ⟨B.kb BK887⟩, ⟨B.kb BK894⟩, ⟨B.bl HB⟩⟩
    replace c17 := Bool.eq_false_iff.mpr c17
    subst c17
    have H1 : (laws_FnMirrorImage.j0 k true t881 t882 t883 t884 t888 t889 t890 t891) = some r := by rw [if_neg (show ¬ (false = true) by decide)] at H; exact H
    clear H
    have H := H1
    clear H1
    have H' := Aside0.mk H
    clear H
    try go_wp2
    have n0_ : Aside0 (Kd.Q (Kd.int .i64) 3 ((((w11.setCell ⟨gb894, 0, none⟩ (.int .i64 t888)).setCell ⟨gb894, 1, none⟩ (.int .i64 t889)).setCell ⟨gb894, 2, none⟩ (.int .i64 t890)).setCell ⟨gb894, 3, none⟩ (.slice Ao14 t891.length co14)) w.heap.size (fun k_ => some k_ ≠ (.slice Ao14 t891.length co14 : Value).ownBlock) (.slice Ao9 t884.length co9) t884) := ⟨by (with_reducible repeat (first | apply Kd.Q_alloc | apply Kd.Q_drewN | apply Kd.Q_drew)); exact Kd.Q_mono (Kd.Q_far (p := ⟨gb894, 3, none⟩) (Kd.Q_far (p := ⟨gb894, 2, none⟩) (Kd.Q_far (p := ⟨gb894, 1, none⟩) (Kd.Q_far (p := ⟨gb894, 0, none⟩) (Kd.Q_types HO886.out BK894.out (by decide)) (fun _ hk => hk.2) (.int .i64 t888)) (fun _ hk => hk.2) (.int .i64 t889)) (fun _ hk => hk.2) (.int .i64 t890)) (fun _ hk => hk.2) (.slice Ao14 t891.length co14)) (fun _ hk => hk.1.2)⟩
    have n1_ : Aside0 (Kd.R (Kd.int .i64) 3 ((((w11.setCell ⟨gb894, 0, none⟩ (.int .i64 t888)).setCell ⟨gb894, 1, none⟩ (.int .i64 t889)).setCell ⟨gb894, 2, none⟩ (.int .i64 t890)).setCell ⟨gb894, 3, none⟩ (.slice Ao14 t891.length co14)) w.heap.size (fun k_ => some k_ ≠ (.slice Ao9 t884.length co9 : Value).ownBlock) (.slice Ao14 t891.length co14) t891) := ⟨B.kr0 (Kd.R_mono (B.rf4 HO893 BK894) (fun _ hk => hk.1.2))⟩
    have n2_ : Aside0 (((((w11.setCell ⟨gb894, 0, none⟩ (.int .i64 t888)).setCell ⟨gb894, 1, none⟩ (.int .i64 t889)).setCell ⟨gb894, 2, none⟩ (.int .i64 t890)).setCell ⟨gb894, 3, none⟩ (.slice Ao14 t891.length co14)).heap[gb887]? = some (.cells #[.int .i64 t881, .int .i64 t882, .int .i64 t883, .slice Ao9 t884.length co9] 26 (0, 0))) := ⟨B.kb0 (B.bf4 BK887 NB887_894)⟩
    have n3_ : Aside0 (((((w11.setCell ⟨gb894, 0, none⟩ (.int .i64 t888)).setCell ⟨gb894, 1, none⟩ (.int .i64 t889)).setCell ⟨gb894, 2, none⟩ (.int .i64 t890)).setCell ⟨gb894, 3, none⟩ (.slice Ao14 t891.length co14)).heap[gb894]? = some (.cells #[.int .i64 t888, .int .i64 t889, .int .i64 t890, .slice Ao14 t891.length co14] 26 (0, 0))) := ⟨B.kb0 (B.bp4 BK894)⟩
    have n4_ : Aside0 (Below w.heap.size w ((((w11.setCell ⟨gb894, 0, none⟩ (.int .i64 t888)).setCell ⟨gb894, 1, none⟩ (.int .i64 t889)).setCell ⟨gb894, 2, none⟩ (.int .i64 t890)).setCell ⟨gb894, 3, none⟩ (.slice Ao14 t891.length co14))) := ⟨B.bl HB⟩
    (try clear HO886)
    (try clear HO893)
    (try clear BK887)
    (try clear BK894)
    (try clear HB)
    generalize ((((w11.setCell ⟨gb894, 0, none⟩ (.int .i64 t888)).setCell ⟨gb894, 1, none⟩ (.int .i64 t889)).setCell ⟨gb894, 2, none⟩ (.int .i64 t890)).setCell ⟨gb894, 3, none⟩ (.slice Ao14 t891.length co14)) = w23 at n0_ n1_ n2_ n3_ n4_ ⊢
    have HO886 := n0_
    have HO893 := n1_
    have BK887 := n2_
    have BK894 := n3_
    have HB := n4_
    clear n0_ n1_ n2_ n3_ n4_
    have n0_ := Aside0.mk (Kd.Q_drew HO886.out)
    have n1_ := Aside0.mk (Kd.R_drew HO893.out)
    have n2_ := Aside0.mk (blk_drew BK887.out)
    have n3_ := Aside0.mk (blk_drew BK894.out)
    have n4_ := Aside0.mk (below_drew1 HB.out)
    clear HO886 HO893 BK887 BK894 HB
    have HO886 := n0_
    have HO893 := n1_
    have BK887 := n2_
    have BK894 := n3_
    have HB := n4_
    clear n0_ n1_ n2_ n3_ n4_
    refine start_ (n := 10) (S := fun w' => w'.cell? ⟨gb894, 0, none⟩ = some (.int .i64 t888) ∧ w'.cell? ⟨gb894, 1, none⟩ = some (.int .i64 t889) ∧ w'.cell? ⟨gb894, 2, none⟩ = some (.int .i64 t890) ∧ w'.cell? ⟨gb894, 3, none⟩ = some (.slice Ao14 t891.length co14) ∧ w'.cell? ⟨gb887, 0, none⟩ = some (.int .i64 t881) ∧ w'.cell? ⟨gb887, 1, none⟩ = some (.int .i64 t882) ∧ w'.cell? ⟨gb887, 2, none⟩ = some (.int .i64 t883) ∧ w'.cell? ⟨gb887, 3, none⟩ = some (.slice Ao9 t884.length co9)) (ds := []) #[false, false, false, false, false, false, false, false, false, false] (by kernel_rfl) rfl rfl ⟨B.bc BK894 0, B.bc BK894 1, B.bc BK894 2, B.bc BK894 3, B.bc BK887 0, B.bc BK887 1, B.bc BK887 2, B.bc BK887 3⟩ (fun hHeld => ?_); refine with_tabW laws_FnMirrorImage.tab5 laws_FnMirrorImage.bits5 (fun HT_ HW_ => ?_)
    generalize w23.drew = w24 at HO886 HO893 BK887 BK894 HB hHeld ⊢
    refine take_ (i := 0) (N := some 12) (v := ?_) (a' := ?_) #[true, false, false, false, false, false, false, false, false, false] rfl rfl (take_ofW HT_.out HW_.out (by kernel_rfl)) (fun _ _ _ h => h) (Or.inl ⟨by rfl, ?_⟩) hHeld ?_ ?_
    rotate_left
    · rintro w' ⟨s0, s1, s2, s3, s4, s5, s6, s7⟩
      go_simp
      with_reducible rfl
    rotate_left
    · simp only [Act.put, List.setIfInBounds_toArray, List.set_cons_zero, List.set_cons_succ, i64_w, i32_w]
      rfl
    refine take_ (i := 1) (N := some 13) (v := ?_) (a' := ?_) #[true, true, false, false, false, false, false, false, false, false] rfl rfl (take_ofW HT_.out HW_.out (by kernel_rfl)) (fun _ _ _ h => h) (Or.inl ⟨by rfl, ?_⟩) hHeld ?_ ?_
    rotate_left
    · rintro w' ⟨s0, s1, s2, s3, s4, s5, s6, s7⟩
      go_simp
      with_reducible rfl
    rotate_left
    · simp only [Act.put, List.setIfInBounds_toArray, List.set_cons_zero, List.set_cons_succ, i64_w, i32_w]
      rfl
    refine one_ (i := 2) (N := some 14) #[true, true, true, false, false, false, false, false, false, false] rfl rfl (one_of HT_.out (by kernel_rfl)) (by decide) (fun K hK => ?_)
    refine goes_ Try.func32 (by kernel_rfl) rfl #[.agg #[.int .i64 t881, .int .i64 t882, .int .i64 t883, .slice Ao9 t884.length co9]] (by rfl) rfl rfl B.am ?_
    with_reducible refine (spec_MirrorImage.calls k t881 t882 t883 _ _ t884 t895 t896 t897 t898 _ ?side1 ?side2 A15.out).mono ?_
    (case side1 => exact B.kc ((Kd.Q_reads' HO886.out).2.2))
    (case side2 => exact (Kd.Q_reads' HO886.out).2.1)
    rintro e w25 ⟨v899, rfl, ho0, hb⟩
    refine ⟨_, rfl, ?_⟩
    have n0_ := Aside0.mk (Kd.Q_elder' (B.kq HO886) (Kd.R_base ho0) hb)
    have n1_ := Aside0.mk (Kd.R_elder' (B.kr HO893) (Kd.R_base ho0) hb)
    have n2_ := Aside0.mk (Kd.R_lower (Kd.R_new' (Kd.R_new' ho0 (Kd.Q_lt (B.kq HO886))) (Kd.R_lt (B.kr HO893))) (below_size (B.bl HB)))
    have n3_ := Aside0.mk (blk_below (B.kb BK887) hb)
    have n4_ := Aside0.mk (blk_below (B.kb BK894) hb)
    have n5_ := Aside0.mk (below_step (B.bl HB) hb)
    clear HO886 HO893 BK887 BK894 HB
    have HO886 := n0_
    have HO893 := n1_
    have HO900 := n2_
    have BK887 := n3_
    have BK894 := n4_
    have HB := n5_
    clear n0_ n1_ n2_ n3_ n4_ n5_
    (try clear hb)
    (try clear hb2)
    (try clear hk)
    (try clear hi)
    (try clear ho0)
    obtain ⟨Ao26, co26, eo26⟩ := Kd.R_slice HO900.out
    (first | subst eo26 | (injection eo26 with f1_ f2_ f3_; have f4_ := f1_.symm; have f5_ := f3_.symm; clear f1_ f2_ f3_; subst f4_; subst f5_))
    refine hK.out _ _ ⟨B.bc BK894 0, B.bc BK894 1, B.bc BK894 2, B.bc BK894 3, B.bc BK887 0, B.bc BK887 1, B.bc BK887 2, B.bc BK887 3⟩ (fun hHeld => ?_)
    clear hK K
    refine norm_ (a' := ?_) ?_ ?_
    rotate_left
    · show Act.put _ (some 14) _ = _
      simp only [Act.put, List.setIfInBounds_toArray, List.set_cons_zero, List.set_cons_succ, i64_w, i32_w]
      rfl
    refine one_ (i := 3) (N := some 15) #[true, true, true, true, false, false, false, false, false, false] rfl rfl (one_of HT_.out (by kernel_rfl)) (by decide) (fun K hK => ?_)
    refine goes_ Try.func20 (by kernel_rfl) rfl #[.agg #[.int .i64 t888, .int .i64 t889, .int .i64 t890, .slice Ao14 t891.length co14], .agg #[.int .i64 t895, .int .i64 t896, .int .i64 t897, .slice Ao26 t898.length co26]] (by rfl) rfl rfl B.am ?_
    with_reducible refine (laws_equalImage.calls k t888 t889 t890 _ _ t891 t895 t896 t897 _ _ t898 false _ ?side1 ?side2 ?side3 ?side4 A16.out).mono ?_
    (case side1 => exact B.kc ((Kd.R_reads' HO893.out).2.2))
    (case side2 => exact (Kd.R_reads' HO893.out).2.1)
    (case side3 => exact B.kc ((Kd.R_reads' HO900.out).2.2))
    (case side4 => exact (Kd.R_reads' HO900.out).2.1)
    rintro e w27 ⟨rfl, hb⟩
    refine ⟨_, rfl, ?_⟩
    have n0_ := Aside0.mk (Kd.Q_below (B.kq HO886) hb)
    have n1_ := Aside0.mk (Kd.R_below (B.kr HO893) hb)
    have n2_ := Aside0.mk (Kd.R_below (B.kr HO900) hb)
    have n3_ := Aside0.mk (blk_below (B.kb BK887) hb)
    have n4_ := Aside0.mk (blk_below (B.kb BK894) hb)
    have n5_ := Aside0.mk (below_step (B.bl HB) hb)
    clear HO886 HO893 HO900 BK887 BK894 HB
    have HO886 := n0_
    have HO893 := n1_
    have HO900 := n2_
    have BK887 := n3_
    have BK894 := n4_
    have HB := n5_
    clear n0_ n1_ n2_ n3_ n4_ n5_
    (try clear hb)
    (try clear hb2)
    (try clear hk)
    (try clear hi)
    refine hK.out _ _ ⟨B.bc BK894 0, B.bc BK894 1, B.bc BK894 2, B.bc BK894 3, B.bc BK887 0, B.bc BK887 1, B.bc BK887 2, B.bc BK887 3⟩ (fun hHeld => ?_)
    clear hK K
    refine norm_ (a' := ?_) ?_ ?_
    rotate_left
    · show Act.put _ (some 15) _ = _
      simp only [Act.put, List.setIfInBounds_toArray, List.set_cons_zero, List.set_cons_succ, i64_w, i32_w]
      rfl
    refine pure_ (i := 4) (N := some 16) (v := ?_) (a' := ?_) #[true, true, true, true, true, false, false, false, false, false] rfl rfl (any_of HT_.out (by kernel_rfl)) (fun _ _ _ h => h) (Or.inl ⟨by rfl, ?_⟩) ?_ ?_
    rotate_left
    · intro w'
      go_simp
      with_reducible rfl
    rotate_left
    · simp only [Act.put, List.setIfInBounds_toArray, List.set_cons_zero, List.set_cons_succ, i64_w, i32_w]
      rfl
    refine pure_ (i := 5) (N := some 17) (v := ?_) (a' := ?_) #[true, true, true, true, true, true, false, false, false, false] rfl rfl (any_of HT_.out (by kernel_rfl)) (fun _ _ _ h => h) (Or.inl ⟨by rfl, ?_⟩) ?_ ?_
    rotate_left
    · intro w'
      go_simp
      with_reducible rfl
    rotate_left
    · simp only [Act.put, List.setIfInBounds_toArray, List.set_cons_zero, List.set_cons_succ, i64_w, i32_w]
      rfl
    refine pure_ (i := 6) (N := some 18) (v := undef) (a' := ?_) #[true, true, true, true, true, true, true, false, false, false] rfl rfl (any_of HT_.out (by kernel_rfl)) (fun _ _ _ h => h) (Or.inr ⟨by rfl, rfl⟩) ?_ ?_
    rotate_left
    · simp only [Act.put, List.setIfInBounds_toArray, List.set_cons_zero, List.set_cons_succ, i64_w, i32_w]
      rfl
    refine pure_ (i := 7) (N := some 19) (v := undef) (a' := ?_) #[true, true, true, true, true, true, true, true, false, false] rfl rfl (any_of HT_.out (by kernel_rfl)) (fun _ _ _ h => h) (Or.inr ⟨by rfl, rfl⟩) ?_ ?_
    rotate_left
    · simp only [Act.put, List.setIfInBounds_toArray, List.set_cons_zero, List.set_cons_succ, i64_w, i32_w]
      rfl
    refine pure_ (i := 8) (N := some 20) (v := undef) (a' := ?_) #[true, true, true, true, true, true, true, true, true, false] rfl rfl (any_of HT_.out (by kernel_rfl)) (fun _ _ _ h => h) (Or.inr ⟨by rfl, rfl⟩) ?_ ?_
    rotate_left
    · simp only [Act.put, List.setIfInBounds_toArray, List.set_cons_zero, List.set_cons_succ, i64_w, i32_w]
      rfl
    refine pure_ (i := 9) (N := some 21) (v := ?_) (a' := ?_) #[true, true, true, true, true, true, true, true, true, true] rfl rfl (any_of HT_.out (by kernel_rfl)) (fun _ _ _ h => h) (Or.inl ⟨by rfl, ?_⟩) ?_ ?_
    rotate_left
    · intro w'
      go_simp
      with_reducible rfl
    rotate_left
    · simp only [Act.put, List.setIfInBounds_toArray, List.set_cons_zero, List.set_cons_succ, i64_w, i32_w]
      rfl
    refine done_ (done_of HT_.out (by kernel_rfl)) ?_
    try go_wp2
    go_meet
    case rel => exact ⟨_, (true), (by first | rfl | (simp; done) | (simp [*]; done)), H', ⟨by first | omega | exact Nat.le_refl _⟩, ⟨by (with_reducible repeat (first | apply Kd.Q_alloc | apply Kd.Q_drewN | apply Kd.Q_drew)); exact Kd.Q_mono HO886.out (fun _ hk => hk.1)⟩, ⟨Kd.Q_of_R (B.kr0 (Kd.R_mono HO893.out (fun _ hk => hk.1)))⟩, ⟨B.kb BK887⟩, ⟨B.kb BK894⟩, ⟨B.bl HB⟩⟩
  case rest =>
    clear HC5
    try clear c1
    try clear c2
    try clear c2b0
    try clear c2b1
    try clear p2
    try clear c3
    try clear c11
    try clear c12
    try clear c17
    try clear c20
    try clear c21
    try clear hcz13_0
    try clear hcz13_1
    try clear hcz13_2
    try clear hcz13_3
    try clear hcz8_0
    try clear hcz8_1
    try clear hcz8_2
    try clear hcz8_3
    try clear hfz13_0
    try clear hfz13_1
    try clear hfz13_2
    try clear hfz13_3
    try clear hfz8_0
    try clear hfz8_1
    try clear hfz8_2
    try clear hfz8_3
    obtain ⟨kq, x21_4, rfl, HA, HJ4, HO_888003, HO_895003, BK887, BK894, HB⟩ := hcut
    cases kq with
    | zero => exact absurd HA.out (by simp [laws_FnMirrorImage.j0])
    | succ kj4 =>
      have H := HA.out
      clear HA
      simp only [laws_FnMirrorImage.j0] at H
      by_cases c28 : x21_4 = true
      · subst c28
        have H1 : ((spec_MirrorImage.f kj4 t881 t882 t883 t884).bind fun bt902 => ((laws_equalImage.f kj4 t888 t889 t890 t891 bt902.1 bt902.2.1 bt902.2.2.1 bt902.2.2.2).bind fun t908 => (some t908))) = some r := by rw [if_pos rfl] at H; exact H
        clear H
        have H := H1
        clear H1
        replace H := Option.bind_eq_some_iff.mp H
        obtain ⟨⟨t902, t903, t904, t905⟩, A290, H⟩ := H
        replace H : ((laws_equalImage.f kj4 t888 t889 t890 t891 t902 t903 t904 t905).bind fun t908 => (some t908)) = some r := H
        have A29 := Aside0.mk A290
        clear A290
        replace H := Option.bind_eq_some_iff.mp H
        obtain ⟨t908, A300, H⟩ := H
        replace H : (some t908) = some r := H
        have A30 := Aside0.mk A300
        clear A300
        obtain rfl := Option.some.inj H
        simp only [Option.some.injEq, Prod.mk.injEq] at H
        obtain ⟨rfl⟩ := H
        try go_wp2
        have n0_ := Aside0.mk (Kd.Q_drew HO_888003.out)
        have n1_ := Aside0.mk (Kd.Q_drew HO_895003.out)
        have n2_ := Aside0.mk (blk_drew BK887.out)
        have n3_ := Aside0.mk (blk_drew BK894.out)
        have n4_ := Aside0.mk (below_drew1 HB.out)
        clear HO_888003 HO_895003 BK887 BK894 HB
        have HO_888003 := n0_
        have HO_895003 := n1_
        have BK887 := n2_
        have BK894 := n3_
        have HB := n4_
        clear n0_ n1_ n2_ n3_ n4_
        refine start_ (n := 5) (S := fun w' => w'.cell? ⟨gb894, 0, none⟩ = some (.int .i64 t888) ∧ w'.cell? ⟨gb894, 1, none⟩ = some (.int .i64 t889) ∧ w'.cell? ⟨gb894, 2, none⟩ = some (.int .i64 t890) ∧ w'.cell? ⟨gb894, 3, none⟩ = some (.slice Ao14 t891.length co14) ∧ w'.cell? ⟨gb887, 0, none⟩ = some (.int .i64 t881) ∧ w'.cell? ⟨gb887, 1, none⟩ = some (.int .i64 t882) ∧ w'.cell? ⟨gb887, 2, none⟩ = some (.int .i64 t883) ∧ w'.cell? ⟨gb887, 3, none⟩ = some (.slice Ao9 t884.length co9)) (ds := []) #[false, false, false, false, false] (by kernel_rfl) rfl rfl ⟨B.bc BK894 0, B.bc BK894 1, B.bc BK894 2, B.bc BK894 3, B.bc BK887 0, B.bc BK887 1, B.bc BK887 2, B.bc BK887 3⟩ (fun hHeld => ?_)
        generalize wc.drew = w31 at HO_888003 HO_895003 BK887 BK894 HB hHeld ⊢
        refine take_ (i := 0) (N := some 22) (v := ?_) (a' := ?_) #[true, false, false, false, false] rfl rfl (by kernel_rfl) (fun _ _ _ h => h) (Or.inl ⟨by rfl, ?_⟩) hHeld ?_ ?_
        rotate_left
        · rintro w' ⟨s0, s1, s2, s3, s4, s5, s6, s7⟩
          go_simp
          with_reducible rfl
        rotate_left
        · simp only [Act.put, List.setIfInBounds_toArray, List.set_cons_zero, List.set_cons_succ, i64_w, i32_w]
          rfl
        refine take_ (i := 1) (N := some 23) (v := ?_) (a' := ?_) #[true, true, false, false, false] rfl rfl (by kernel_rfl) (fun _ _ _ h => h) (Or.inl ⟨by rfl, ?_⟩) hHeld ?_ ?_
        rotate_left
        · rintro w' ⟨s0, s1, s2, s3, s4, s5, s6, s7⟩
          go_simp
          with_reducible rfl
        rotate_left
        · simp only [Act.put, List.setIfInBounds_toArray, List.set_cons_zero, List.set_cons_succ, i64_w, i32_w]
          rfl
        refine one_ (i := 2) (N := some 24) #[true, true, true, false, false] rfl rfl (by kernel_rfl) (by decide) (fun K hK => ?_)
        refine goes_ Try.func32 (by kernel_rfl) rfl #[.agg #[.int .i64 t881, .int .i64 t882, .int .i64 t883, .slice Ao9 t884.length co9]] (by rfl) rfl rfl B.am ?_
        with_reducible refine (spec_MirrorImage.calls kj4 t881 t882 t883 _ _ t884 t902 t903 t904 t905 _ ?side1 ?side2 A29.out).mono ?_
        (case side1 => exact B.kc ((Kd.Q_reads' HO_888003.out).2.2))
        (case side2 => exact (Kd.Q_reads' HO_888003.out).2.1)
        rintro e w32 ⟨v906, rfl, ho0, hb⟩
        refine ⟨_, rfl, ?_⟩
        have n0_ := Aside0.mk (Kd.Q_elder' (B.kq HO_888003) (Kd.R_base ho0) hb)
        have n1_ := Aside0.mk (Kd.Q_elder' (B.kq HO_895003) (Kd.R_base ho0) hb)
        have n2_ := Aside0.mk (Kd.R_lower (Kd.R_new' (Kd.R_new' ho0 (Kd.Q_lt (B.kq HO_888003))) (Kd.Q_lt (B.kq HO_895003))) (below_size (B.bl HB)))
        have n3_ := Aside0.mk (blk_below (B.kb BK887) hb)
        have n4_ := Aside0.mk (blk_below (B.kb BK894) hb)
        have n5_ := Aside0.mk (below_step (B.bl HB) hb)
        clear HO_888003 HO_895003 BK887 BK894 HB
        have HO_888003 := n0_
        have HO_895003 := n1_
        have HO907 := n2_
        have BK887 := n3_
        have BK894 := n4_
        have HB := n5_
        clear n0_ n1_ n2_ n3_ n4_ n5_
        (try clear hb)
        (try clear hb2)
        (try clear hk)
        (try clear hi)
        (try clear ho0)
        obtain ⟨Ao33, co33, eo33⟩ := Kd.R_slice HO907.out
        (first | subst eo33 | (injection eo33 with f1_ f2_ f3_; have f4_ := f1_.symm; have f5_ := f3_.symm; clear f1_ f2_ f3_; subst f4_; subst f5_))
        refine hK.out _ _ ⟨B.bc BK894 0, B.bc BK894 1, B.bc BK894 2, B.bc BK894 3, B.bc BK887 0, B.bc BK887 1, B.bc BK887 2, B.bc BK887 3⟩ (fun hHeld => ?_)
        clear hK K
        refine norm_ (a' := ?_) ?_ ?_
        rotate_left
        · show Act.put _ (some 24) _ = _
          simp only [Act.put, List.setIfInBounds_toArray, List.set_cons_zero, List.set_cons_succ, i64_w, i32_w]
          rfl
        refine one_ (i := 3) (N := some 25) #[true, true, true, true, false] rfl rfl (by kernel_rfl) (by decide) (fun K hK => ?_)
        refine goes_ Try.func20 (by kernel_rfl) rfl #[.agg #[.int .i64 t888, .int .i64 t889, .int .i64 t890, .slice Ao14 t891.length co14], .agg #[.int .i64 t902, .int .i64 t903, .int .i64 t904, .slice Ao33 t905.length co33]] (by rfl) rfl rfl B.am ?_
        with_reducible refine (laws_equalImage.calls kj4 t888 t889 t890 _ _ t891 t902 t903 t904 _ _ t905 t908 _ ?side1 ?side2 ?side3 ?side4 A30.out).mono ?_
        (case side1 => exact B.kc ((Kd.Q_reads' HO_895003.out).2.2))
        (case side2 => exact (Kd.Q_reads' HO_895003.out).2.1)
        (case side3 => exact B.kc ((Kd.R_reads' HO907.out).2.2))
        (case side4 => exact (Kd.R_reads' HO907.out).2.1)
        rintro e w34 ⟨rfl, hb⟩
        refine ⟨_, rfl, ?_⟩
        have n0_ := Aside0.mk (Kd.Q_below (B.kq HO_888003) hb)
        have n1_ := Aside0.mk (Kd.Q_below (B.kq HO_895003) hb)
        have n2_ := Aside0.mk (Kd.R_below (B.kr HO907) hb)
        have n3_ := Aside0.mk (blk_below (B.kb BK887) hb)
        have n4_ := Aside0.mk (blk_below (B.kb BK894) hb)
        have n5_ := Aside0.mk (below_step (B.bl HB) hb)
        clear HO_888003 HO_895003 HO907 BK887 BK894 HB
        have HO_888003 := n0_
        have HO_895003 := n1_
        have HO907 := n2_
        have BK887 := n3_
        have BK894 := n4_
        have HB := n5_
        clear n0_ n1_ n2_ n3_ n4_ n5_
        (try clear hb)
        (try clear hb2)
        (try clear hk)
        (try clear hi)
        refine hK.out _ _ ⟨B.bc BK894 0, B.bc BK894 1, B.bc BK894 2, B.bc BK894 3, B.bc BK887 0, B.bc BK887 1, B.bc BK887 2, B.bc BK887 3⟩ (fun hHeld => ?_)
        clear hK K
        refine norm_ (a' := ?_) ?_ ?_
        rotate_left
        · show Act.put _ (some 25) _ = _
          simp only [Act.put, List.setIfInBounds_toArray, List.set_cons_zero, List.set_cons_succ, i64_w, i32_w]
          rfl
        refine pure_ (i := 4) (N := some 2) (v := ?_) (a' := ?_) #[true, true, true, true, true] rfl rfl (by kernel_rfl) (fun _ _ _ h => h) (Or.inl ⟨by rfl, ?_⟩) ?_ ?_
        rotate_left
        · intro w'
          go_simp
          with_reducible rfl
        rotate_left
        · simp only [Act.put, List.setIfInBounds_toArray, List.set_cons_zero, List.set_cons_succ, i64_w, i32_w]
          rfl
        refine done_ (by kernel_rfl) ?_
        try go_wp2
        go_ret
        exact ⟨by first | rfl | (simp [errW_none, errW_some] <;> rfl) | (simp [*, errW_none, errW_some] <;> rfl), B.bl HB⟩
      replace c28 := Bool.eq_false_iff.mpr c28
      subst c28
      have H1 : ((impl_MirrorImage.f t888 t889 t890 t891).bind fun bt909 => ((laws_equalImage.f kj4 bt909.1 bt909.2.1 bt909.2.2.1 bt909.2.2.2 t881 t882 t883 t884).bind fun t915 => (if t915 = true then ((impl_PixelAt.f t888 t889 t890 t891 (wrap64 (t881 - 1)) 0).bind fun t916 => ((impl_PixelAt.f t881 t882 t883 t884 0 0).bind fun t919 => ((laws_equalInts.f kj4 t916 t919).bind fun t922 => (some t922)))) else (some false)))) = some r := by rw [if_neg (show ¬ (false = true) by decide)] at H; exact H
      clear H
      have H := H1
      clear H1
      replace H := Option.bind_eq_some_iff.mp H
      obtain ⟨⟨t909, t910, t911, t912⟩, A350, H⟩ := H
      replace H : ((laws_equalImage.f kj4 t909 t910 t911 t912 t881 t882 t883 t884).bind fun t915 => (if t915 = true then ((impl_PixelAt.f t888 t889 t890 t891 (wrap64 (t881 - 1)) 0).bind fun t916 => ((impl_PixelAt.f t881 t882 t883 t884 0 0).bind fun t919 => ((laws_equalInts.f kj4 t916 t919).bind fun t922 => (some t922)))) else (some false))) = some r := H
      have A35 := Aside0.mk A350
      clear A350
      replace H := Option.bind_eq_some_iff.mp H
      obtain ⟨t915, A360, H⟩ := H
      replace H : (if t915 = true then ((impl_PixelAt.f t888 t889 t890 t891 (wrap64 (t881 - 1)) 0).bind fun t916 => ((impl_PixelAt.f t881 t882 t883 t884 0 0).bind fun t919 => ((laws_equalInts.f kj4 t916 t919).bind fun t922 => (some t922)))) else (some false)) = some r := H
      have A36 := Aside0.mk A360
      clear A360
      by_cases c37 : t915 = true
      · subst c37
        have H1 : ((impl_PixelAt.f t888 t889 t890 t891 (wrap64 (t881 - 1)) 0).bind fun t916 => ((impl_PixelAt.f t881 t882 t883 t884 0 0).bind fun t919 => ((laws_equalInts.f kj4 t916 t919).bind fun t922 => (some t922)))) = some r := by rw [if_pos rfl] at H; exact H
        clear H
        have H := H1
        clear H1
        replace H := Option.bind_eq_some_iff.mp H
        obtain ⟨t916, A380, H⟩ := H
        replace H : ((impl_PixelAt.f t881 t882 t883 t884 0 0).bind fun t919 => ((laws_equalInts.f kj4 t916 t919).bind fun t922 => (some t922))) = some r := H
        have A38 := Aside0.mk A380
        clear A380
        replace H := Option.bind_eq_some_iff.mp H
        obtain ⟨t919, A390, H⟩ := H
        replace H : ((laws_equalInts.f kj4 t916 t919).bind fun t922 => (some t922)) = some r := H
        have A39 := Aside0.mk A390
        clear A390
        replace H := Option.bind_eq_some_iff.mp H
        obtain ⟨t922, A400, H⟩ := H
        replace H : (some t922) = some r := H
        have A40 := Aside0.mk A400
        clear A400
        obtain rfl := Option.some.inj H
        simp only [Option.some.injEq, Prod.mk.injEq] at H
        obtain ⟨rfl⟩ := H
        try go_wp2
        have n0_ := Aside0.mk (Kd.Q_drew HO_888003.out)
        have n1_ := Aside0.mk (Kd.Q_drew HO_895003.out)
        have n2_ := Aside0.mk (blk_drew BK887.out)
        have n3_ := Aside0.mk (blk_drew BK894.out)
        have n4_ := Aside0.mk (below_drew1 HB.out)
        clear HO_888003 HO_895003 BK887 BK894 HB
        have HO_888003 := n0_
        have HO_895003 := n1_
        have BK887 := n2_
        have BK894 := n3_
        have HB := n4_
        clear n0_ n1_ n2_ n3_ n4_
        refine start_ (n := 15) (S := fun w' => w'.cell? ⟨gb894, 0, none⟩ = some (.int .i64 t888) ∧ w'.cell? ⟨gb894, 1, none⟩ = some (.int .i64 t889) ∧ w'.cell? ⟨gb894, 2, none⟩ = some (.int .i64 t890) ∧ w'.cell? ⟨gb894, 3, none⟩ = some (.slice Ao14 t891.length co14) ∧ w'.cell? ⟨gb887, 0, none⟩ = some (.int .i64 t881) ∧ w'.cell? ⟨gb887, 1, none⟩ = some (.int .i64 t882) ∧ w'.cell? ⟨gb887, 2, none⟩ = some (.int .i64 t883) ∧ w'.cell? ⟨gb887, 3, none⟩ = some (.slice Ao9 t884.length co9)) (ds := []) #[false, false, false, false, false, false, false, false, false, false, false, false, false, false, false] (by kernel_rfl) rfl rfl ⟨B.bc BK894 0, B.bc BK894 1, B.bc BK894 2, B.bc BK894 3, B.bc BK887 0, B.bc BK887 1, B.bc BK887 2, B.bc BK887 3⟩ (fun hHeld => ?_); refine with_tabW laws_FnMirrorImage.tab7 laws_FnMirrorImage.bits7 (fun HT_ HW_ => ?_)
        generalize wc.drew = w41 at HO_888003 HO_895003 BK887 BK894 HB hHeld ⊢
        refine take_ (i := 0) (N := some 26) (v := ?_) (a' := ?_) #[true, false, false, false, false, false, false, false, false, false, false, false, false, false, false] rfl rfl (take_ofW HT_.out HW_.out (by kernel_rfl)) (fun _ _ _ h => h) (Or.inl ⟨by rfl, ?_⟩) hHeld ?_ ?_
        rotate_left
        · rintro w' ⟨s0, s1, s2, s3, s4, s5, s6, s7⟩
          go_simp
          with_reducible rfl
        rotate_left
        · simp only [Act.put, List.setIfInBounds_toArray, List.set_cons_zero, List.set_cons_succ, i64_w, i32_w]
          rfl
        refine take_ (i := 2) (N := some 28) (v := ?_) (a' := ?_) #[true, false, true, false, false, false, false, false, false, false, false, false, false, false, false] rfl rfl (take_ofW HT_.out HW_.out (by kernel_rfl)) (fun _ _ _ h => h) (Or.inl ⟨by rfl, ?_⟩) hHeld ?_ ?_
        rotate_left
        · rintro w' ⟨s0, s1, s2, s3, s4, s5, s6, s7⟩
          go_simp
          with_reducible rfl
        rotate_left
        · simp only [Act.put, List.setIfInBounds_toArray, List.set_cons_zero, List.set_cons_succ, i64_w, i32_w]
          rfl
        refine one_ (i := 1) (N := some 27) #[true, true, true, false, false, false, false, false, false, false, false, false, false, false, false] rfl rfl (one_of HT_.out (by kernel_rfl)) (by decide) (fun K hK => ?_)
        refine goes_ Try.func21 (by kernel_rfl) rfl #[.agg #[.int .i64 t888, .int .i64 t889, .int .i64 t890, .slice Ao14 t891.length co14]] (by rfl) rfl rfl B.am ?_
        with_reducible refine (impl_MirrorImage.calls t888 t889 t890 _ _ t891 t909 t910 t911 t912 _ ?side1 ?side2 A35.out).mono ?_
        (case side1 => exact B.kc ((Kd.Q_reads' HO_895003.out).2.2))
        (case side2 => exact (Kd.Q_reads' HO_895003.out).2.1)
        rintro e w42 ⟨v913, rfl, ho0, hb⟩
        refine ⟨_, rfl, ?_⟩
        have n0_ := Aside0.mk (Kd.Q_elder' (B.kq HO_888003) (Kd.R_base ho0) hb)
        have n1_ := Aside0.mk (Kd.Q_elder' (B.kq HO_895003) (Kd.R_base ho0) hb)
        have n2_ := Aside0.mk (Kd.R_lower (Kd.R_new' (Kd.R_new' ho0 (Kd.Q_lt (B.kq HO_888003))) (Kd.Q_lt (B.kq HO_895003))) (below_size (B.bl HB)))
        have n3_ := Aside0.mk (blk_below (B.kb BK887) hb)
        have n4_ := Aside0.mk (blk_below (B.kb BK894) hb)
        have n5_ := Aside0.mk (below_step (B.bl HB) hb)
        clear HO_888003 HO_895003 BK887 BK894 HB
        have HO_888003 := n0_
        have HO_895003 := n1_
        have HO914 := n2_
        have BK887 := n3_
        have BK894 := n4_
        have HB := n5_
        clear n0_ n1_ n2_ n3_ n4_ n5_
        (try clear hb)
        (try clear hb2)
        (try clear hk)
        (try clear hi)
        (try clear ho0)
        obtain ⟨Ao43, co43, eo43⟩ := Kd.R_slice HO914.out
        (first | subst eo43 | (injection eo43 with f1_ f2_ f3_; have f4_ := f1_.symm; have f5_ := f3_.symm; clear f1_ f2_ f3_; subst f4_; subst f5_))
        refine hK.out _ _ ⟨B.bc BK894 0, B.bc BK894 1, B.bc BK894 2, B.bc BK894 3, B.bc BK887 0, B.bc BK887 1, B.bc BK887 2, B.bc BK887 3⟩ (fun hHeld => ?_)
        clear hK K
        refine norm_ (a' := ?_) ?_ ?_
        rotate_left
        · show Act.put _ (some 27) _ = _
          simp only [Act.put, List.setIfInBounds_toArray, List.set_cons_zero, List.set_cons_succ, i64_w, i32_w]
          rfl
        refine one_ (i := 3) (N := some 29) #[true, true, true, true, false, false, false, false, false, false, false, false, false, false, false] rfl rfl (one_of HT_.out (by kernel_rfl)) (by decide) (fun K hK => ?_)
        refine goes_ Try.func20 (by kernel_rfl) rfl #[.agg #[.int .i64 t909, .int .i64 t910, .int .i64 t911, .slice Ao43 t912.length co43], .agg #[.int .i64 t881, .int .i64 t882, .int .i64 t883, .slice Ao9 t884.length co9]] (by rfl) rfl rfl B.am ?_
        with_reducible refine (laws_equalImage.calls kj4 t909 t910 t911 _ _ t912 t881 t882 t883 _ _ t884 true _ ?side1 ?side2 ?side3 ?side4 A36.out).mono ?_
        (case side1 => exact B.kc ((Kd.R_reads' HO914.out).2.2))
        (case side2 => exact (Kd.R_reads' HO914.out).2.1)
        (case side3 => exact B.kc ((Kd.Q_reads' HO_888003.out).2.2))
        (case side4 => exact (Kd.Q_reads' HO_888003.out).2.1)
        rintro e w44 ⟨rfl, hb⟩
        refine ⟨_, rfl, ?_⟩
        have n0_ := Aside0.mk (Kd.Q_below (B.kq HO_888003) hb)
        have n1_ := Aside0.mk (Kd.Q_below (B.kq HO_895003) hb)
        have n2_ := Aside0.mk (Kd.R_below (B.kr HO914) hb)
        have n3_ := Aside0.mk (blk_below (B.kb BK887) hb)
        have n4_ := Aside0.mk (blk_below (B.kb BK894) hb)
        have n5_ := Aside0.mk (below_step (B.bl HB) hb)
        clear HO_888003 HO_895003 HO914 BK887 BK894 HB
        have HO_888003 := n0_
        have HO_895003 := n1_
        have HO914 := n2_
        have BK887 := n3_
        have BK894 := n4_
        have HB := n5_
        clear n0_ n1_ n2_ n3_ n4_ n5_
        (try clear hb)
        (try clear hb2)
        (try clear hk)
        (try clear hi)
        refine hK.out _ _ ⟨B.bc BK894 0, B.bc BK894 1, B.bc BK894 2, B.bc BK894 3, B.bc BK887 0, B.bc BK887 1, B.bc BK887 2, B.bc BK887 3⟩ (fun hHeld => ?_)
        clear hK K
        refine norm_ (a' := ?_) ?_ ?_
        rotate_left
        · show Act.put _ (some 29) _ = _
          simp only [Act.put, List.setIfInBounds_toArray, List.set_cons_zero, List.set_cons_succ, i64_w, i32_w]
          rfl
        refine pure_ (i := 4) (N := some 30) (v := ?_) (a' := ?_) #[true, true, true, true, true, false, false, false, false, false, false, false, false, false, false] rfl rfl (any_of HT_.out (by kernel_rfl)) (fun _ _ _ h => h) (Or.inl ⟨by rfl, ?_⟩) ?_ ?_
        rotate_left
        · intro w'
          go_simp
          with_reducible rfl
        rotate_left
        · simp only [Act.put, List.setIfInBounds_toArray, List.set_cons_zero, List.set_cons_succ, i64_w, i32_w]
          rfl
        refine pure_ (i := 6) (N := some 32) (v := ?_) (a' := ?_) #[true, true, true, true, true, false, true, false, false, false, false, false, false, false, false] rfl rfl (any_of HT_.out (by kernel_rfl)) (fun _ _ _ h => h) (Or.inl ⟨by rfl, ?_⟩) ?_ ?_
        rotate_left
        · intro w'
          go_simp
          with_reducible rfl
        rotate_left
        · simp only [Act.put, List.setIfInBounds_toArray, List.set_cons_zero, List.set_cons_succ, i64_w, i32_w]
          rfl
        refine take_ (i := 5) (N := some 31) (v := ?_) (a' := ?_) #[true, true, true, true, true, true, true, false, false, false, false, false, false, false, false] rfl rfl (take_ofW HT_.out HW_.out (by kernel_rfl)) (fun _ _ _ h => h) (Or.inl ⟨by rfl, ?_⟩) hHeld ?_ ?_
        rotate_left
        · rintro w' ⟨s0, s1, s2, s3, s4, s5, s6, s7⟩
          go_simp
          with_reducible rfl
        rotate_left
        · simp only [Act.put, List.setIfInBounds_toArray, List.set_cons_zero, List.set_cons_succ, i64_w, i32_w]
          rfl
        refine take_ (i := 7) (N := some 33) (v := ?_) (a' := ?_) #[true, true, true, true, true, true, true, true, false, false, false, false, false, false, false] rfl rfl (take_ofW HT_.out HW_.out (by kernel_rfl)) (fun _ _ _ h => h) (Or.inl ⟨by rfl, ?_⟩) hHeld ?_ ?_
        rotate_left
        · rintro w' ⟨s0, s1, s2, s3, s4, s5, s6, s7⟩
          go_simp
          with_reducible rfl
        rotate_left
        · simp only [Act.put, List.setIfInBounds_toArray, List.set_cons_zero, List.set_cons_succ, i64_w, i32_w]
          rfl
        refine pure_ (i := 8) (N := some 34) (v := ?_) (a' := ?_) #[true, true, true, true, true, true, true, true, true, false, false, false, false, false, false] rfl rfl (any_of HT_.out (by kernel_rfl)) (fun _ _ _ h => h) (Or.inl ⟨by rfl, ?_⟩) ?_ ?_
        rotate_left
        · intro w'
          go_simp
          with_reducible rfl
        rotate_left
        · simp only [Act.put, List.setIfInBounds_toArray, List.set_cons_zero, List.set_cons_succ, i64_w, i32_w]
          rfl
        refine take_ (i := 10) (N := some 36) (v := ?_) (a' := ?_) #[true, true, true, true, true, true, true, true, true, false, true, false, false, false, false] rfl rfl (take_ofW HT_.out HW_.out (by kernel_rfl)) (fun _ _ _ h => h) (Or.inl ⟨by rfl, ?_⟩) hHeld ?_ ?_
        rotate_left
        · rintro w' ⟨s0, s1, s2, s3, s4, s5, s6, s7⟩
          go_simp
          with_reducible rfl
        rotate_left
        · simp only [Act.put, List.setIfInBounds_toArray, List.set_cons_zero, List.set_cons_succ, i64_w, i32_w]
          rfl
        refine one_ (i := 9) (N := some 35) #[true, true, true, true, true, true, true, true, true, true, true, false, false, false, false] rfl rfl (one_of HT_.out (by kernel_rfl)) (by decide) (fun K hK => ?_)
        refine goes_ Try.func29 (by kernel_rfl) rfl #[.agg #[.int .i64 t888, .int .i64 t889, .int .i64 t890, .slice Ao14 t891.length co14], .int .i64 (wrap64 (t881 - 1)), .int .i64 0] (by rfl) rfl rfl B.am ?_
        with_reducible refine (impl_PixelAt.calls t888 t889 t890 _ _ t891 (wrap64 (t881 - 1)) 0 t916 _ ?side1 ?side2 A38.out).mono ?_
        (case side1 => exact B.kc ((Kd.Q_reads' HO_895003.out).2.2))
        (case side2 => exact (Kd.Q_reads' HO_895003.out).2.1)
        rintro e w45 ⟨v917, rfl, ho0, hb⟩
        refine ⟨_, rfl, ?_⟩
        have n0_ := Aside0.mk (Kd.Q_elder' (B.kq HO_888003) (Kd.R_base ho0) hb)
        have n1_ := Aside0.mk (Kd.Q_elder' (B.kq HO_895003) (Kd.R_base ho0) hb)
        have n2_ := Aside0.mk (Kd.R_elder' (B.kr HO914) (Kd.R_base ho0) hb)
        have n3_ := Aside0.mk (Kd.R_lower (Kd.R_new' (Kd.R_new' (Kd.R_new' ho0 (Kd.Q_lt (B.kq HO_888003))) (Kd.Q_lt (B.kq HO_895003))) (Kd.R_lt (B.kr HO914))) (below_size (B.bl HB)))
        have n4_ := Aside0.mk (blk_below (B.kb BK887) hb)
        have n5_ := Aside0.mk (blk_below (B.kb BK894) hb)
        have n6_ := Aside0.mk (below_step (B.bl HB) hb)
        clear HO_888003 HO_895003 HO914 BK887 BK894 HB
        have HO_888003 := n0_
        have HO_895003 := n1_
        have HO914 := n2_
        have HO918 := n3_
        have BK887 := n4_
        have BK894 := n5_
        have HB := n6_
        clear n0_ n1_ n2_ n3_ n4_ n5_ n6_
        (try clear hb)
        (try clear hb2)
        (try clear hk)
        (try clear hi)
        (try clear ho0)
        refine hK.out _ _ ⟨B.bc BK894 0, B.bc BK894 1, B.bc BK894 2, B.bc BK894 3, B.bc BK887 0, B.bc BK887 1, B.bc BK887 2, B.bc BK887 3⟩ (fun hHeld => ?_)
        clear hK K
        refine norm_ (a' := ?_) ?_ ?_
        rotate_left
        · show Act.put _ (some 35) _ = _
          simp only [Act.put, List.setIfInBounds_toArray, List.set_cons_zero, List.set_cons_succ, i64_w, i32_w]
          rfl
        refine one_ (i := 11) (N := some 37) #[true, true, true, true, true, true, true, true, true, true, true, true, false, false, false] rfl rfl (one_of HT_.out (by kernel_rfl)) (by decide) (fun K hK => ?_)
        refine goes_ Try.func29 (by kernel_rfl) rfl #[.agg #[.int .i64 t881, .int .i64 t882, .int .i64 t883, .slice Ao9 t884.length co9], .int .i64 0, .int .i64 0] (by rfl) rfl rfl B.am ?_
        with_reducible refine (impl_PixelAt.calls t881 t882 t883 _ _ t884 0 0 t919 _ ?side1 ?side2 A39.out).mono ?_
        (case side1 => exact B.kc ((Kd.Q_reads' HO_888003.out).2.2))
        (case side2 => exact (Kd.Q_reads' HO_888003.out).2.1)
        rintro e w46 ⟨v920, rfl, ho0, hb⟩
        refine ⟨_, rfl, ?_⟩
        have n0_ := Aside0.mk (Kd.Q_elder' (B.kq HO_888003) (Kd.R_base ho0) hb)
        have n1_ := Aside0.mk (Kd.Q_elder' (B.kq HO_895003) (Kd.R_base ho0) hb)
        have n2_ := Aside0.mk (Kd.R_elder' (B.kr HO914) (Kd.R_base ho0) hb)
        have n3_ := Aside0.mk (Kd.R_elder' (B.kr HO918) (Kd.R_base ho0) hb)
        have n4_ := Aside0.mk (Kd.R_lower (Kd.R_new' (Kd.R_new' (Kd.R_new' (Kd.R_new' ho0 (Kd.Q_lt (B.kq HO_888003))) (Kd.Q_lt (B.kq HO_895003))) (Kd.R_lt (B.kr HO914))) (Kd.R_lt (B.kr HO918))) (below_size (B.bl HB)))
        have n5_ := Aside0.mk (blk_below (B.kb BK887) hb)
        have n6_ := Aside0.mk (blk_below (B.kb BK894) hb)
        have n7_ := Aside0.mk (below_step (B.bl HB) hb)
        clear HO_888003 HO_895003 HO914 HO918 BK887 BK894 HB
        have HO_888003 := n0_
        have HO_895003 := n1_
        have HO914 := n2_
        have HO918 := n3_
        have HO921 := n4_
        have BK887 := n5_
        have BK894 := n6_
        have HB := n7_
        clear n0_ n1_ n2_ n3_ n4_ n5_ n6_ n7_
        (try clear hb)
        (try clear hb2)
        (try clear hk)
        (try clear hi)
        (try clear ho0)
        obtain ⟨Ao47, co47, eo47⟩ := Kd.R_slice HO918.out
        (first | subst eo47 | (injection eo47 with f1_ f2_ f3_; have f4_ := f1_.symm; have f5_ := f3_.symm; clear f1_ f2_ f3_; subst f4_; subst f5_))
        obtain ⟨Ao48, co48, eo48⟩ := Kd.R_slice HO921.out
        (first | subst eo48 | (injection eo48 with f1_ f2_ f3_; have f4_ := f1_.symm; have f5_ := f3_.symm; clear f1_ f2_ f3_; subst f4_; subst f5_))
        refine hK.out _ _ ⟨B.bc BK894 0, B.bc BK894 1, B.bc BK894 2, B.bc BK894 3, B.bc BK887 0, B.bc BK887 1, B.bc BK887 2, B.bc BK887 3⟩ (fun hHeld => ?_)
        clear hK K
        refine norm_ (a' := ?_) ?_ ?_
        rotate_left
        · show Act.put _ (some 37) _ = _
          simp only [Act.put, List.setIfInBounds_toArray, List.set_cons_zero, List.set_cons_succ, i64_w, i32_w]
          rfl
        refine one_ (i := 12) (N := some 38) #[true, true, true, true, true, true, true, true, true, true, true, true, true, false, false] rfl rfl (one_of HT_.out (by kernel_rfl)) (by decide) (fun K hK => ?_)
        refine goes_ Try.func30 (by kernel_rfl) rfl #[.slice Ao47 t916.length co47, .slice Ao48 t919.length co48] (by rfl) rfl rfl B.am ?_
        with_reducible refine (laws_equalInts.calls kj4 _ _ t916 _ _ t919 t922 _ ?side1 ?side2 ?side3 ?side4 A40.out).mono ?_
        (case side1 => exact B.kc ((Kd.R_reads' HO918.out).2.2))
        (case side2 => exact (Kd.R_reads' HO918.out).2.1)
        (case side3 => exact B.kc ((Kd.R_reads' HO921.out).2.2))
        (case side4 => exact (Kd.R_reads' HO921.out).2.1)
        rintro e w' ⟨rfl, ⟨nd, rfl⟩⟩
        refine ⟨_, rfl, ?_⟩
        refine hK.out _ _ ⟨B.bc BK894 0, B.bc BK894 1, B.bc BK894 2, B.bc BK894 3, B.bc BK887 0, B.bc BK887 1, B.bc BK887 2, B.bc BK887 3⟩ (fun hHeld => ?_)
        clear hK K
        refine norm_ (a' := ?_) ?_ ?_
        rotate_left
        · show Act.put _ (some 38) _ = _
          simp only [Act.put, List.setIfInBounds_toArray, List.set_cons_zero, List.set_cons_succ, i64_w, i32_w]
          rfl
        refine pure_ (i := 13) (N := some 39) (v := ?_) (a' := ?_) #[true, true, true, true, true, true, true, true, true, true, true, true, true, true, false] rfl rfl (any_of HT_.out (by kernel_rfl)) (fun _ _ _ h => h) (Or.inl ⟨by rfl, ?_⟩) ?_ ?_
        rotate_left
        · intro w'
          go_simp
          with_reducible rfl
        rotate_left
        · simp only [Act.put, List.setIfInBounds_toArray, List.set_cons_zero, List.set_cons_succ, i64_w, i32_w]
          rfl
        refine pure_ (i := 14) (N := some 2) (v := ?_) (a' := ?_) #[true, true, true, true, true, true, true, true, true, true, true, true, true, true, true] rfl rfl (any_of HT_.out (by kernel_rfl)) (fun _ _ _ h => h) (Or.inl ⟨by rfl, ?_⟩) ?_ ?_
        rotate_left
        · intro w'
          go_simp
          with_reducible rfl
        rotate_left
        · simp only [Act.put, List.setIfInBounds_toArray, List.set_cons_zero, List.set_cons_succ, i64_w, i32_w]
          rfl
        refine done_ (done_of HT_.out (by kernel_rfl)) ?_
        try go_wp2
        go_ret
        exact ⟨by first | rfl | (simp [errW_none, errW_some] <;> rfl) | (simp [*, errW_none, errW_some] <;> rfl), B.bl HB⟩
      replace c37 := Bool.eq_false_iff.mpr c37
      subst c37
      have H1 : (some false) = some r := by rw [if_neg (show ¬ (false = true) by decide)] at H; exact H
      clear H
      have H := H1
      clear H1
      obtain rfl := Option.some.inj H
      exact absurd ht_.out (by decide)

/-- THE ONE PURE STATEMENT of laws_FnMirrorImage: yours. -/
def laws_FnMirrorImage.Pure : Prop := ∀ (l0 : List Int), l0.length ≤ maxLen → l0.length * 1 ≤ 140737488351232 → (∀ x ∈ l0, (Lit.int .u8 x).wf = true) → ∃ k, laws_FnMirrorImage.f k l0 = some true
theorem laws_FnMirrorImage.walk (P : laws_FnMirrorImage.Pure) (a0 : Option Addr) (len0 cap0 : Nat) (z0 : List Int) (w : World) (w0 : (a0 = none ∧ len0 = 0 ∧ cap0 = 0 ∧ z0 = []) ∨ ∃ x, a0 = some x ∧ len0 ≤ cap0 ∧ cap0 ≤ maxLen ∧ z0.length = cap0 ∧ (∀ i, i < z0.length → w.cell? (x.add i) = some (.int .u8 (z0.getD i 0))) ∧ ∀ n ∈ z0, (Lit.int .u8 n).wf = true) (y0 : len0 * 1 ≤ 140737488351232) :
    Calls Try.prog 11 #[.slice a0 len0 cap0] w fun e w' => e = .returned (.bool true) ∧ Below w.heap.size w w' := by
  obtain ⟨l0, rfl, hr0, hm0, hw0, hc0⟩ := ReadsInt.ofRowC w0
  obtain ⟨k, h⟩ := P l0 hm0 y0 hw0
  refine (laws_FnMirrorImage.calls k _ _ l0 true w (Kd.C_of_reads (d := (0 : Int)) (h1 := fun _ => rfl) hr0) hc0 h ⟨rfl⟩).mono ?_
  rintro e w' ⟨rfl, hd⟩
  exact ⟨rfl, hd⟩

end Go.Proofs.Ytibbkaoghbmncaa.Q
