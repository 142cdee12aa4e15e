-- Written by a program of this session (the kit's printer, with hand-proved contracts for the functions that it does not take).
import Derived.Test.YtpadegboplcapaaQ0
import Derived.Test.YtpadegboplcapaaQ2
import Derived.Test.YtpadegboplcapaaQ5
import Derived.Test.YtpadegboplcapaaQ6
namespace Go.Proofs.Ytpadegboplcapaa.Q
open Go.RowKit Go.Proofs.YtpadegboplcapaaW.PrintWords Go.Proofs.YtpadegboplcapaaW.PrintLast Go.Proofs.YtpadegboplcapaaW.PrintMore
attribute [local go_sem] max2_int min2_int max_two min_two max_three min_three max_four min_four   -- for this text's walks alone
set_option linter.unusedVariables false
set_option linter.unusedSimpArgs false

/-! ### spec_randomImage: function 59 -/
def spec_randomImage.l0 : Nat → Int → Int → Int → List Int → Int → Int → Int → Int → List Int → Option (Int × Int × Int × List Int × Int)
  | 0, _, _, _, _, _, _, _, _, _ => none
  | k + 1, x6, x7, x8, x1000, x1001, x249000, x249001, x249002, x249003 => if x8 < (x249003.length : Int) then (if x6 = 0 then ((spec_reader_pick.f k x1000 x1001 256).bind fun bt253 => (if 0 ≤ x8 then (spec_randomImage.l0 k x6 bt253.1 (wrap64 (x8 + 1)) x1000 bt253.2 x249000 x249001 x249002 (x249003.set (x8 : Int).toNat bt253.1)) else (none))) else (if x6 = 1 then ((spec_reader_pick.f k x1000 x1001 5).bind fun bt256 => (if 0 ≤ x8 then (spec_randomImage.l0 k x6 (Int.tmod (wrap64 ((wrap64 (x7 + bt256.1)) + 254)) 256) (wrap64 (x8 + 1)) x1000 bt256.2 x249000 x249001 x249002 (x249003.set (x8 : Int).toNat (Int.tmod (wrap64 ((wrap64 (x7 + bt256.1)) + 254)) 256))) else (none))) else (if x6 = 2 then ((spec_reader_pick.f k x1000 x1001 4).bind fun bt259 => (if 0 ≤ x8 then (spec_randomImage.l0 k x6 (wrap64 (60 * bt259.1)) (wrap64 (x8 + 1)) x1000 bt259.2 x249000 x249001 x249002 (x249003.set (x8 : Int).toNat (wrap64 (60 * bt259.1)))) else (none))) else (if 0 ≤ x8 then (spec_randomImage.l0 k x6 x7 (wrap64 (x8 + 1)) x1000 x1001 x249000 x249001 x249002 (x249003.set (x8 : Int).toNat x7)) else (none))))) else (some (x249000, x249001, x249002, x249003, x1001))
def spec_randomImage.f (k : Nat) (s0_0 : List Int) (s0_1 : Int) (a1 : Int) : Option (Int × Int × Int × List Int × Int) := (spec_reader_one.f k s0_0 s0_1 (([3, 4, 2, 5, 1, 8, 6] : List Int))).bind fun bt235 => ((spec_reader_one.f k s0_0 bt235.2 (([3, 2, 4, 1, 5, 8] : List Int))).bind fun bt240 => ((spec_newImage.f bt235.1 bt240.1 a1).bind fun bt242 => ((spec_reader_pick.f k s0_0 bt240.2 4).bind fun bt249 => ((spec_reader_pick.f k s0_0 bt249.2 256).bind fun bt251 => (spec_randomImage.l0 k bt249.1 bt251.1 0 s0_0 bt251.2 bt242.1 bt242.2.1 bt242.2.2.1 bt242.2.2.2)))))
theorem spec_randomImage.mono_l : ∀ k, (∀ y0 y1 y2 y3 y4 y5 y6 y7 y8, LeO (spec_randomImage.l0 k y0 y1 y2 y3 y4 y5 y6 y7 y8) (spec_randomImage.l0 (k + 1) y0 y1 y2 y3 y4 y5 y6 y7 y8))
  | 0 => fun _ _ _ _ _ _ _ _ _ r h => by simp [spec_randomImage.l0] at h
  | k + 1 => by
    have ih0 := spec_randomImage.mono_l k
    · intro y0 y1 y2 y3 y4 y5 y6 y7 y8
      unfold spec_randomImage.l0
      repeat' first
      | (with_reducible exact ih0 _ _ _ _ _ _ _ _ _)
      | (with_reducible exact spec_reader_one.mono _ _ _ _)
      | (with_reducible exact spec_reader_pick.mono _ _ _ _)
      | (with_reducible exact LeO.refl _)
      | (with_reducible exact LeO.none _)
      | (with_reducible refine LeO.ite ?_ ?_)
      | (with_reducible refine LeO.bind ?_ (fun _ => ?_))
      | exact ih0 _ _ _ _ _ _ _ _ _
      | exact spec_reader_one.mono _ _ _ _
      | exact spec_reader_pick.mono _ _ _ _
      | exact LeO.none _
      | refine LeO.ite ?_ ?_
      | refine LeO.bind ?_ (fun _ => ?_)
theorem spec_randomImage.mono : ∀ a0 a1 a2 k, LeO (spec_randomImage.f k a0 a1 a2) (spec_randomImage.f (k + 1) a0 a1 a2) := by
  intro a0 a1 a2 k
  have ih0 := spec_randomImage.mono_l k
  unfold spec_randomImage.f
  repeat' first
      | (with_reducible exact ih0 _ _ _ _ _ _ _ _ _)
      | (with_reducible exact spec_reader_one.mono _ _ _ _)
      | (with_reducible exact spec_reader_pick.mono _ _ _ _)
      | (with_reducible exact LeO.refl _)
      | (with_reducible exact LeO.none _)
      | (with_reducible refine LeO.ite ?_ ?_)
      | (with_reducible refine LeO.bind ?_ (fun _ => ?_))
      | exact ih0 _ _ _ _ _ _ _ _ _
      | exact spec_reader_one.mono _ _ _ _
      | exact spec_reader_pick.mono _ _ _ _
      | exact LeO.none _
      | refine LeO.ite ?_ ?_
      | refine LeO.bind ?_ (fun _ => ?_)
set_option maxHeartbeats 8000000 in
set_option maxRecDepth 100000 in
theorem spec_randomImage.calls (k : Nat) (g : Nat) (s0_0 : List Int) (s0_1 : Int) (a1 : Int) (r1 : Int) (r2 : Int) (r3 : Int) (r4 : List Int) (r5 : Int) (w0 w : World) (hI : IsS74 w0 w g s0_0 s0_1) (hB : Below w0.heap.size w0 w) (h : spec_randomImage.f k s0_0 s0_1 a1 = some (r1, r2, r3, r4, r5)) :
    Calls Try.prog 59 #[.pointer (some ⟨g, 0, none⟩), .int .i64 a1] w fun e w' => ∃ v3_ : Value, e = .returned (.agg #[.int .i64 r1, .int .i64 r2, .int .i64 r3, v3_]) ∧ Kd.R (Kd.int .i64) 3 w' w.heap.size (fun _ => True) v3_ r4 ∧ IsS74 w0 w' g s0_0 r5 ∧ Below w0.heap.size w0 w' ∧ KeepBut w w' g none := by
  have hu34 := Try.underlying34
  have HI0 := Aside0.mk hI
  have HK := Aside0.mk (KeepBut.refl w g none)
  have HL := Aside0.mk hB.size
  clear hI
  have HW0 := Aside0.mk hB.size
  have HB := Aside0.mk hB
  clear hB
  have H : ((spec_reader_one.f k s0_0 s0_1 (([3, 4, 2, 5, 1, 8, 6] : List Int))).bind fun bt235 => ((spec_reader_one.f k s0_0 bt235.2 (([3, 2, 4, 1, 5, 8] : List Int))).bind fun bt240 => ((spec_newImage.f bt235.1 bt240.1 a1).bind fun bt242 => ((spec_reader_pick.f k s0_0 bt240.2 4).bind fun bt249 => ((spec_reader_pick.f k s0_0 bt249.2 256).bind fun bt251 => (spec_randomImage.l0 k bt249.1 bt251.1 0 s0_0 bt251.2 bt242.1 bt242.2.1 bt242.2.2.1 bt242.2.2.2)))))) = some (r1, r2, r3, r4, r5) := h
  clear h
  obtain ⟨y232, hy232⟩ : ∃ y_ : List Int, y_ = (([3, 4, 2, 5, 1, 8, 6] : List Int)) := ⟨_, rfl⟩
  replace H : ((spec_reader_one.f k s0_0 s0_1 y232).bind fun bt235 => ((spec_reader_one.f k s0_0 bt235.2 (([3, 2, 4, 1, 5, 8] : List Int))).bind fun bt240 => ((spec_newImage.f bt235.1 bt240.1 a1).bind fun bt242 => ((spec_reader_pick.f k s0_0 bt240.2 4).bind fun bt249 => ((spec_reader_pick.f k s0_0 bt249.2 256).bind fun bt251 => (spec_randomImage.l0 k bt249.1 bt251.1 0 s0_0 bt251.2 bt242.1 bt242.2.1 bt242.2.2.1 bt242.2.2.2)))))) = some (r1, r2, r3, r4, r5) := by first | (rw [hy232]; with_reducible exact H) | (have H2_ := (Option.bind_some _ _).symm.trans H; rw [hy232]; with_reducible exact H2_) | (have H2_ := (Option.bind_some _ _).symm.trans H; with_reducible exact H2_) | with_reducible exact H | (rw [hy232]; exact H) | exact H
  have Ny232 := Aside0.mk hy232
  clear hy232
  replace H := Option.bind_eq_some_iff.mp H
  obtain ⟨⟨t235, t236⟩, A30, H⟩ := H
  replace H : ((spec_reader_one.f k s0_0 t236 (([3, 2, 4, 1, 5, 8] : List Int))).bind fun bt240 => ((spec_newImage.f t235 bt240.1 a1).bind fun bt242 => ((spec_reader_pick.f k s0_0 bt240.2 4).bind fun bt249 => ((spec_reader_pick.f k s0_0 bt249.2 256).bind fun bt251 => (spec_randomImage.l0 k bt249.1 bt251.1 0 s0_0 bt251.2 bt242.1 bt242.2.1 bt242.2.2.1 bt242.2.2.2))))) = some (r1, r2, r3, r4, r5) := H
  have A3 := Aside0.mk A30
  clear A30
  obtain ⟨y237, hy237⟩ : ∃ y_ : List Int, y_ = (([3, 2, 4, 1, 5, 8] : List Int)) := ⟨_, rfl⟩
  replace H : ((spec_reader_one.f k s0_0 t236 y237).bind fun bt240 => ((spec_newImage.f t235 bt240.1 a1).bind fun bt242 => ((spec_reader_pick.f k s0_0 bt240.2 4).bind fun bt249 => ((spec_reader_pick.f k s0_0 bt249.2 256).bind fun bt251 => (spec_randomImage.l0 k bt249.1 bt251.1 0 s0_0 bt251.2 bt242.1 bt242.2.1 bt242.2.2.1 bt242.2.2.2))))) = some (r1, r2, r3, r4, r5) := by first | (rw [hy237]; with_reducible exact H) | (have H2_ := (Option.bind_some _ _).symm.trans H; rw [hy237]; with_reducible exact H2_) | (have H2_ := (Option.bind_some _ _).symm.trans H; with_reducible exact H2_) | with_reducible exact H | (rw [hy237]; exact H) | exact H
  have Ny237 := Aside0.mk hy237
  clear hy237
  replace H := Option.bind_eq_some_iff.mp H
  obtain ⟨⟨t240, t241⟩, A40, H⟩ := H
  replace H : ((spec_newImage.f t235 t240 a1).bind fun bt242 => ((spec_reader_pick.f k s0_0 t241 4).bind fun bt249 => ((spec_reader_pick.f k s0_0 bt249.2 256).bind fun bt251 => (spec_randomImage.l0 k bt249.1 bt251.1 0 s0_0 bt251.2 bt242.1 bt242.2.1 bt242.2.2.1 bt242.2.2.2)))) = some (r1, r2, r3, r4, r5) := H
  have A4 := Aside0.mk A40
  clear A40
  replace H := Option.bind_eq_some_iff.mp H
  obtain ⟨⟨t242, t243, t244, t245⟩, A50, H⟩ := H
  replace H : ((spec_reader_pick.f k s0_0 t241 4).bind fun bt249 => ((spec_reader_pick.f k s0_0 bt249.2 256).bind fun bt251 => (spec_randomImage.l0 k bt249.1 bt251.1 0 s0_0 bt251.2 t242 t243 t244 t245))) = some (r1, r2, r3, r4, r5) := H
  have A5 := Aside0.mk A50
  clear A50
  replace H := Option.bind_eq_some_iff.mp H
  obtain ⟨⟨t249, t250⟩, A60, H⟩ := H
  replace H : ((spec_reader_pick.f k s0_0 t250 256).bind fun bt251 => (spec_randomImage.l0 k t249 bt251.1 0 s0_0 bt251.2 t242 t243 t244 t245)) = some (r1, r2, r3, r4, r5) := H
  have A6 := Aside0.mk A60
  clear A60
  replace H := Option.bind_eq_some_iff.mp H
  obtain ⟨⟨t251, t252⟩, A70, H⟩ := H
  replace H : (spec_randomImage.l0 k t249 t251 0 s0_0 t252 t242 t243 t244 t245) = some (r1, r2, r3, r4, r5) := H
  have A7 := Aside0.mk A70
  clear A70
  have H' := Aside0.mk H
  clear H
  go_enter Try.func59, Try.ntmps59
  go_wp2_with (first | ((with_reducible refine gate_dst (N := 4) rfl ?_); refine box_event ?hg (N := 4) ?hd (cs := #[.int .i64 0, .int .i64 0, .int .i64 0, .slice none 0 0]) (t := 34) ?hr ?_; (case hd => rfl); (case hg => rfl); (case hr => first | (go_simp; done) | (go_simp; rfl)); intro gb231 hg w8 hbox hb; have n0_ := Aside0.mk (IsS74.below (B.st HI0) hb); have n1_ := Aside0.mk (KeepBut.trans (B.kk HK) (KeepBut.of_below hb g none) (.inl rfl)); have n2_ := Aside0.mk (below_step (B.bs HB) hb); have n3_ := Aside0.mk (hbox); have n4_ := Aside0.mk ((by rw [hg]; exact (keep_size (w := w) (g := g) (row := none) (B.kk HK)) : w.heap.size ≤ gb231)); have n5_ := Aside0.mk ((Nat.le_trans HW0.out (by rw [hg]; exact (keep_size (w := w) (g := g) (row := none) (B.kk HK)) : w.heap.size ≤ gb231) : w0.heap.size ≤ gb231)); have n6_ := Aside0.mk ((by rw [hg]; exact Nat.ne_of_lt (IsS74.lt (show IsS74 w0 _ g s0_0 s0_1 from B.st HI0)) : g ≠ gb231)); have n7_ := Aside0.mk ((by rw [hg]; exact Nat.ne_of_gt (IsS74.lt (show IsS74 w0 _ g s0_0 s0_1 from B.st HI0)) : gb231 ≠ g)); clear HI0 HK HB; have HI0 := n0_; have HK := n1_; have HB := n2_; have BK231 := n3_; have GW231 := n4_; have GE231 := n5_; have NB0_231 := n6_; have NB231_0 := n7_; clear n0_ n1_ n2_ n3_ n4_ n5_ n6_ n7_; clear hb hbox hg) | ((with_reducible refine gate_dst (N := 10) rfl ?_); refine Kd.R_lit (Kd.int .i64) _ 3 ?hg (N := 10) ?hd (xs := ([3, 4, 2, 5, 1, 8, 6] : List Int)) (inner := [.int .i64 3, .int .i64 4, .int .i64 2, .int .i64 5, .int .i64 1, .int .i64 8, .int .i64 6]) (ok := fun _ => True) (okp := fun _ => True) ?hr ?hp (fun _ hk => hk) trivial (Below.refl _ _) (Nat.le_refl _) (by simp) ?_; (case hd => rfl); (case hg => rfl); (case hr => first | (go_simp; done) | (go_simp; rfl)); (case hp => exact (Reps.one (show Kd.M (Kd.int .i64) _ _ _ 3 [.int .i64 3] from rfl) (Reps.one (show Kd.M (Kd.int .i64) _ _ _ 4 [.int .i64 4] from rfl) (Reps.one (show Kd.M (Kd.int .i64) _ _ _ 2 [.int .i64 2] from rfl) (Reps.one (show Kd.M (Kd.int .i64) _ _ _ 5 [.int .i64 5] from rfl) (Reps.one (show Kd.M (Kd.int .i64) _ _ _ 1 [.int .i64 1] from rfl) (Reps.one (show Kd.M (Kd.int .i64) _ _ _ 8 [.int .i64 8] from rfl) (Reps.one (show Kd.M (Kd.int .i64) _ _ _ 6 [.int .i64 6] from rfl) (Reps.none _ _))))))))); intro v233 w9 ho10 hb hg_ hnew_; clear hg_ hnew_; (first | rw [← Ny232.out] at ho10 | (simp only [Int.reduceToNat] at ho10; rw [← Ny232.out] at ho10)); have n0_ := Aside0.mk (Kd.R_lower ho10 (keep_size (w := w) (g := g) (row := none) (B.kk HK))); have n1_ := Aside0.mk (IsS74.below (B.st HI0) hb); have n2_ := Aside0.mk (blk_below (B.kb BK231) hb); have n3_ := Aside0.mk (KeepBut.trans (B.kk HK) (KeepBut.of_below hb g none) (.inl rfl)); have n4_ := Aside0.mk (below_step (B.bs HB) hb); clear HI0 BK231 HK HB; have HO234 := n0_; have HI0 := n1_; have BK231 := n2_; have HK := n3_; have HB := n4_; clear n0_ n1_ n2_ n3_ n4_; clear hb ho10; obtain ⟨Ao11, co11, eo11⟩ := Kd.R_slice HO234.out; subst eo11) | ((with_reducible refine gate_callee (f := 62) rfl ?_); refine goesL_ (some 11) rfl rfl Try.func62 (by kernel_rfl) rfl #[.pointer (some ⟨g, 0, none⟩), .slice Ao11 y232.length co11] rfl B.am ?_; (with_reducible refine (spec_reader_one.calls k g s0_0 s0_1 _ _ y232 t235 t236 w0 _ ?side1 ?side2 ?side3 ?side4 ?side5 A3.out).mono ?_); (case side1 => exact B.st HI0); (case side2 => exact B.bs HB); (case side3 => exact B.kc ((Kd.R_reads' HO234.out).2.2)); (case side4 => exact (Kd.R_reads' HO234.out).2.1); (case side5 => exact far_slice (IsS74.own_ne HI0.out HO234.out (by decide))); rintro e w12 ⟨rfl, hi, hb, hk⟩; refine ⟨_, rfl, ?_⟩; have n0_ := Aside0.mk (KeepBut.blk hk (g' := gb231) (o := .cells #[.int .i64 0, .int .i64 0, .int .i64 0, .slice none 0 0] 34 (0, 0)) (B.kb BK231) NB231_0.out (by simp)); have n1_ := Aside0.mk (Kd.R_mono (Kd.R_keep (IsS74.apart (show IsS74 w0 _ g s0_0 s0_1 from B.st HI0) (B.kr HO234) (by decide)) hk (fun _ h => h.2)) (fun _ h => h.1)); have n2_ := Aside0.mk (KeepBut.trans (B.kk HK) hk (.inl rfl)); have n3_ := Aside0.mk (hb); have n4_ := Aside0.mk (hi); clear BK231 HO234 HK HB HI0; have BK231 := n0_; have HO234 := n1_; have HK := n2_; have HB := n3_; have HI0 := n4_; clear n0_ n1_ n2_ n3_ n4_; (try clear hb); (try clear hb2); (try clear hk); (try clear hi)) | ((with_reducible refine gate_dst (N := 13) rfl ?_); refine Kd.R_lit (Kd.int .i64) _ 3 ?hg (N := 13) ?hd (xs := ([3, 2, 4, 1, 5, 8] : List Int)) (inner := [.int .i64 3, .int .i64 2, .int .i64 4, .int .i64 1, .int .i64 5, .int .i64 8]) (ok := fun _ => True) (okp := fun _ => True) ?hr ?hp (fun _ hk => hk) trivial (Below.refl _ _) (Nat.le_refl _) (by simp) ?_; (case hd => rfl); (case hg => rfl); (case hr => first | (go_simp; done) | (go_simp; rfl)); (case hp => exact (Reps.one (show Kd.M (Kd.int .i64) _ _ _ 3 [.int .i64 3] from rfl) (Reps.one (show Kd.M (Kd.int .i64) _ _ _ 2 [.int .i64 2] from rfl) (Reps.one (show Kd.M (Kd.int .i64) _ _ _ 4 [.int .i64 4] from rfl) (Reps.one (show Kd.M (Kd.int .i64) _ _ _ 1 [.int .i64 1] from rfl) (Reps.one (show Kd.M (Kd.int .i64) _ _ _ 5 [.int .i64 5] from rfl) (Reps.one (show Kd.M (Kd.int .i64) _ _ _ 8 [.int .i64 8] from rfl) (Reps.none _ _)))))))); intro v238 w13 ho14 hb hg_ hnew_; clear hg_ hnew_; (first | rw [← Ny237.out] at ho14 | (simp only [Int.reduceToNat] at ho14; rw [← Ny237.out] at ho14)); have n0_ := Aside0.mk (Kd.R_elder' (B.kr HO234) (Kd.R_base ho14) hb); have n1_ := Aside0.mk (Kd.R_lower (Kd.R_new' ho14 (Kd.R_lt (B.kr HO234))) (keep_size (w := w) (g := g) (row := none) (B.kk HK))); have n2_ := Aside0.mk (IsS74.below (B.st HI0) hb); have n3_ := Aside0.mk (blk_below (B.kb BK231) hb); have n4_ := Aside0.mk (KeepBut.trans (B.kk HK) (KeepBut.of_below hb g none) (.inl rfl)); have n5_ := Aside0.mk (below_step (B.bs HB) hb); clear HO234 HI0 BK231 HK HB; have HO234 := n0_; have HO239 := n1_; have HI0 := n2_; have BK231 := n3_; have HK := n4_; have HB := n5_; clear n0_ n1_ n2_ n3_ n4_ n5_; clear hb ho14; obtain ⟨Ao15, co15, eo15⟩ := Kd.R_slice HO239.out; subst eo15) | ((with_reducible refine gate_callee (f := 62) rfl ?_); refine goesL_ (some 14) rfl rfl Try.func62 (by kernel_rfl) rfl #[.pointer (some ⟨g, 0, none⟩), .slice Ao15 y237.length co15] rfl B.am ?_; (with_reducible refine (spec_reader_one.calls k g s0_0 t236 _ _ y237 t240 t241 w0 _ ?side1 ?side2 ?side3 ?side4 ?side5 A4.out).mono ?_); (case side1 => exact B.st HI0); (case side2 => exact B.bs HB); (case side3 => exact B.kc ((Kd.R_reads' HO239.out).2.2)); (case side4 => exact (Kd.R_reads' HO239.out).2.1); (case side5 => exact far_slice (IsS74.own_ne HI0.out HO239.out (by decide))); rintro e w16 ⟨rfl, hi, hb, hk⟩; refine ⟨_, rfl, ?_⟩; have n0_ := Aside0.mk (KeepBut.blk hk (g' := gb231) (o := .cells #[.int .i64 0, .int .i64 0, .int .i64 0, .slice none 0 0] 34 (0, 0)) (B.kb BK231) NB231_0.out (by simp)); have n1_ := Aside0.mk (Kd.R_mono (Kd.R_keep (IsS74.apart (show IsS74 w0 _ g s0_0 t236 from B.st HI0) (B.kr HO234) (by decide)) hk (fun _ h => h.2)) (fun _ h => h.1)); have n2_ := Aside0.mk (Kd.R_mono (Kd.R_keep (IsS74.apart (show IsS74 w0 _ g s0_0 t236 from B.st HI0) (B.kr HO239) (by decide)) hk (fun _ h => h.2)) (fun _ h => h.1)); have n3_ := Aside0.mk (KeepBut.trans (B.kk HK) hk (.inl rfl)); have n4_ := Aside0.mk (hb); have n5_ := Aside0.mk (hi); clear BK231 HO234 HO239 HK HB HI0; have BK231 := n0_; have HO234 := n1_; have HO239 := n2_; have HK := n3_; have HB := n4_; have HI0 := n5_; clear n0_ n1_ n2_ n3_ n4_ n5_; (try clear hb); (try clear hb2); (try clear hk); (try clear hi)) | ((with_reducible refine gate_callee (f := 65) rfl ?_); refine goesL_ (some 16) rfl rfl Try.func65 (by kernel_rfl) rfl #[.int .i64 t235, .int .i64 t240, .int .i64 a1] rfl B.am ?_; (with_reducible refine (spec_newImage.calls t235 t240 a1 t242 t243 t244 t245 _ A5.out).mono ?_); rintro e w17 ⟨v246, rfl, ho0, hb⟩; refine ⟨_, rfl, ?_⟩; have n0_ := Aside0.mk (Kd.R_elder' (B.kr HO234) (Kd.R_base ho0) hb); have n1_ := Aside0.mk (Kd.R_elder' (B.kr HO239) (Kd.R_base ho0) hb); have n2_ := Aside0.mk (Kd.R_lower (Kd.R_new' (Kd.R_new' ho0 (Kd.R_lt (B.kr HO234))) (Kd.R_lt (B.kr HO239))) (keep_size (w := w) (g := g) (row := none) (B.kk HK))); have n3_ := Aside0.mk (IsS74.below (B.st HI0) hb); have n4_ := Aside0.mk (blk_below (B.kb BK231) hb); have n5_ := Aside0.mk (KeepBut.trans (B.kk HK) (KeepBut.of_below hb g none) (.inl rfl)); have n6_ := Aside0.mk (below_step (B.bs HB) hb); clear HO234 HO239 HI0 BK231 HK HB; have HO234 := n0_; have HO239 := n1_; have HO247 := n2_; have HI0 := n3_; have BK231 := n4_; have HK := n5_; have HB := n6_; clear n0_ n1_ n2_ n3_ n4_ n5_ n6_; (try clear hb); (try clear hb2); (try clear hk); (try clear hi); (try clear ho0)) | ((with_reducible refine gate_dst (N := 5) rfl ?_); refine box_event ?hg (N := 5) ?hd (cs := #[.int .i64 0, .int .i64 0, .int .i64 0, .slice none 0 0]) (t := 34) ?hr ?_; (case hd => rfl); (case hg => rfl); (case hr => first | (go_simp; done) | (go_simp; rfl)); intro gb248 hg w18 hbox hb; have n0_ := Aside0.mk (Kd.R_below (B.kr HO234) hb); have n1_ := Aside0.mk (Kd.R_below (B.kr HO239) hb); have n2_ := Aside0.mk (Kd.R_below (B.kr HO247) hb); have n3_ := Aside0.mk (IsS74.below (B.st HI0) hb); have n4_ := Aside0.mk (blk_below (B.kb BK231) hb); have n5_ := Aside0.mk (KeepBut.trans (B.kk HK) (KeepBut.of_below hb g none) (.inl rfl)); have n6_ := Aside0.mk (below_step (B.bs HB) hb); have n7_ := Aside0.mk (hbox); have n8_ := Aside0.mk ((by rw [hg]; exact (keep_size (w := w) (g := g) (row := none) (B.kk HK)) : w.heap.size ≤ gb248)); have n9_ := Aside0.mk ((Nat.le_trans HW0.out (by rw [hg]; exact (keep_size (w := w) (g := g) (row := none) (B.kk HK)) : w.heap.size ≤ gb248) : w0.heap.size ≤ gb248)); have n10_ := Aside0.mk (B.nlt hg (blk_lt (B.kb BK231))); have n11_ := Aside0.mk (B.ngt hg (blk_lt (B.kb BK231))); have n12_ := Aside0.mk ((by rw [hg]; exact Nat.ne_of_lt (IsS74.lt (show IsS74 w0 _ g s0_0 t241 from B.st HI0)) : g ≠ gb248)); have n13_ := Aside0.mk ((by rw [hg]; exact Nat.ne_of_gt (IsS74.lt (show IsS74 w0 _ g s0_0 t241 from B.st HI0)) : gb248 ≠ g)); clear HO234 HO239 HO247 HI0 BK231 HK HB; have HO234 := n0_; have HO239 := n1_; have HO247 := n2_; have HI0 := n3_; have BK231 := n4_; have HK := n5_; have HB := n6_; have BK248 := n7_; have GW248 := n8_; have GE248 := n9_; have NB231_248 := n10_; have NB248_231 := n11_; have NB0_248 := n12_; have NB248_0 := n13_; clear n0_ n1_ n2_ n3_ n4_ n5_ n6_ n7_ n8_ n9_ n10_ n11_ n12_ n13_; clear hb hbox hg; have hnb19 := NB248_231.out; have hnc19 := NB231_248.out; have hnb20 := NB248_0.out; have hnc20 := NB0_248.out; have hcz21_0 : w18.cell? ⟨gb248, 0, none⟩ = some (.int .i64 0) := B.bc BK248 0; have hcz21_1 : w18.cell? ⟨gb248, 1, none⟩ = some (.int .i64 0) := B.bc BK248 1; have hcz21_2 : w18.cell? ⟨gb248, 2, none⟩ = some (.int .i64 0) := B.bc BK248 2; have hcz21_3 : w18.cell? ⟨gb248, 3, none⟩ = some (.slice none 0 0) := B.bc BK248 3; have hfz21_0 := blk_frozen BK248.out 0; have hfz21_1 := blk_frozen BK248.out 1; have hfz21_2 := blk_frozen BK248.out 2; have hfz21_3 := blk_frozen BK248.out 3; obtain ⟨Ao22, co22, eo22⟩ := Kd.R_slice HO247.out; subst eo22) | ((with_reducible refine gate_callee (f := 43) rfl ?_); refine goesL_ (some 18) rfl rfl Try.func43 (by kernel_rfl) rfl #[.pointer (some ⟨g, 0, none⟩), .int .i64 4] rfl B.am ?_; (with_reducible refine (spec_reader_pick.calls k g s0_0 t241 4 t249 t250 w0 _ ?side1 ?side2 A6.out).mono ?_); (case side1 => exact B.st HI0); (case side2 => exact B.bs HB); rintro e w23 ⟨rfl, hi, hb, hk⟩; refine ⟨_, rfl, ?_⟩; have n0_ := Aside0.mk (KeepBut.blk hk (g' := gb231) (o := .cells #[.int .i64 0, .int .i64 0, .int .i64 0, .slice none 0 0] 34 (0, 0)) (B.kb0 (B.bf4 BK231 NB231_248)) NB231_0.out (by simp)); have n1_ := Aside0.mk (Kd.R_mono (Kd.R_keep (IsS74.apart (show IsS74 w0 _ g s0_0 t241 from B.st HI0) (B.kr0 (B.rs4 HO234 BK248)) (by decide)) hk (fun _ h => h.2)) (fun _ h => h.1)); have n2_ := Aside0.mk (Kd.R_mono (Kd.R_keep (IsS74.apart (show IsS74 w0 _ g s0_0 t241 from B.st HI0) (B.kr0 (B.rs4 HO239 BK248)) (by decide)) hk (fun _ h => h.2)) (fun _ h => h.1)); have n3_ := Aside0.mk (Kd.R_mono (Kd.R_keep (IsS74.apart (show IsS74 w0 _ g s0_0 t241 from B.st HI0) (B.kr0 (B.rs4 HO247 BK248)) (by decide)) hk (fun _ h => h.2)) (fun _ h => h.1)); have n4_ := Aside0.mk (KeepBut.blk hk (g' := gb248) (o := .cells #[.int .i64 t242, .int .i64 t243, .int .i64 t244, .slice Ao22 t245.length co22] 34 (0, 0)) (B.kb0 (B.bp4 BK248)) NB248_0.out (by simp)); have n5_ := Aside0.mk (KeepBut.trans (B.kk HK) hk (.inl rfl)); have n6_ := Aside0.mk (hb); have n7_ := Aside0.mk (hi); clear BK231 HO234 HO239 HO247 BK248 HK HB HI0; have BK231 := n0_; have HO234 := n1_; have HO239 := n2_; have HO247 := n3_; have BK248 := n4_; have HK := n5_; have HB := n6_; have HI0 := n7_; clear n0_ n1_ n2_ n3_ n4_ n5_ n6_ n7_; (try clear hb); (try clear hb2); (try clear hk); (try clear hi)) | ((with_reducible refine gate_callee (f := 43) rfl ?_); refine goesL_ (some 20) rfl rfl Try.func43 (by kernel_rfl) rfl #[.pointer (some ⟨g, 0, none⟩), .int .i64 256] rfl B.am ?_; (with_reducible refine (spec_reader_pick.calls k g s0_0 t250 256 t251 t252 w0 _ ?side1 ?side2 A7.out).mono ?_); (case side1 => exact B.st HI0); (case side2 => exact B.bs HB); rintro e w24 ⟨rfl, hi, hb, hk⟩; refine ⟨_, rfl, ?_⟩; have n0_ := Aside0.mk (KeepBut.blk hk (g' := gb231) (o := .cells #[.int .i64 0, .int .i64 0, .int .i64 0, .slice none 0 0] 34 (0, 0)) (B.kb BK231) NB231_0.out (by simp)); have n1_ := Aside0.mk (Kd.R_mono (Kd.R_keep (IsS74.apart (show IsS74 w0 _ g s0_0 t250 from B.st HI0) (B.kr HO234) (by decide)) hk (fun _ h => h.2)) (fun _ h => h.1)); have n2_ := Aside0.mk (Kd.R_mono (Kd.R_keep (IsS74.apart (show IsS74 w0 _ g s0_0 t250 from B.st HI0) (B.kr HO239) (by decide)) hk (fun _ h => h.2)) (fun _ h => h.1)); have n3_ := Aside0.mk (Kd.R_mono (Kd.R_keep (IsS74.apart (show IsS74 w0 _ g s0_0 t250 from B.st HI0) (B.kr HO247) (by decide)) hk (fun _ h => h.2)) (fun _ h => h.1)); have n4_ := Aside0.mk (KeepBut.blk hk (g' := gb248) (o := .cells #[.int .i64 t242, .int .i64 t243, .int .i64 t244, .slice Ao22 t245.length co22] 34 (0, 0)) (B.kb BK248) NB248_0.out (by simp)); have n5_ := Aside0.mk (KeepBut.trans (B.kk HK) hk (.inl rfl)); have n6_ := Aside0.mk (hb); have n7_ := Aside0.mk (hi); clear BK231 HO234 HO239 HO247 BK248 HK HB HI0; have BK231 := n0_; have HO234 := n1_; have HO239 := n2_; have HO247 := n3_; have BK248 := n4_; have HK := n5_; have HB := n6_; have HI0 := n7_; clear n0_ n1_ n2_ n3_ n4_ n5_ n6_ n7_; (try clear hb); (try clear hb2); (try clear hk); (try clear hi)))
  go_loopg [7, 8] k (fun kq v7 v8 w' => ∃ (x7_1 : Int) (x8_1 : Int) (x1001_1 : Int) (x249003_1 : List Int) (u249003 : Value), v7 = .int .i64 x7_1 ∧ v8 = .int .i64 x8_1 ∧ Aside0 (spec_randomImage.l0 kq t249 x7_1 x8_1 s0_0 x1001_1 t242 t243 t244 x249003_1 = some (r1, r2, r3, r4, r5)) ∧ Aside0 (kq ≤ k) ∧ Aside0 (Kd.R (Kd.int .i64) 3 w' w.heap.size (fun _ => True) u249003 x249003_1) ∧ Aside0 (w'.heap[gb231]? = some (.cells #[.int .i64 0, .int .i64 0, .int .i64 0, (.slice none 0 0)] 34 (0, 0))) ∧ Aside0 (w'.heap[gb248]? = some (.cells #[.int .i64 t242, .int .i64 t243, .int .i64 t244, u249003] 34 (0, 0))) ∧ Aside0 (IsS74 w0 w' g s0_0 x1001_1) ∧ Aside0 (KeepBut w w' g none) ∧ Aside0 (Below w0.heap.size w0 w'))
  case atStart => exact ⟨(t251), (0), (t252), (t245), (.slice Ao22 t245.length co22), (by first | rfl | (simp; done) | (simp [*]; done)), (by first | rfl | (simp; done) | (simp [*]; done)), H', ⟨Nat.le_refl _⟩, ⟨B.kr0 (Kd.R_mono HO247.out (fun _ hk => trivial))⟩, ⟨B.kb BK231⟩, ⟨B.kb BK248⟩, ⟨B.st HI0⟩, ⟨B.kk HK⟩, ⟨B.bs HB⟩⟩
  case round =>
    clear H'
    try clear c1
    try clear c2
    try clear p2
    try clear c4
    try clear c5
    try clear c6
    try clear c19
    try clear c20
    try clear hcz21_0
    try clear hcz21_1
    try clear hcz21_2
    try clear hcz21_3
    try clear hfz21_0
    try clear hfz21_1
    try clear hfz21_2
    try clear hfz21_3
    obtain ⟨x7_1, x8_1, x1001_1, x249003_1, u249003, rfl, rfl, HA, HK1, HO_249003, BK231, BK248, HI0, HK, HB⟩ := hrel
    cases gk with
    | zero => exact absurd HA.out (by simp [spec_randomImage.l0])
    | succ k1 =>
      have H := HA.out
      clear HA
      simp only [spec_randomImage.l0] at H
      by_cases c25 : x8_1 < (x249003_1.length : Int)
      · rw [if_pos c25] at H
        have c25b0 : decide (x8_1 < (x249003_1.length : Int)) = true := decide_eq_true c25
        clear c25
        by_cases c26 : t249 = 0
        · rw [if_pos c26] at H
          have c26b0 : (t249 == 0) = true := beq_iff_eq.mpr c26
          have c26b1 : (t249 != 0) = false := bne_eq_false_iff_eq.mpr c26
          clear c26
          replace H := Option.bind_eq_some_iff.mp H
          obtain ⟨⟨t253, t254⟩, A270, H⟩ := H
          replace H : (if 0 ≤ x8_1 then (spec_randomImage.l0 k1 t249 t253 (wrap64 (x8_1 + 1)) s0_0 t254 t242 t243 t244 (x249003_1.set (x8_1 : Int).toNat t253)) else (none)) = some (r1, r2, r3, r4, r5) := H
          have A27 := Aside0.mk A270
          clear A270
          by_cases c28 : 0 ≤ x8_1
          · rw [if_pos c28] at H
            have c28b0 : decide (0 ≤ x8_1) = true := decide_eq_true c28
            clear c28
            obtain ⟨y255, hy255⟩ : ∃ y_ : List Int, y_ = (x249003_1.set (x8_1 : Int).toNat t253) := ⟨_, rfl⟩
            replace H : (spec_randomImage.l0 k1 t249 t253 (wrap64 (x8_1 + 1)) s0_0 t254 t242 t243 t244 y255) = some (r1, r2, r3, r4, r5) := by first | (rw [hy255]; with_reducible exact H) | (have H2_ := (Option.bind_some _ _).symm.trans H; rw [hy255]; with_reducible exact H2_) | (have H2_ := (Option.bind_some _ _).symm.trans H; with_reducible exact H2_) | with_reducible exact H | (rw [hy255]; exact H) | exact H
            have Ny255 := Aside0.mk hy255
            clear hy255
            have H' := Aside0.mk H
            clear H
            have hnb30 := NB248_231.out
            have hnc30 := NB231_248.out
            have hnb31 := NB248_0.out
            have hnc31 := NB0_248.out
            have hcz32_0 : wr.cell? ⟨gb248, 0, none⟩ = some (.int .i64 t242) := B.bc BK248 0
            have hcz32_1 : wr.cell? ⟨gb248, 1, none⟩ = some (.int .i64 t243) := B.bc BK248 1
            have hcz32_2 : wr.cell? ⟨gb248, 2, none⟩ = some (.int .i64 t244) := B.bc BK248 2
            have hcz32_3 : wr.cell? ⟨gb248, 3, none⟩ = some (u249003) := B.bc BK248 3
            have hfz32_0 := blk_frozen BK248.out 0
            have hfz32_1 := blk_frozen BK248.out 1
            have hfz32_2 := blk_frozen BK248.out 2
            have hfz32_3 := blk_frozen BK248.out 3
            obtain ⟨Ao33, co33, eo33⟩ := Kd.R_slice HO_249003.out
            subst eo33
            go_wp2_with (first | ((with_reducible refine gate_callee (f := 43) rfl ?_); refine goesL_ (some 32) rfl rfl Try.func43 (by kernel_rfl) rfl #[.pointer (some ⟨g, 0, none⟩), .int .i64 256] rfl B.am ?_; (with_reducible refine (spec_reader_pick.calls k1 g s0_0 x1001_1 256 t253 t254 w0 _ ?side1 ?side2 A27.out).mono ?_); (case side1 => exact B.st HI0); (case side2 => exact B.bs HB); rintro e w34 ⟨rfl, hi, hb, hk⟩; refine ⟨_, rfl, ?_⟩; have n0_ := Aside0.mk (Kd.R_mono (Kd.R_keep (IsS74.apart (show IsS74 w0 _ g s0_0 x1001_1 from B.st HI0) (B.kr HO_249003) (by decide)) hk (fun _ h => h.2)) (fun _ h => h.1)); have n1_ := Aside0.mk (KeepBut.blk hk (g' := gb231) (o := .cells #[.int .i64 0, .int .i64 0, .int .i64 0, .slice none 0 0] 34 (0, 0)) (B.kb BK231) NB231_0.out (by simp)); have n2_ := Aside0.mk (KeepBut.blk hk (g' := gb248) (o := .cells #[.int .i64 t242, .int .i64 t243, .int .i64 t244, .slice Ao33 x249003_1.length co33] 34 (0, 0)) (B.kb BK248) NB248_0.out (by simp)); have n3_ := Aside0.mk (KeepBut.trans (B.kk HK) hk (.inl rfl)); have n4_ := Aside0.mk (hb); have n5_ := Aside0.mk (hi); clear HO_249003 BK231 BK248 HK HB HI0; have HO_249003 := n0_; have BK231 := n1_; have BK248 := n2_; have HK := n3_; have HB := n4_; have HI0 := n5_; clear n0_ n1_ n2_ n3_ n4_ n5_; (try clear hb); (try clear hb2); (try clear hk); (try clear hi); have hcz35_0 : w34.cell? ⟨gb248, 0, none⟩ = some (.int .i64 t242) := B.bc BK248 0; have hcz35_1 : w34.cell? ⟨gb248, 1, none⟩ = some (.int .i64 t243) := B.bc BK248 1; have hcz35_2 : w34.cell? ⟨gb248, 2, none⟩ = some (.int .i64 t244) := B.bc BK248 2; have hcz35_3 : w34.cell? ⟨gb248, 3, none⟩ = some (.slice Ao33 x249003_1.length co33) := B.bc BK248 3; have hfz35_0 := blk_frozen BK248.out 0; have hfz35_1 := blk_frozen BK248.out 1; have hfz35_2 := blk_frozen BK248.out 2; have hfz35_3 := blk_frozen BK248.out 3; have p29 : 0 ≤ (x8_1 : Int) := of_decide_eq_true (by first | (with_reducible assumption) | assumption); have q29 : (x8_1 : Int) < ((x249003_1.length : Int) : Int) := of_decide_eq_true (by first | (with_reducible assumption) | assumption); obtain ⟨go29, co29, eo29, gb29, gl29, cl29, HG29⟩ := Kd.R_form HO_249003.out (by omega); (first | cases eo29 | (injection eo29 with ea_ en_ ec_; (first | subst ea_ | (injection ea_ with ea_; subst ea_)); subst ec_; clear en_)); have GB29 := Aside0.mk gb29; have GG29 := Aside0.mk HG29; clear gb29 gl29 HG29; obtain ⟨hx29_0, hf29_0⟩ := Kd.R_celln 0 HO_249003.out (x8_1 : Int) p29 q29; replace p29 := eq_true p29; replace q29 := eq_true q29; obtain ⟨hy36_, hz36_⟩ := Kd.R_celln 0 HO_249003.out (x8_1 : Int) (of_decide_eq_true (by first | (with_reducible assumption) | assumption)) (of_decide_eq_true (by first | (with_reducible assumption) | assumption)); have HP36 := Kd.R_putg HO_249003.out (x8_1 : Int) t253) | ((with_reducible refine gate_store (t := 3) (p := 50) rfl ?_); refine store_event (t := 3) (p := 50) (v := ?vo_w37) (w1 := (w34.setCell ⟨go29, (x8_1 : Int).toNat, none⟩ (.int .i64 t253))) ?hg ?ho ?hn ?hr ?_; (case ho => rfl); (case hg => rfl); (case hn => rfl); (case hr => first | (go_simp; done) | (go_simp; rfl)); intro w37 hw; have hg : w34.grownBy w37 (some go29) := (by rw [hw]; exact HP36.2); have hp_ : Kd.R (Kd.int .i64) 3 w37 w.heap.size (fun _ => True) (.slice (some ⟨go29, 0, none⟩) x249003_1.length co33) y255 := (by rw [hw, Ny255.out]; exact HP36.1); clear HP36; have n0_ := Aside0.mk (hp_); have n1_ := Aside0.mk (blk_grown (g := gb231) (o := .cells #[.int .i64 0, .int .i64 0, .int .i64 0, .slice none 0 0] 34 (0, 0)) (B.kb BK231) hg (Kd.R_ne HO_249003.out BK231.out (by decide))); have n2_ := Aside0.mk (blk_grown (g := gb248) (o := .cells #[.int .i64 t242, .int .i64 t243, .int .i64 t244, .slice (some ⟨go29, 0, none⟩) x249003_1.length co33] 34 (0, 0)) (B.kb BK248) hg (Kd.R_ne HO_249003.out BK248.out (by decide))); have n3_ := Aside0.mk (IsS74.grown (B.st HI0) hg (IsS74.own_ne HI0.out HO_249003.out (by decide))); have n4_ := Aside0.mk ((by rw [hw]; exact below_set (HB.out) (Nat.le_trans HL.out GB29.out) : Below w0.heap.size w0 w37)); have n5_ := Aside0.mk (KeepBut.trans (B.kk HK) (KeepBut.of_grown hg g) (Kd.R_base2 HO_249003.out)); clear HO_249003 BK231 BK248 HI0 HB HK; have HO_249003 := n0_; have BK231 := n1_; have BK248 := n2_; have HI0 := n3_; have HB := n4_; have HK := n5_; clear n0_ n1_ n2_ n3_ n4_ n5_; clear hg hw hp_))
            go_roundg k1
            case measure => have := HK1.out; omega
            case rel => exact ⟨(t253), (wrap64 (x8_1 + 1)), (t254), (y255), (.slice (some ⟨go29, 0, none⟩) x249003_1.length co33), (by first | rfl | (simp; done) | (simp [*]; done)), (by first | rfl | (simp; done) | (simp [*]; done)), H', ⟨by have := HK1.out; omega⟩, ⟨B.kr HO_249003⟩, ⟨B.kb BK231⟩, ⟨B.kb BK248⟩, ⟨B.st HI0⟩, ⟨B.kk HK⟩, ⟨B.bs HB⟩⟩
          rw [if_neg c28] at H
          exact absurd H (by simp)
        rw [if_neg c26] at H
        have c26b0 : (t249 == 0) = false := beq_eq_false_iff_ne.mpr c26
        have c26b1 : (t249 != 0) = true := bne_iff_ne.mpr c26
        by_cases c38 : t249 = 1
        · rw [if_pos c38] at H
          have c38b0 : (t249 == 1) = true := beq_iff_eq.mpr c38
          have c38b1 : (t249 != 1) = false := bne_eq_false_iff_eq.mpr c38
          clear c38
          replace H := Option.bind_eq_some_iff.mp H
          obtain ⟨⟨t256, t257⟩, A390, H⟩ := H
          replace H : (if 0 ≤ x8_1 then (spec_randomImage.l0 k1 t249 (Int.tmod (wrap64 ((wrap64 (x7_1 + t256)) + 254)) 256) (wrap64 (x8_1 + 1)) s0_0 t257 t242 t243 t244 (x249003_1.set (x8_1 : Int).toNat (Int.tmod (wrap64 ((wrap64 (x7_1 + t256)) + 254)) 256))) else (none)) = some (r1, r2, r3, r4, r5) := H
          have A39 := Aside0.mk A390
          clear A390
          by_cases c40 : 0 ≤ x8_1
          · rw [if_pos c40] at H
            have c40b0 : decide (0 ≤ x8_1) = true := decide_eq_true c40
            clear c40
            obtain ⟨y258, hy258⟩ : ∃ y_ : List Int, y_ = (x249003_1.set (x8_1 : Int).toNat (Int.tmod (wrap64 ((wrap64 (x7_1 + t256)) + 254)) 256)) := ⟨_, rfl⟩
            replace H : (spec_randomImage.l0 k1 t249 (Int.tmod (wrap64 ((wrap64 (x7_1 + t256)) + 254)) 256) (wrap64 (x8_1 + 1)) s0_0 t257 t242 t243 t244 y258) = some (r1, r2, r3, r4, r5) := by first | (rw [hy258]; with_reducible exact H) | (have H2_ := (Option.bind_some _ _).symm.trans H; rw [hy258]; with_reducible exact H2_) | (have H2_ := (Option.bind_some _ _).symm.trans H; with_reducible exact H2_) | with_reducible exact H | (rw [hy258]; exact H) | exact H
            have Ny258 := Aside0.mk hy258
            clear hy258
            have H' := Aside0.mk H
            clear H
            have hnb42 := NB248_231.out
            have hnc42 := NB231_248.out
            have hnb43 := NB248_0.out
            have hnc43 := NB0_248.out
            have hcz44_0 : wr.cell? ⟨gb248, 0, none⟩ = some (.int .i64 t242) := B.bc BK248 0
            have hcz44_1 : wr.cell? ⟨gb248, 1, none⟩ = some (.int .i64 t243) := B.bc BK248 1
            have hcz44_2 : wr.cell? ⟨gb248, 2, none⟩ = some (.int .i64 t244) := B.bc BK248 2
            have hcz44_3 : wr.cell? ⟨gb248, 3, none⟩ = some (u249003) := B.bc BK248 3
            have hfz44_0 := blk_frozen BK248.out 0
            have hfz44_1 := blk_frozen BK248.out 1
            have hfz44_2 := blk_frozen BK248.out 2
            have hfz44_3 := blk_frozen BK248.out 3
            obtain ⟨Ao45, co45, eo45⟩ := Kd.R_slice HO_249003.out
            subst eo45
            go_wp2_with (first | ((with_reducible refine gate_callee (f := 43) rfl ?_); refine goesL_ (some 37) rfl rfl Try.func43 (by kernel_rfl) rfl #[.pointer (some ⟨g, 0, none⟩), .int .i64 5] rfl B.am ?_; (with_reducible refine (spec_reader_pick.calls k1 g s0_0 x1001_1 5 t256 t257 w0 _ ?side1 ?side2 A39.out).mono ?_); (case side1 => exact B.st HI0); (case side2 => exact B.bs HB); rintro e w46 ⟨rfl, hi, hb, hk⟩; refine ⟨_, rfl, ?_⟩; have n0_ := Aside0.mk (Kd.R_mono (Kd.R_keep (IsS74.apart (show IsS74 w0 _ g s0_0 x1001_1 from B.st HI0) (B.kr HO_249003) (by decide)) hk (fun _ h => h.2)) (fun _ h => h.1)); have n1_ := Aside0.mk (KeepBut.blk hk (g' := gb231) (o := .cells #[.int .i64 0, .int .i64 0, .int .i64 0, .slice none 0 0] 34 (0, 0)) (B.kb BK231) NB231_0.out (by simp)); have n2_ := Aside0.mk (KeepBut.blk hk (g' := gb248) (o := .cells #[.int .i64 t242, .int .i64 t243, .int .i64 t244, .slice Ao45 x249003_1.length co45] 34 (0, 0)) (B.kb BK248) NB248_0.out (by simp)); have n3_ := Aside0.mk (KeepBut.trans (B.kk HK) hk (.inl rfl)); have n4_ := Aside0.mk (hb); have n5_ := Aside0.mk (hi); clear HO_249003 BK231 BK248 HK HB HI0; have HO_249003 := n0_; have BK231 := n1_; have BK248 := n2_; have HK := n3_; have HB := n4_; have HI0 := n5_; clear n0_ n1_ n2_ n3_ n4_ n5_; (try clear hb); (try clear hb2); (try clear hk); (try clear hi); have hcz47_0 : w46.cell? ⟨gb248, 0, none⟩ = some (.int .i64 t242) := B.bc BK248 0; have hcz47_1 : w46.cell? ⟨gb248, 1, none⟩ = some (.int .i64 t243) := B.bc BK248 1; have hcz47_2 : w46.cell? ⟨gb248, 2, none⟩ = some (.int .i64 t244) := B.bc BK248 2; have hcz47_3 : w46.cell? ⟨gb248, 3, none⟩ = some (.slice Ao45 x249003_1.length co45) := B.bc BK248 3; have hfz47_0 := blk_frozen BK248.out 0; have hfz47_1 := blk_frozen BK248.out 1; have hfz47_2 := blk_frozen BK248.out 2; have hfz47_3 := blk_frozen BK248.out 3; have p41 : 0 ≤ (x8_1 : Int) := of_decide_eq_true (by first | (with_reducible assumption) | assumption); have q41 : (x8_1 : Int) < ((x249003_1.length : Int) : Int) := of_decide_eq_true (by first | (with_reducible assumption) | assumption); obtain ⟨go41, co41, eo41, gb41, gl41, cl41, HG41⟩ := Kd.R_form HO_249003.out (by omega); (first | cases eo41 | (injection eo41 with ea_ en_ ec_; (first | subst ea_ | (injection ea_ with ea_; subst ea_)); subst ec_; clear en_)); have GB41 := Aside0.mk gb41; have GG41 := Aside0.mk HG41; clear gb41 gl41 HG41; obtain ⟨hx41_0, hf41_0⟩ := Kd.R_celln 0 HO_249003.out (x8_1 : Int) p41 q41; replace p41 := eq_true p41; replace q41 := eq_true q41; obtain ⟨hy48_, hz48_⟩ := Kd.R_celln 0 HO_249003.out (x8_1 : Int) (of_decide_eq_true (by first | (with_reducible assumption) | assumption)) (of_decide_eq_true (by first | (with_reducible assumption) | assumption)); have HP48 := Kd.R_putg HO_249003.out (x8_1 : Int) (Int.tmod (wrap64 ((wrap64 (x7_1 + t256)) + 254)) 256)) | ((with_reducible refine gate_store (t := 3) (p := 50) rfl ?_); refine store_event (t := 3) (p := 50) (v := ?vo_w49) (w1 := (w46.setCell ⟨go41, (x8_1 : Int).toNat, none⟩ (.int .i64 (Int.tmod (wrap64 ((wrap64 (x7_1 + t256)) + 254)) 256)))) ?hg ?ho ?hn ?hr ?_; (case ho => rfl); (case hg => rfl); (case hn => rfl); (case hr => first | (go_simp; done) | (go_simp; rfl)); intro w49 hw; have hg : w46.grownBy w49 (some go41) := (by rw [hw]; exact HP48.2); have hp_ : Kd.R (Kd.int .i64) 3 w49 w.heap.size (fun _ => True) (.slice (some ⟨go41, 0, none⟩) x249003_1.length co45) y258 := (by rw [hw, Ny258.out]; exact HP48.1); clear HP48; have n0_ := Aside0.mk (hp_); have n1_ := Aside0.mk (blk_grown (g := gb231) (o := .cells #[.int .i64 0, .int .i64 0, .int .i64 0, .slice none 0 0] 34 (0, 0)) (B.kb BK231) hg (Kd.R_ne HO_249003.out BK231.out (by decide))); have n2_ := Aside0.mk (blk_grown (g := gb248) (o := .cells #[.int .i64 t242, .int .i64 t243, .int .i64 t244, .slice (some ⟨go41, 0, none⟩) x249003_1.length co45] 34 (0, 0)) (B.kb BK248) hg (Kd.R_ne HO_249003.out BK248.out (by decide))); have n3_ := Aside0.mk (IsS74.grown (B.st HI0) hg (IsS74.own_ne HI0.out HO_249003.out (by decide))); have n4_ := Aside0.mk ((by rw [hw]; exact below_set (HB.out) (Nat.le_trans HL.out GB41.out) : Below w0.heap.size w0 w49)); have n5_ := Aside0.mk (KeepBut.trans (B.kk HK) (KeepBut.of_grown hg g) (Kd.R_base2 HO_249003.out)); clear HO_249003 BK231 BK248 HI0 HB HK; have HO_249003 := n0_; have BK231 := n1_; have BK248 := n2_; have HI0 := n3_; have HB := n4_; have HK := n5_; clear n0_ n1_ n2_ n3_ n4_ n5_; clear hg hw hp_))
            go_roundg k1
            case measure => have := HK1.out; omega
            case rel => exact ⟨(Int.tmod (wrap64 ((wrap64 (x7_1 + t256)) + 254)) 256), (wrap64 (x8_1 + 1)), (t257), (y258), (.slice (some ⟨go41, 0, none⟩) x249003_1.length co45), (by first | rfl | (simp; done) | (simp [*]; done)), (by first | rfl | (simp; done) | (simp [*]; done)), H', ⟨by have := HK1.out; omega⟩, ⟨B.kr HO_249003⟩, ⟨B.kb BK231⟩, ⟨B.kb BK248⟩, ⟨B.st HI0⟩, ⟨B.kk HK⟩, ⟨B.bs HB⟩⟩
          rw [if_neg c40] at H
          exact absurd H (by simp)
        rw [if_neg c38] at H
        have c38b0 : (t249 == 1) = false := beq_eq_false_iff_ne.mpr c38
        have c38b1 : (t249 != 1) = true := bne_iff_ne.mpr c38
        by_cases c50 : t249 = 2
        · rw [if_pos c50] at H
          have c50b0 : (t249 == 2) = true := beq_iff_eq.mpr c50
          have c50b1 : (t249 != 2) = false := bne_eq_false_iff_eq.mpr c50
          clear c50
          replace H := Option.bind_eq_some_iff.mp H
          obtain ⟨⟨t259, t260⟩, A510, H⟩ := H
          replace H : (if 0 ≤ x8_1 then (spec_randomImage.l0 k1 t249 (wrap64 (60 * t259)) (wrap64 (x8_1 + 1)) s0_0 t260 t242 t243 t244 (x249003_1.set (x8_1 : Int).toNat (wrap64 (60 * t259)))) else (none)) = some (r1, r2, r3, r4, r5) := H
          have A51 := Aside0.mk A510
          clear A510
          by_cases c52 : 0 ≤ x8_1
          · rw [if_pos c52] at H
            have c52b0 : decide (0 ≤ x8_1) = true := decide_eq_true c52
            clear c52
            obtain ⟨y261, hy261⟩ : ∃ y_ : List Int, y_ = (x249003_1.set (x8_1 : Int).toNat (wrap64 (60 * t259))) := ⟨_, rfl⟩
            replace H : (spec_randomImage.l0 k1 t249 (wrap64 (60 * t259)) (wrap64 (x8_1 + 1)) s0_0 t260 t242 t243 t244 y261) = some (r1, r2, r3, r4, r5) := by first | (rw [hy261]; with_reducible exact H) | (have H2_ := (Option.bind_some _ _).symm.trans H; rw [hy261]; with_reducible exact H2_) | (have H2_ := (Option.bind_some _ _).symm.trans H; with_reducible exact H2_) | with_reducible exact H | (rw [hy261]; exact H) | exact H
            have Ny261 := Aside0.mk hy261
            clear hy261
            have H' := Aside0.mk H
            clear H
            have hnb54 := NB248_231.out
            have hnc54 := NB231_248.out
            have hnb55 := NB248_0.out
            have hnc55 := NB0_248.out
            have hcz56_0 : wr.cell? ⟨gb248, 0, none⟩ = some (.int .i64 t242) := B.bc BK248 0
            have hcz56_1 : wr.cell? ⟨gb248, 1, none⟩ = some (.int .i64 t243) := B.bc BK248 1
            have hcz56_2 : wr.cell? ⟨gb248, 2, none⟩ = some (.int .i64 t244) := B.bc BK248 2
            have hcz56_3 : wr.cell? ⟨gb248, 3, none⟩ = some (u249003) := B.bc BK248 3
            have hfz56_0 := blk_frozen BK248.out 0
            have hfz56_1 := blk_frozen BK248.out 1
            have hfz56_2 := blk_frozen BK248.out 2
            have hfz56_3 := blk_frozen BK248.out 3
            obtain ⟨Ao57, co57, eo57⟩ := Kd.R_slice HO_249003.out
            subst eo57
            go_wp2_with (first | ((with_reducible refine gate_callee (f := 43) rfl ?_); refine goesL_ (some 44) rfl rfl Try.func43 (by kernel_rfl) rfl #[.pointer (some ⟨g, 0, none⟩), .int .i64 4] rfl B.am ?_; (with_reducible refine (spec_reader_pick.calls k1 g s0_0 x1001_1 4 t259 t260 w0 _ ?side1 ?side2 A51.out).mono ?_); (case side1 => exact B.st HI0); (case side2 => exact B.bs HB); rintro e w58 ⟨rfl, hi, hb, hk⟩; refine ⟨_, rfl, ?_⟩; have n0_ := Aside0.mk (Kd.R_mono (Kd.R_keep (IsS74.apart (show IsS74 w0 _ g s0_0 x1001_1 from B.st HI0) (B.kr HO_249003) (by decide)) hk (fun _ h => h.2)) (fun _ h => h.1)); have n1_ := Aside0.mk (KeepBut.blk hk (g' := gb231) (o := .cells #[.int .i64 0, .int .i64 0, .int .i64 0, .slice none 0 0] 34 (0, 0)) (B.kb BK231) NB231_0.out (by simp)); have n2_ := Aside0.mk (KeepBut.blk hk (g' := gb248) (o := .cells #[.int .i64 t242, .int .i64 t243, .int .i64 t244, .slice Ao57 x249003_1.length co57] 34 (0, 0)) (B.kb BK248) NB248_0.out (by simp)); have n3_ := Aside0.mk (KeepBut.trans (B.kk HK) hk (.inl rfl)); have n4_ := Aside0.mk (hb); have n5_ := Aside0.mk (hi); clear HO_249003 BK231 BK248 HK HB HI0; have HO_249003 := n0_; have BK231 := n1_; have BK248 := n2_; have HK := n3_; have HB := n4_; have HI0 := n5_; clear n0_ n1_ n2_ n3_ n4_ n5_; (try clear hb); (try clear hb2); (try clear hk); (try clear hi); have hcz59_0 : w58.cell? ⟨gb248, 0, none⟩ = some (.int .i64 t242) := B.bc BK248 0; have hcz59_1 : w58.cell? ⟨gb248, 1, none⟩ = some (.int .i64 t243) := B.bc BK248 1; have hcz59_2 : w58.cell? ⟨gb248, 2, none⟩ = some (.int .i64 t244) := B.bc BK248 2; have hcz59_3 : w58.cell? ⟨gb248, 3, none⟩ = some (.slice Ao57 x249003_1.length co57) := B.bc BK248 3; have hfz59_0 := blk_frozen BK248.out 0; have hfz59_1 := blk_frozen BK248.out 1; have hfz59_2 := blk_frozen BK248.out 2; have hfz59_3 := blk_frozen BK248.out 3; have p53 : 0 ≤ (x8_1 : Int) := of_decide_eq_true (by first | (with_reducible assumption) | assumption); have q53 : (x8_1 : Int) < ((x249003_1.length : Int) : Int) := of_decide_eq_true (by first | (with_reducible assumption) | assumption); obtain ⟨go53, co53, eo53, gb53, gl53, cl53, HG53⟩ := Kd.R_form HO_249003.out (by omega); (first | cases eo53 | (injection eo53 with ea_ en_ ec_; (first | subst ea_ | (injection ea_ with ea_; subst ea_)); subst ec_; clear en_)); have GB53 := Aside0.mk gb53; have GG53 := Aside0.mk HG53; clear gb53 gl53 HG53; obtain ⟨hx53_0, hf53_0⟩ := Kd.R_celln 0 HO_249003.out (x8_1 : Int) p53 q53; replace p53 := eq_true p53; replace q53 := eq_true q53; obtain ⟨hy60_, hz60_⟩ := Kd.R_celln 0 HO_249003.out (x8_1 : Int) (of_decide_eq_true (by first | (with_reducible assumption) | assumption)) (of_decide_eq_true (by first | (with_reducible assumption) | assumption)); have HP60 := Kd.R_putg HO_249003.out (x8_1 : Int) (wrap64 (60 * t259))) | ((with_reducible refine gate_store (t := 3) (p := 50) rfl ?_); refine store_event (t := 3) (p := 50) (v := ?vo_w61) (w1 := (w58.setCell ⟨go53, (x8_1 : Int).toNat, none⟩ (.int .i64 (wrap64 (60 * t259))))) ?hg ?ho ?hn ?hr ?_; (case ho => rfl); (case hg => rfl); (case hn => rfl); (case hr => first | (go_simp; done) | (go_simp; rfl)); intro w61 hw; have hg : w58.grownBy w61 (some go53) := (by rw [hw]; exact HP60.2); have hp_ : Kd.R (Kd.int .i64) 3 w61 w.heap.size (fun _ => True) (.slice (some ⟨go53, 0, none⟩) x249003_1.length co57) y261 := (by rw [hw, Ny261.out]; exact HP60.1); clear HP60; have n0_ := Aside0.mk (hp_); have n1_ := Aside0.mk (blk_grown (g := gb231) (o := .cells #[.int .i64 0, .int .i64 0, .int .i64 0, .slice none 0 0] 34 (0, 0)) (B.kb BK231) hg (Kd.R_ne HO_249003.out BK231.out (by decide))); have n2_ := Aside0.mk (blk_grown (g := gb248) (o := .cells #[.int .i64 t242, .int .i64 t243, .int .i64 t244, .slice (some ⟨go53, 0, none⟩) x249003_1.length co57] 34 (0, 0)) (B.kb BK248) hg (Kd.R_ne HO_249003.out BK248.out (by decide))); have n3_ := Aside0.mk (IsS74.grown (B.st HI0) hg (IsS74.own_ne HI0.out HO_249003.out (by decide))); have n4_ := Aside0.mk ((by rw [hw]; exact below_set (HB.out) (Nat.le_trans HL.out GB53.out) : Below w0.heap.size w0 w61)); have n5_ := Aside0.mk (KeepBut.trans (B.kk HK) (KeepBut.of_grown hg g) (Kd.R_base2 HO_249003.out)); clear HO_249003 BK231 BK248 HI0 HB HK; have HO_249003 := n0_; have BK231 := n1_; have BK248 := n2_; have HI0 := n3_; have HB := n4_; have HK := n5_; clear n0_ n1_ n2_ n3_ n4_ n5_; clear hg hw hp_))
            go_roundg k1
            case measure => have := HK1.out; omega
            case rel => exact ⟨(wrap64 (60 * t259)), (wrap64 (x8_1 + 1)), (t260), (y261), (.slice (some ⟨go53, 0, none⟩) x249003_1.length co57), (by first | rfl | (simp; done) | (simp [*]; done)), (by first | rfl | (simp; done) | (simp [*]; done)), H', ⟨by have := HK1.out; omega⟩, ⟨B.kr HO_249003⟩, ⟨B.kb BK231⟩, ⟨B.kb BK248⟩, ⟨B.st HI0⟩, ⟨B.kk HK⟩, ⟨B.bs HB⟩⟩
          rw [if_neg c52] at H
          exact absurd H (by simp)
        rw [if_neg c50] at H
        have c50b0 : (t249 == 2) = false := beq_eq_false_iff_ne.mpr c50
        have c50b1 : (t249 != 2) = true := bne_iff_ne.mpr c50
        by_cases c62 : 0 ≤ x8_1
        · rw [if_pos c62] at H
          have c62b0 : decide (0 ≤ x8_1) = true := decide_eq_true c62
          clear c62
          obtain ⟨y262, hy262⟩ : ∃ y_ : List Int, y_ = (x249003_1.set (x8_1 : Int).toNat x7_1) := ⟨_, rfl⟩
          replace H : (spec_randomImage.l0 k1 t249 x7_1 (wrap64 (x8_1 + 1)) s0_0 x1001_1 t242 t243 t244 y262) = some (r1, r2, r3, r4, r5) := by first | (rw [hy262]; with_reducible exact H) | (have H2_ := (Option.bind_some _ _).symm.trans H; rw [hy262]; with_reducible exact H2_) | (have H2_ := (Option.bind_some _ _).symm.trans H; with_reducible exact H2_) | with_reducible exact H | (rw [hy262]; exact H) | exact H
          have Ny262 := Aside0.mk hy262
          clear hy262
          have H' := Aside0.mk H
          clear H
          have hnb64 := NB248_231.out
          have hnc64 := NB231_248.out
          have hnb65 := NB248_0.out
          have hnc65 := NB0_248.out
          have hcz66_0 : wr.cell? ⟨gb248, 0, none⟩ = some (.int .i64 t242) := B.bc BK248 0
          have hcz66_1 : wr.cell? ⟨gb248, 1, none⟩ = some (.int .i64 t243) := B.bc BK248 1
          have hcz66_2 : wr.cell? ⟨gb248, 2, none⟩ = some (.int .i64 t244) := B.bc BK248 2
          have hcz66_3 : wr.cell? ⟨gb248, 3, none⟩ = some (u249003) := B.bc BK248 3
          have hfz66_0 := blk_frozen BK248.out 0
          have hfz66_1 := blk_frozen BK248.out 1
          have hfz66_2 := blk_frozen BK248.out 2
          have hfz66_3 := blk_frozen BK248.out 3
          obtain ⟨Ao67, co67, eo67⟩ := Kd.R_slice HO_249003.out
          subst eo67
          have p63 : 0 ≤ (x8_1 : Int) := of_decide_eq_true (by first | (with_reducible assumption) | assumption)
          have q63 : (x8_1 : Int) < ((x249003_1.length : Int) : Int) := of_decide_eq_true (by first | (with_reducible assumption) | assumption)
          obtain ⟨go63, co63, eo63, gb63, gl63, cl63, HG63⟩ := Kd.R_form HO_249003.out (by omega)
          (first | cases eo63 | (injection eo63 with ea_ en_ ec_; (first | subst ea_ | (injection ea_ with ea_; subst ea_)); subst ec_; clear en_))
          have GB63 := Aside0.mk gb63
          have GG63 := Aside0.mk HG63
          clear gb63 gl63 HG63
          obtain ⟨hx63_0, hf63_0⟩ := Kd.R_celln 0 HO_249003.out (x8_1 : Int) p63 q63
          replace p63 := eq_true p63
          replace q63 := eq_true q63
          have HP68 := Kd.R_putg HO_249003.out (x8_1 : Int) x7_1
          go_wp2_with (first | ((with_reducible refine gate_store (t := 3) (p := 50) rfl ?_); refine store_event (t := 3) (p := 50) (v := ?vo_w69) (w1 := (wr.setCell ⟨go63, (x8_1 : Int).toNat, none⟩ (.int .i64 x7_1))) ?hg ?ho ?hn ?hr ?_; (case ho => rfl); (case hg => rfl); (case hn => rfl); (case hr => first | (go_simp; done) | (go_simp; rfl)); intro w69 hw; have hg : wr.grownBy w69 (some go63) := (by rw [hw]; exact HP68.2); have hp_ : Kd.R (Kd.int .i64) 3 w69 w.heap.size (fun _ => True) (.slice (some ⟨go63, 0, none⟩) x249003_1.length co67) y262 := (by rw [hw, Ny262.out]; exact HP68.1); clear HP68; have n0_ := Aside0.mk (hp_); have n1_ := Aside0.mk (blk_grown (g := gb231) (o := .cells #[.int .i64 0, .int .i64 0, .int .i64 0, .slice none 0 0] 34 (0, 0)) (B.kb BK231) hg (Kd.R_ne HO_249003.out BK231.out (by decide))); have n2_ := Aside0.mk (blk_grown (g := gb248) (o := .cells #[.int .i64 t242, .int .i64 t243, .int .i64 t244, .slice (some ⟨go63, 0, none⟩) x249003_1.length co67] 34 (0, 0)) (B.kb BK248) hg (Kd.R_ne HO_249003.out BK248.out (by decide))); have n3_ := Aside0.mk (IsS74.grown (B.st HI0) hg (IsS74.own_ne HI0.out HO_249003.out (by decide))); have n4_ := Aside0.mk ((by rw [hw]; exact below_set (HB.out) (Nat.le_trans HL.out GB63.out) : Below w0.heap.size w0 w69)); have n5_ := Aside0.mk (KeepBut.trans (B.kk HK) (KeepBut.of_grown hg g) (Kd.R_base2 HO_249003.out)); clear HO_249003 BK231 BK248 HI0 HB HK; have HO_249003 := n0_; have BK231 := n1_; have BK248 := n2_; have HI0 := n3_; have HB := n4_; have HK := n5_; clear n0_ n1_ n2_ n3_ n4_ n5_; clear hg hw hp_))
          go_roundg k1
          case measure => have := HK1.out; omega
          case rel => exact ⟨(x7_1), (wrap64 (x8_1 + 1)), (x1001_1), (y262), (.slice (some ⟨go63, 0, none⟩) x249003_1.length co67), (by first | rfl | (simp; done) | (simp [*]; done)), (by first | rfl | (simp; done) | (simp [*]; done)), H', ⟨by have := HK1.out; omega⟩, ⟨B.kr HO_249003⟩, ⟨B.kb BK231⟩, ⟨B.kb BK248⟩, ⟨B.st HI0⟩, ⟨B.kk HK⟩, ⟨B.bs HB⟩⟩
        rw [if_neg c62] at H
        exact absurd H (by simp)
      rw [if_neg c25] at H
      have c25b0 : decide (x8_1 < (x249003_1.length : Int)) = false := decide_eq_false c25
      clear c25
      simp only [Option.some.injEq, Prod.mk.injEq] at H
      obtain ⟨rfl, rfl, rfl, rfl, rfl⟩ := H
      have hnb70 := NB248_231.out
      have hnc70 := NB231_248.out
      have hnb71 := NB248_0.out
      have hnc71 := NB0_248.out
      have hcz72_0 : wr.cell? ⟨gb248, 0, none⟩ = some (.int .i64 t242) := B.bc BK248 0
      have hcz72_1 : wr.cell? ⟨gb248, 1, none⟩ = some (.int .i64 t243) := B.bc BK248 1
      have hcz72_2 : wr.cell? ⟨gb248, 2, none⟩ = some (.int .i64 t244) := B.bc BK248 2
      have hcz72_3 : wr.cell? ⟨gb248, 3, none⟩ = some (u249003) := B.bc BK248 3
      have hfz72_0 := blk_frozen BK248.out 0
      have hfz72_1 := blk_frozen BK248.out 1
      have hfz72_2 := blk_frozen BK248.out 2
      have hfz72_3 := blk_frozen BK248.out 3
      obtain ⟨Ao73, co73, eo73⟩ := Kd.R_slice HO_249003.out
      subst eo73
      have hnb74 := NB231_0.out
      have hnc74 := NB0_231.out
      have hcz75_0 : wr.cell? ⟨gb231, 0, none⟩ = some (.int .i64 0) := B.bc BK231 0
      have hcz75_1 : wr.cell? ⟨gb231, 1, none⟩ = some (.int .i64 0) := B.bc BK231 1
      have hcz75_2 : wr.cell? ⟨gb231, 2, none⟩ = some (.int .i64 0) := B.bc BK231 2
      have hcz75_3 : wr.cell? ⟨gb231, 3, none⟩ = some (.slice none 0 0) := B.bc BK231 3
      have hfz75_0 := blk_frozen BK231.out 0
      have hfz75_1 := blk_frozen BK231.out 1
      have hfz75_2 := blk_frozen BK231.out 2
      have hfz75_3 := blk_frozen BK231.out 3
      go_wp2
      refine bodyPost_ret (results_cell_row rfl _ _ gb231 34 #[.int .i64 t242, .int .i64 t243, .int .i64 t244, .slice Ao73 x249003_1.length co73] (0, 0) _ rfl (B.kb0 (B.bp4 BK231)) Try.underlying34 rfl (by kernel_rfl)) rfl ?_
      exact ⟨_, by first | rfl | (simp [errW_none, errW_some] <;> rfl) | (simp [*, errW_none, errW_some] <;> rfl), by (with_reducible repeat (first | apply Kd.R_alloc | apply Kd.R_drewN | apply Kd.R_drew)); exact Kd.R_mono (B.rf4 HO_249003 BK231) (fun _ hk => trivial), B.st HI0, B.bs HB, B.kk HK⟩

/-! ### spec_anyPlanes: function 60 -/
def spec_anyPlanes.f (k : Nat) (s0_0 : List Int) (s0_1 : Int) : Option (Int × Int) := (spec_reader_one.f k s0_0 s0_1 (([1, 3, 1, 4, 2] : List Int))).bind fun bt266 => (some (bt266.1, bt266.2))
theorem spec_anyPlanes.mono : ∀ a0 a1 k, LeO (spec_anyPlanes.f k a0 a1) (spec_anyPlanes.f (k + 1) a0 a1) := by
  intro a0 a1 k
  unfold spec_anyPlanes.f
  repeat' first
      | (with_reducible exact spec_reader_one.mono _ _ _ _)
      | (with_reducible exact LeO.refl _)
      | (with_reducible exact LeO.none _)
      | (with_reducible refine LeO.ite ?_ ?_)
      | (with_reducible refine LeO.bind ?_ (fun _ => ?_))
      | exact spec_reader_one.mono _ _ _ _
      | exact LeO.none _
      | refine LeO.ite ?_ ?_
      | refine LeO.bind ?_ (fun _ => ?_)
set_option maxHeartbeats 8000000 in
set_option maxRecDepth 100000 in
theorem spec_anyPlanes.calls (k : Nat) (g : Nat) (s0_0 : List Int) (s0_1 : Int) (r1 : Int) (r2 : Int) (w0 w : World) (hI : IsS74 w0 w g s0_0 s0_1) (hB : Below w0.heap.size w0 w) (h : spec_anyPlanes.f k s0_0 s0_1 = some (r1, r2)) :
    Calls Try.prog 60 #[.pointer (some ⟨g, 0, none⟩)] w fun e w' => e = .returned (.int .i64 r1) ∧ IsS74 w0 w' g s0_0 r2 ∧ Below w0.heap.size w0 w' ∧ KeepBut w w' g none := by
  have HI0 := Aside0.mk hI
  have HK := Aside0.mk (KeepBut.refl w g none)
  have HL := Aside0.mk hB.size
  clear hI
  have HW0 := Aside0.mk hB.size
  have HB := Aside0.mk hB
  clear hB
  have H : ((spec_reader_one.f k s0_0 s0_1 (([1, 3, 1, 4, 2] : List Int))).bind fun bt266 => (some (bt266.1, bt266.2))) = some (r1, r2) := h
  clear h
  obtain ⟨y263, hy263⟩ : ∃ y_ : List Int, y_ = (([1, 3, 1, 4, 2] : List Int)) := ⟨_, rfl⟩
  replace H : ((spec_reader_one.f k s0_0 s0_1 y263).bind fun bt266 => (some (bt266.1, bt266.2))) = some (r1, r2) := by first | (rw [hy263]; with_reducible exact H) | (have H2_ := (Option.bind_some _ _).symm.trans H; rw [hy263]; with_reducible exact H2_) | (have H2_ := (Option.bind_some _ _).symm.trans H; with_reducible exact H2_) | with_reducible exact H | (rw [hy263]; exact H) | exact H
  have Ny263 := Aside0.mk hy263
  clear hy263
  replace H := Option.bind_eq_some_iff.mp H
  obtain ⟨⟨t266, t267⟩, A20, H⟩ := H
  replace H : (some (t266, t267)) = some (r1, r2) := H
  have A2 := Aside0.mk A20
  clear A20
  simp only [Option.some.injEq, Prod.mk.injEq] at H
  obtain ⟨rfl, rfl⟩ := H
  go_enter Try.func60, Try.ntmps60
  go_wp2_with (first | ((with_reducible refine gate_dst (N := 4) rfl ?_); refine Kd.R_lit (Kd.int .i64) _ 3 ?hg (N := 4) ?hd (xs := ([1, 3, 1, 4, 2] : List Int)) (inner := [.int .i64 1, .int .i64 3, .int .i64 1, .int .i64 4, .int .i64 2]) (ok := fun _ => True) (okp := fun _ => True) ?hr ?hp (fun _ hk => hk) trivial (Below.refl _ _) (Nat.le_refl _) (by simp) ?_; (case hd => rfl); (case hg => rfl); (case hr => first | (go_simp; done) | (go_simp; rfl)); (case hp => exact (Reps.one (show Kd.M (Kd.int .i64) _ _ _ 1 [.int .i64 1] from rfl) (Reps.one (show Kd.M (Kd.int .i64) _ _ _ 3 [.int .i64 3] from rfl) (Reps.one (show Kd.M (Kd.int .i64) _ _ _ 1 [.int .i64 1] from rfl) (Reps.one (show Kd.M (Kd.int .i64) _ _ _ 4 [.int .i64 4] from rfl) (Reps.one (show Kd.M (Kd.int .i64) _ _ _ 2 [.int .i64 2] from rfl) (Reps.none _ _))))))); intro v264 w3 ho4 hb hg_ hnew_; clear hg_ hnew_; (first | rw [← Ny263.out] at ho4 | (simp only [Int.reduceToNat] at ho4; rw [← Ny263.out] at ho4)); have n0_ := Aside0.mk (Kd.R_lower ho4 (keep_size (w := w) (g := g) (row := none) (B.kk HK))); have n1_ := Aside0.mk (IsS74.below (B.st HI0) hb); have n2_ := Aside0.mk (KeepBut.trans (B.kk HK) (KeepBut.of_below hb g none) (.inl rfl)); have n3_ := Aside0.mk (below_step (B.bs HB) hb); clear HI0 HK HB; have HO265 := n0_; have HI0 := n1_; have HK := n2_; have HB := n3_; clear n0_ n1_ n2_ n3_; clear hb ho4; obtain ⟨Ao5, co5, eo5⟩ := Kd.R_slice HO265.out; subst eo5) | ((with_reducible refine gate_callee (f := 62) rfl ?_); refine goesL_ (some 5) rfl rfl Try.func62 (by kernel_rfl) rfl #[.pointer (some ⟨g, 0, none⟩), .slice Ao5 y263.length co5] rfl B.am ?_; (with_reducible refine (spec_reader_one.calls k g s0_0 s0_1 _ _ y263 t266 t267 w0 _ ?side1 ?side2 ?side3 ?side4 ?side5 A2.out).mono ?_); (case side1 => exact B.st HI0); (case side2 => exact B.bs HB); (case side3 => exact B.kc ((Kd.R_reads' HO265.out).2.2)); (case side4 => exact (Kd.R_reads' HO265.out).2.1); (case side5 => exact far_slice (IsS74.own_ne HI0.out HO265.out (by decide))); rintro e w6 ⟨rfl, hi, hb, hk⟩; refine ⟨_, rfl, ?_⟩; have n0_ := Aside0.mk (Kd.R_mono (Kd.R_keep (IsS74.apart (show IsS74 w0 _ g s0_0 s0_1 from B.st HI0) (B.kr HO265) (by decide)) hk (fun _ h => h.2)) (fun _ h => h.1)); have n1_ := Aside0.mk (KeepBut.trans (B.kk HK) hk (.inl rfl)); have n2_ := Aside0.mk (hb); have n3_ := Aside0.mk (hi); clear HO265 HK HB HI0; have HO265 := n0_; have HK := n1_; have HB := n2_; have HI0 := n3_; clear n0_ n1_ n2_ n3_; (try clear hb); (try clear hb2); (try clear hk); (try clear hi)))
  go_ret
  exact ⟨by first | rfl | (simp [errW_none, errW_some] <;> rfl) | (simp [*, errW_none, errW_some] <;> rfl), B.st HI0, B.bs HB, B.kk HK⟩

/-! ### spec_anyImage: function 44 -/
def spec_anyImage.f (k : Nat) (s0_0 : List Int) (s0_1 : Int) : Option (Int × Int × Int × List Int × Int) := (spec_anyPlanes.f k s0_0 s0_1).bind fun bt269 => ((spec_randomImage.f k s0_0 bt269.2 bt269.1).bind fun bt271 => ((spec_spoilImage.f k s0_0 bt271.2.2.2.2 bt271.1 bt271.2.1 bt271.2.2.1 bt271.2.2.2.1).bind fun bt278 => (some (bt278.1, bt278.2.1, bt278.2.2.1, bt278.2.2.2.1, bt278.2.2.2.2))))
theorem spec_anyImage.mono : ∀ a0 a1 k, LeO (spec_anyImage.f k a0 a1) (spec_anyImage.f (k + 1) a0 a1) := by
  intro a0 a1 k
  unfold spec_anyImage.f
  repeat' first
      | (with_reducible exact spec_anyPlanes.mono _ _ _)
      | (with_reducible exact spec_randomImage.mono _ _ _ _)
      | (with_reducible exact spec_spoilImage.mono _ _ _ _ _ _ _)
      | (with_reducible exact LeO.refl _)
      | (with_reducible exact LeO.none _)
      | (with_reducible refine LeO.ite ?_ ?_)
      | (with_reducible refine LeO.bind ?_ (fun _ => ?_))
      | exact spec_anyPlanes.mono _ _ _
      | exact spec_randomImage.mono _ _ _ _
      | exact spec_spoilImage.mono _ _ _ _ _ _ _
      | exact LeO.none _
      | refine LeO.ite ?_ ?_
      | refine LeO.bind ?_ (fun _ => ?_)
set_option maxHeartbeats 8000000 in
set_option maxRecDepth 100000 in
theorem spec_anyImage.calls (k : Nat) (g : Nat) (s0_0 : List Int) (s0_1 : Int) (r1 : Int) (r2 : Int) (r3 : Int) (r4 : List Int) (r5 : Int) (w0 w : World) (hI : IsS74 w0 w g s0_0 s0_1) (hB : Below w0.heap.size w0 w) (h : spec_anyImage.f k s0_0 s0_1 = some (r1, r2, r3, r4, r5)) :
    Calls Try.prog 44 #[.pointer (some ⟨g, 0, none⟩)] w fun e w' => ∃ v3_ : Value, e = .returned (.agg #[.int .i64 r1, .int .i64 r2, .int .i64 r3, v3_]) ∧ Kd.Q (Kd.int .i64) 3 w' w.heap.size (fun _ => True) v3_ r4 ∧ IsS74 w0 w' g s0_0 r5 ∧ Below w0.heap.size w0 w' ∧ KeepBut w w' g none := by
  have hu34 := Try.underlying34
  have HI0 := Aside0.mk hI
  have HK := Aside0.mk (KeepBut.refl w g none)
  have HL := Aside0.mk hB.size
  clear hI
  have HW0 := Aside0.mk hB.size
  have HB := Aside0.mk hB
  clear hB
  have H : ((spec_anyPlanes.f k s0_0 s0_1).bind fun bt269 => ((spec_randomImage.f k s0_0 bt269.2 bt269.1).bind fun bt271 => ((spec_spoilImage.f k s0_0 bt271.2.2.2.2 bt271.1 bt271.2.1 bt271.2.2.1 bt271.2.2.2.1).bind fun bt278 => (some (bt278.1, bt278.2.1, bt278.2.2.1, bt278.2.2.2.1, bt278.2.2.2.2))))) = some (r1, r2, r3, r4, r5) := h
  clear h
  replace H := Option.bind_eq_some_iff.mp H
  obtain ⟨⟨t269, t270⟩, A20, H⟩ := H
  replace H : ((spec_randomImage.f k s0_0 t270 t269).bind fun bt271 => ((spec_spoilImage.f k s0_0 bt271.2.2.2.2 bt271.1 bt271.2.1 bt271.2.2.1 bt271.2.2.2.1).bind fun bt278 => (some (bt278.1, bt278.2.1, bt278.2.2.1, bt278.2.2.2.1, bt278.2.2.2.2)))) = some (r1, r2, r3, r4, r5) := H
  have A2 := Aside0.mk A20
  clear A20
  replace H := Option.bind_eq_some_iff.mp H
  obtain ⟨⟨t271, t272, t273, t274, t277⟩, A30, H⟩ := H
  replace H : ((spec_spoilImage.f k s0_0 t277 t271 t272 t273 t274).bind fun bt278 => (some (bt278.1, bt278.2.1, bt278.2.2.1, bt278.2.2.2.1, bt278.2.2.2.2))) = some (r1, r2, r3, r4, r5) := H
  have A3 := Aside0.mk A30
  clear A30
  replace H := Option.bind_eq_some_iff.mp H
  obtain ⟨⟨t278, t279, t280, t281, t284⟩, A40, H⟩ := H
  replace H : (some (t278, t279, t280, t281, t284)) = some (r1, r2, r3, r4, r5) := H
  have A4 := Aside0.mk A40
  clear A40
  simp only [Option.some.injEq, Prod.mk.injEq] at H
  obtain ⟨rfl, rfl, rfl, rfl, rfl⟩ := H
  go_enter Try.func44, Try.ntmps44
  go_wp2_with (first | ((with_reducible refine gate_dst (N := 2) rfl ?_); refine box_event ?hg (N := 2) ?hd (cs := #[.int .i64 0, .int .i64 0, .int .i64 0, .slice none 0 0]) (t := 34) ?hr ?_; (case hd => rfl); (case hg => rfl); (case hr => first | (go_simp; done) | (go_simp; rfl)); intro gb268 hg w5 hbox hb; have n0_ := Aside0.mk (IsS74.below (B.st HI0) hb); have n1_ := Aside0.mk (KeepBut.trans (B.kk HK) (KeepBut.of_below hb g none) (.inl rfl)); have n2_ := Aside0.mk (below_step (B.bs HB) hb); have n3_ := Aside0.mk (hbox); have n4_ := Aside0.mk ((by rw [hg]; exact (keep_size (w := w) (g := g) (row := none) (B.kk HK)) : w.heap.size ≤ gb268)); have n5_ := Aside0.mk ((Nat.le_trans HW0.out (by rw [hg]; exact (keep_size (w := w) (g := g) (row := none) (B.kk HK)) : w.heap.size ≤ gb268) : w0.heap.size ≤ gb268)); have n6_ := Aside0.mk ((by rw [hg]; exact Nat.ne_of_lt (IsS74.lt (show IsS74 w0 _ g s0_0 s0_1 from B.st HI0)) : g ≠ gb268)); have n7_ := Aside0.mk ((by rw [hg]; exact Nat.ne_of_gt (IsS74.lt (show IsS74 w0 _ g s0_0 s0_1 from B.st HI0)) : gb268 ≠ g)); clear HI0 HK HB; have HI0 := n0_; have HK := n1_; have HB := n2_; have BK268 := n3_; have GW268 := n4_; have GE268 := n5_; have NB0_268 := n6_; have NB268_0 := n7_; clear n0_ n1_ n2_ n3_ n4_ n5_ n6_ n7_; clear hb hbox hg) | ((with_reducible refine gate_callee (f := 60) rfl ?_); refine goesL_ (some 6) rfl rfl Try.func60 (by kernel_rfl) rfl #[.pointer (some ⟨g, 0, none⟩)] rfl B.am ?_; (with_reducible refine (spec_anyPlanes.calls k g s0_0 s0_1 t269 t270 w0 _ ?side1 ?side2 A2.out).mono ?_); (case side1 => exact B.st HI0); (case side2 => exact B.bs HB); rintro e w6 ⟨rfl, hi, hb, hk⟩; refine ⟨_, rfl, ?_⟩; have n0_ := Aside0.mk (KeepBut.blk hk (g' := gb268) (o := .cells #[.int .i64 0, .int .i64 0, .int .i64 0, .slice none 0 0] 34 (0, 0)) (B.kb BK268) NB268_0.out (by simp)); have n1_ := Aside0.mk (KeepBut.trans (B.kk HK) hk (.inl rfl)); have n2_ := Aside0.mk (hb); have n3_ := Aside0.mk (hi); clear BK268 HK HB HI0; have BK268 := n0_; have HK := n1_; have HB := n2_; have HI0 := n3_; clear n0_ n1_ n2_ n3_; (try clear hb); (try clear hb2); (try clear hk); (try clear hi)) | ((with_reducible refine gate_callee (f := 59) rfl ?_); refine goesL_ (some 7) rfl rfl Try.func59 (by kernel_rfl) rfl #[.pointer (some ⟨g, 0, none⟩), .int .i64 t269] rfl B.am ?_; (with_reducible refine (spec_randomImage.calls k g s0_0 t270 t269 t271 t272 t273 t274 t277 w0 _ ?side1 ?side2 A3.out).mono ?_); (case side1 => exact B.st HI0); (case side2 => exact B.bs HB); rintro e w7 ⟨v275, rfl, ho0, hi, hb, hk⟩; refine ⟨_, rfl, ?_⟩; have n0_ := Aside0.mk (KeepBut.blk hk (g' := gb268) (o := .cells #[.int .i64 0, .int .i64 0, .int .i64 0, .slice none 0 0] 34 (0, 0)) (B.kb BK268) NB268_0.out (by simp)); have n1_ := Aside0.mk (Kd.R_lower ho0 (keep_size (w := w) (g := g) (row := none) (B.kk HK))); have n2_ := Aside0.mk (KeepBut.trans (B.kk HK) hk (.inl rfl)); have n3_ := Aside0.mk (hb); have n4_ := Aside0.mk (hi); clear BK268 HK HB HI0; have BK268 := n0_; have HO276 := n1_; have HK := n2_; have HB := n3_; have HI0 := n4_; clear n0_ n1_ n2_ n3_ n4_; (try clear hb); (try clear hb2); (try clear hk); (try clear hi); (try clear ho0); obtain ⟨Ao8, co8, eo8⟩ := Kd.R_slice HO276.out; subst eo8) | ((with_reducible refine gate_callee (f := 58) rfl ?_); refine goesL_ (some 8) rfl rfl Try.func58 (by kernel_rfl) rfl #[.pointer (some ⟨g, 0, none⟩), .agg #[.int .i64 t271, .int .i64 t272, .int .i64 t273, .slice Ao8 t274.length co8]] rfl B.am ?_; (with_reducible refine (spec_spoilImage.calls k g s0_0 t277 t271 t272 t273 (fun k_ => some k_ = (.slice Ao8 t274.length co8 : Value).ownBlock) (.slice Ao8 t274.length co8) t274 t278 t279 t280 t281 t284 w0 _ ?side1 ?side2 ?side3 A4.out).mono ?_); (case side1 => exact B.st HI0); (case side2 => exact B.bs HB); (case side3 => exact Kd.R_lower (Kd.R_tight rfl HO276.out) HL.out); rintro e w9 ⟨v282, rfl, ho0, hi, hb, hkp⟩; refine ⟨_, rfl, ?_⟩; have n0_ := Aside0.mk (hi); have n1_ := Aside0.mk (blk_kept (B.kb BK268) hkp (fun hs_ => Or.elim hs_ (fun hs_ => (fun e_ => (Kd.R_ne HO276.out BK268.out (by decide)) e_) hs_) (fun e_ => NB268_0.out e_))); have n2_ := Aside0.mk (Kd.Q_mono (ok' := fun k_ => True) (B.Q_raise (d := (Kd.int .i64)) (b := w0.heap.size) (b' := w.heap.size) (fun _ _ _ _ h_ => h_) ho0 (fun k_ e_ => Or.elim (ho0.1 k_ e_) (fun hs_ => (fun e_ => Kd.R_base HO276.out k_ e_.symm) hs_) (fun hn_ => Nat.le_trans (keep_size (w := w) (g := g) (row := none) (B.kk HK)) hn_))) (fun k_ hk_ => trivial)); have n3_ := Aside0.mk (Kept.keepG (B.kk HK) hkp (fun k_ hs_ => Or.elim hs_ (fun hs_ => (fun e_ => .inr (Kd.R_base HO276.out k_ e_.symm)) hs_) (fun e_ => .inl e_))); have n4_ := Aside0.mk (hb); clear HI0 BK268 HK HB HO276; have HI0 := n0_; have BK268 := n1_; have HO283 := n2_; have HK := n3_; have HB := n4_; clear n0_ n1_ n2_ n3_ n4_; (try clear hb); (try clear hkp); (try clear ho0); have hnb10 := NB268_0.out; have hnc10 := NB0_268.out; have hcz11_0 : w9.cell? ⟨gb268, 0, none⟩ = some (.int .i64 0) := B.bc BK268 0; have hcz11_1 : w9.cell? ⟨gb268, 1, none⟩ = some (.int .i64 0) := B.bc BK268 1; have hcz11_2 : w9.cell? ⟨gb268, 2, none⟩ = some (.int .i64 0) := B.bc BK268 2; have hcz11_3 : w9.cell? ⟨gb268, 3, none⟩ = some (.slice none 0 0) := B.bc BK268 3; have hfz11_0 := blk_frozen BK268.out 0; have hfz11_1 := blk_frozen BK268.out 1; have hfz11_2 := blk_frozen BK268.out 2; have hfz11_3 := blk_frozen BK268.out 3; obtain ⟨Ao12, co12, eo12, _⟩ := Kd.Q_slice HO283.out; subst eo12))
  refine bodyPost_ret (results_cell_row rfl _ _ gb268 34 #[.int .i64 t278, .int .i64 t279, .int .i64 t280, .slice Ao12 t281.length co12] (0, 0) _ rfl (B.kb0 (B.bp4 BK268)) Try.underlying34 rfl (by kernel_rfl)) rfl ?_
  exact ⟨_, by first | rfl | (simp [errW_none, errW_some] <;> rfl) | (simp [*, errW_none, errW_some] <;> rfl), by (with_reducible repeat (first | apply Kd.Q_alloc | apply Kd.Q_drewN | apply Kd.Q_drew)); exact Kd.Q_mono (Kd.Q_far (p := ⟨gb268, 3, none⟩) (Kd.Q_far (p := ⟨gb268, 2, none⟩) (Kd.Q_far (p := ⟨gb268, 1, none⟩) (Kd.Q_far (p := ⟨gb268, 0, none⟩) (Kd.Q_types HO283.out BK268.out (by decide)) (fun _ hk => hk.2) (.int .i64 t278)) (fun _ hk => hk.2) (.int .i64 t279)) (fun _ hk => hk.2) (.int .i64 t280)) (fun _ hk => hk.2) (.slice Ao12 t281.length co12)) (fun _ hk => trivial), B.st HI0, B.bs HB, B.kk HK⟩

end Go.Proofs.Ytpadegboplcapaa.Q
