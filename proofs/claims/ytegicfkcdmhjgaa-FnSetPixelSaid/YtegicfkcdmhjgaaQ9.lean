-- Written by a program of this session (the kit's printer, with hand-proved contracts for the functions that it does not take).
import Derived.Test.YtegicfkcdmhjgaaQ0
import Derived.Test.YtegicfkcdmhjgaaQ1
import Derived.Test.YtegicfkcdmhjgaaQ2
import Derived.Test.YtegicfkcdmhjgaaQ5
import Derived.Test.YtegicfkcdmhjgaaQ8
namespace Go.Proofs.Ytegicfkcdmhjgaa.Q
open Go.RowKit Go.Proofs.YtegicfkcdmhjgaaW.PrintWords Go.Proofs.YtegicfkcdmhjgaaW.PrintLast Go.Proofs.YtegicfkcdmhjgaaW.PrintMore
attribute [local go_sem] max2_int min2_int max_two min_two max_three min_three max_four min_four   -- for this text's walks alone
set_option linter.unusedVariables false
set_option linter.unusedSimpArgs false

/-! ### laws_FnSetPixel: function 10 -/
def laws_FnSetPixel.j0 : Nat → Int → Int → List Int → Bool → Bool → Bool → Int → Int → Int → List Int → Int → Int → Int → List Int → Int → Int → Int → List Int → Option (Bool)
  | 0, _, _, _, _, _, _, _, _, _, _, _, _, _, _, _, _, _, _ => none
  | k + 1, x4, x5, x6, x8, x10, x51, x411000, x411001, x411002, x411003, x419000, x419001, x419002, x419003, x427000, x427001, x427002, x427003 => if x51 = true then ((laws_equalImage.f k x419000 x419001 x419002 x419003 x427000 x427001 x427002 x427003).bind fun t428 => (if t428 = true then (some (x8 == x10)) else (some false))) else ((impl_PixelAt.f x411000 x411001 x411002 x411003 x4 x5).bind fun t429 => ((impl_SetPixel.f x419000 x419001 x419002 x419003 x4 x5 t429).bind fun bt432 => ((impl_PixelAt.f x419000 x419001 x419002 x419003 x4 x5).bind fun t440 => ((laws_equalInts.f k t440 x6).bind fun t443 => (if t443 = true then (if bt432.2.2.2.2 = true then ((laws_equalImage.f k bt432.1 bt432.2.1 bt432.2.2.1 bt432.2.2.2.1 x411000 x411001 x411002 x411003).bind fun t444 => (some t444)) else (some false)) else (some false))))))
def laws_FnSetPixel.f (k : Nat) (l0 : List Int) : Option (Bool) := if (l0.length : Int) > 1048576 then (some true) else ((spec_DrawSetPixel.f k l0).bind fun bt399 => ((impl_SetPixel.f bt399.1 bt399.2.1 bt399.2.2.1 bt399.2.2.2.1 bt399.2.2.2.2.1 bt399.2.2.2.2.2.1 bt399.2.2.2.2.2.2).bind fun bt411 => ((spec_SetPixel.f k bt399.1 bt399.2.1 bt399.2.2.1 bt399.2.2.2.1 bt399.2.2.2.2.1 bt399.2.2.2.2.2.1 bt399.2.2.2.2.2.2).bind fun bt419 => ((laws_equalImage.f k bt411.1 bt411.2.1 bt411.2.2.1 bt411.2.2.2.1 bt419.1 bt419.2.1 bt419.2.2.1 bt419.2.2.2.1).bind fun t427 => (if t427 = true then (if (bt411.2.2.2.2 != bt419.2.2.2.2) = true then (laws_FnSetPixel.j0 k bt399.2.2.2.2.1 bt399.2.2.2.2.2.1 bt399.2.2.2.2.2.2 bt411.2.2.2.2 bt419.2.2.2.2 true bt399.1 bt399.2.1 bt399.2.2.1 bt399.2.2.2.1 bt411.1 bt411.2.1 bt411.2.2.1 bt411.2.2.2.1 bt419.1 bt419.2.1 bt419.2.2.1 bt419.2.2.2.1) else (laws_FnSetPixel.j0 k bt399.2.2.2.2.1 bt399.2.2.2.2.2.1 bt399.2.2.2.2.2.2 bt411.2.2.2.2 bt419.2.2.2.2 (!bt411.2.2.2.2) bt399.1 bt399.2.1 bt399.2.2.1 bt399.2.2.2.1 bt411.1 bt411.2.1 bt411.2.2.1 bt411.2.2.2.1 bt419.1 bt419.2.1 bt419.2.2.1 bt419.2.2.2.1)) else (laws_FnSetPixel.j0 k bt399.2.2.2.2.1 bt399.2.2.2.2.2.1 bt399.2.2.2.2.2.2 bt411.2.2.2.2 bt419.2.2.2.2 true bt399.1 bt399.2.1 bt399.2.2.1 bt399.2.2.2.1 bt411.1 bt411.2.1 bt411.2.2.1 bt411.2.2.2.1 bt419.1 bt419.2.1 bt419.2.2.1 bt419.2.2.2.1))))))
theorem laws_FnSetPixel.mono_l : ∀ k, (∀ y0 y1 y2 y3 y4 y5 y6 y7 y8 y9 y10 y11 y12 y13 y14 y15 y16 y17, LeO (laws_FnSetPixel.j0 k y0 y1 y2 y3 y4 y5 y6 y7 y8 y9 y10 y11 y12 y13 y14 y15 y16 y17) (laws_FnSetPixel.j0 (k + 1) y0 y1 y2 y3 y4 y5 y6 y7 y8 y9 y10 y11 y12 y13 y14 y15 y16 y17))
  | 0 => fun _ _ _ _ _ _ _ _ _ _ _ _ _ _ _ _ _ _ r h => by simp [laws_FnSetPixel.j0] at h
  | k + 1 => by
    have ih0 := laws_FnSetPixel.mono_l k
    · intro y0 y1 y2 y3 y4 y5 y6 y7 y8 y9 y10 y11 y12 y13 y14 y15 y16 y17
      unfold laws_FnSetPixel.j0
      repeat' first
      | (with_reducible exact ih0 _ _ _ _ _ _ _ _ _ _ _ _ _ _ _ _ _ _)
      | (with_reducible exact laws_equalImage.mono _ _ _ _ _ _ _ _ _)
      | (with_reducible exact laws_equalInts.mono _ _ _)
      | (with_reducible exact spec_DrawSetPixel.mono _ _)
      | (with_reducible exact spec_SetPixel.mono _ _ _ _ _ _ _ _)
      | (with_reducible exact LeO.refl _)
      | (with_reducible exact LeO.none _)
      | (with_reducible refine LeO.ite ?_ ?_)
      | (with_reducible refine LeO.bind ?_ (fun _ => ?_))
      | exact ih0 _ _ _ _ _ _ _ _ _ _ _ _ _ _ _ _ _ _
      | exact laws_equalImage.mono _ _ _ _ _ _ _ _ _
      | exact laws_equalInts.mono _ _ _
      | exact spec_DrawSetPixel.mono _ _
      | exact spec_SetPixel.mono _ _ _ _ _ _ _ _
      | exact LeO.none _
      | refine LeO.ite ?_ ?_
      | refine LeO.bind ?_ (fun _ => ?_)
theorem laws_FnSetPixel.mono : ∀ a0 k, LeO (laws_FnSetPixel.f k a0) (laws_FnSetPixel.f (k + 1) a0) := by
  intro a0 k
  have ih0 := laws_FnSetPixel.mono_l k
  unfold laws_FnSetPixel.f
  repeat' first
      | (with_reducible exact ih0 _ _ _ _ _ _ _ _ _ _ _ _ _ _ _ _ _ _)
      | (with_reducible exact laws_equalImage.mono _ _ _ _ _ _ _ _ _)
      | (with_reducible exact laws_equalInts.mono _ _ _)
      | (with_reducible exact spec_DrawSetPixel.mono _ _)
      | (with_reducible exact spec_SetPixel.mono _ _ _ _ _ _ _ _)
      | (with_reducible exact LeO.refl _)
      | (with_reducible exact LeO.none _)
      | (with_reducible refine LeO.ite ?_ ?_)
      | (with_reducible refine LeO.bind ?_ (fun _ => ?_))
      | exact ih0 _ _ _ _ _ _ _ _ _ _ _ _ _ _ _ _ _ _
      | exact laws_equalImage.mono _ _ _ _ _ _ _ _ _
      | exact laws_equalInts.mono _ _ _
      | exact spec_DrawSetPixel.mono _ _
      | exact spec_SetPixel.mono _ _ _ _ _ _ _ _
      | exact LeO.none _
      | refine LeO.ite ?_ ?_
      | refine LeO.bind ?_ (fun _ => ?_)
def laws_FnSetPixel.T8 : Bool × List (List Nat × List Nat) := (true, [([], []), ([], []), ([], []), ([], []), ([], []), ([], []), ([3, 4, 5], [3, 4, 5]), ([0, 1, 2, 6, 6], [0, 1, 2, 6]), ([7], [7]), ([8], [8]), ([8], [8]), ([], []), ([11, 9, 7, 0, 1, 2, 3, 4, 5, 6, 7, 8, 9, 11], [9, 11]), ([10, 12, 0, 1, 2, 3, 4, 5, 6, 7, 8, 9, 10, 11, 12], [10])])
def laws_FnSetPixel.B8 : List Nat := [0, 0, 0, 0, 0, 0, 56, 127, 255, 511, 511, 0, 3071, 8191]
theorem laws_FnSetPixel.tab8 : rtab .any (opsOf Try.f10 8) = laws_FnSetPixel.T8 := by kernel_rfl
theorem laws_FnSetPixel.bits8 : waitsOk laws_FnSetPixel.T8.2 laws_FnSetPixel.B8 = true := by kernel_rfl
set_option maxHeartbeats 8000000 in
set_option maxRecDepth 100000 in
theorem laws_FnSetPixel.calls (k : Nat) (A0 : Option Addr) (c0 : Nat) (l0 : List Int) (r : Bool) (w : World) (hr0 : Kd.C (Kd.int .u8) w A0 l0.length l0) (hc0 : l0.length ≤ c0) (h : laws_FnSetPixel.f k l0 = some r) (ht_ : Aside0 (r = true)) :
    Calls Try.prog 10 #[.slice A0 l0.length c0] w fun e w' => e = .returned (.bool r) ∧ Below w.heap.size w w' := by
  have hu27 := Try.underlying27
  have HR0 := Aside0.mk hr0
  have HC0 := Aside0.mk hc0
  clear hr0 hc0
  have HB := Aside0.mk (Below.refl w.heap.size w)
  have H : (if (l0.length : Int) > 1048576 then (some true) else ((spec_DrawSetPixel.f k l0).bind fun bt399 => ((impl_SetPixel.f bt399.1 bt399.2.1 bt399.2.2.1 bt399.2.2.2.1 bt399.2.2.2.2.1 bt399.2.2.2.2.2.1 bt399.2.2.2.2.2.2).bind fun bt411 => ((spec_SetPixel.f k bt399.1 bt399.2.1 bt399.2.2.1 bt399.2.2.2.1 bt399.2.2.2.2.1 bt399.2.2.2.2.2.1 bt399.2.2.2.2.2.2).bind fun bt419 => ((laws_equalImage.f k bt411.1 bt411.2.1 bt411.2.2.1 bt411.2.2.2.1 bt419.1 bt419.2.1 bt419.2.2.1 bt419.2.2.2.1).bind fun t427 => (if t427 = true then (if (bt411.2.2.2.2 != bt419.2.2.2.2) = true then (laws_FnSetPixel.j0 k bt399.2.2.2.2.1 bt399.2.2.2.2.2.1 bt399.2.2.2.2.2.2 bt411.2.2.2.2 bt419.2.2.2.2 true bt399.1 bt399.2.1 bt399.2.2.1 bt399.2.2.2.1 bt411.1 bt411.2.1 bt411.2.2.1 bt411.2.2.2.1 bt419.1 bt419.2.1 bt419.2.2.1 bt419.2.2.2.1) else (laws_FnSetPixel.j0 k bt399.2.2.2.2.1 bt399.2.2.2.2.2.1 bt399.2.2.2.2.2.2 bt411.2.2.2.2 bt419.2.2.2.2 (!bt411.2.2.2.2) bt399.1 bt399.2.1 bt399.2.2.1 bt399.2.2.2.1 bt411.1 bt411.2.1 bt411.2.2.1 bt411.2.2.2.1 bt419.1 bt419.2.1 bt419.2.2.1 bt419.2.2.2.1)) else (laws_FnSetPixel.j0 k bt399.2.2.2.2.1 bt399.2.2.2.2.2.1 bt399.2.2.2.2.2.2 bt411.2.2.2.2 bt419.2.2.2.2 true bt399.1 bt399.2.1 bt399.2.2.1 bt399.2.2.2.1 bt411.1 bt411.2.1 bt411.2.2.1 bt411.2.2.2.1 bt419.1 bt419.2.1 bt419.2.2.1 bt419.2.2.2.1))))))) = some r := h
  clear h
  by_cases c2 : (l0.length : Int) > 1048576
  · rw [if_pos c2] at H
    have c2b0 : decide (1048576 < (l0.length : Int)) = true := decide_eq_true c2
    have c2b1 : decide (1048576 < l0.length) = true := decide_eq_true (by omega)
    clear c2
    obtain rfl := Option.some.inj H
    simp only [Option.some.injEq, Prod.mk.injEq] at H
    obtain ⟨rfl⟩ := H
    go_enter Try.func10, Try.ntmps10
    go_wp2
    go_ret
    exact ⟨by first | rfl | (simp [errW_none, errW_some] <;> rfl) | (simp [*, errW_none, errW_some] <;> rfl), B.bl HB⟩
  rw [if_neg c2] at H
  have c2b0 : decide (1048576 < (l0.length : Int)) = false := decide_eq_false c2
  have c2b1 : decide (1048576 < l0.length) = false := decide_eq_false (by omega)
  clear c2
  replace H := Option.bind_eq_some_iff.mp H
  obtain ⟨⟨t399, t400, t401, t402, t405, t406, t407⟩, A30, H⟩ := H
  replace H : ((impl_SetPixel.f t399 t400 t401 t402 t405 t406 t407).bind fun bt411 => ((spec_SetPixel.f k t399 t400 t401 t402 t405 t406 t407).bind fun bt419 => ((laws_equalImage.f k bt411.1 bt411.2.1 bt411.2.2.1 bt411.2.2.2.1 bt419.1 bt419.2.1 bt419.2.2.1 bt419.2.2.2.1).bind fun t427 => (if t427 = true then (if (bt411.2.2.2.2 != bt419.2.2.2.2) = true then (laws_FnSetPixel.j0 k t405 t406 t407 bt411.2.2.2.2 bt419.2.2.2.2 true t399 t400 t401 t402 bt411.1 bt411.2.1 bt411.2.2.1 bt411.2.2.2.1 bt419.1 bt419.2.1 bt419.2.2.1 bt419.2.2.2.1) else (laws_FnSetPixel.j0 k t405 t406 t407 bt411.2.2.2.2 bt419.2.2.2.2 (!bt411.2.2.2.2) t399 t400 t401 t402 bt411.1 bt411.2.1 bt411.2.2.1 bt411.2.2.2.1 bt419.1 bt419.2.1 bt419.2.2.1 bt419.2.2.2.1)) else (laws_FnSetPixel.j0 k t405 t406 t407 bt411.2.2.2.2 bt419.2.2.2.2 true t399 t400 t401 t402 bt411.1 bt411.2.1 bt411.2.2.1 bt411.2.2.2.1 bt419.1 bt419.2.1 bt419.2.2.1 bt419.2.2.2.1))))) = some r := H
  have A3 := Aside0.mk A30
  clear A30
  replace H := Option.bind_eq_some_iff.mp H
  obtain ⟨⟨t411, t412, t413, t414, t417⟩, A40, H⟩ := H
  replace H : ((spec_SetPixel.f k t399 t400 t401 t402 t405 t406 t407).bind fun bt419 => ((laws_equalImage.f k t411 t412 t413 t414 bt419.1 bt419.2.1 bt419.2.2.1 bt419.2.2.2.1).bind fun t427 => (if t427 = true then (if (t417 != bt419.2.2.2.2) = true then (laws_FnSetPixel.j0 k t405 t406 t407 t417 bt419.2.2.2.2 true t399 t400 t401 t402 t411 t412 t413 t414 bt419.1 bt419.2.1 bt419.2.2.1 bt419.2.2.2.1) else (laws_FnSetPixel.j0 k t405 t406 t407 t417 bt419.2.2.2.2 (!t417) t399 t400 t401 t402 t411 t412 t413 t414 bt419.1 bt419.2.1 bt419.2.2.1 bt419.2.2.2.1)) else (laws_FnSetPixel.j0 k t405 t406 t407 t417 bt419.2.2.2.2 true t399 t400 t401 t402 t411 t412 t413 t414 bt419.1 bt419.2.1 bt419.2.2.1 bt419.2.2.2.1)))) = some r := H
  have A4 := Aside0.mk A40
  clear A40
  replace H := Option.bind_eq_some_iff.mp H
  obtain ⟨⟨t419, t420, t421, t422, t425⟩, A50, H⟩ := H
  replace H : ((laws_equalImage.f k t411 t412 t413 t414 t419 t420 t421 t422).bind fun t427 => (if t427 = true then (if (t417 != t425) = true then (laws_FnSetPixel.j0 k t405 t406 t407 t417 t425 true t399 t400 t401 t402 t411 t412 t413 t414 t419 t420 t421 t422) else (laws_FnSetPixel.j0 k t405 t406 t407 t417 t425 (!t417) t399 t400 t401 t402 t411 t412 t413 t414 t419 t420 t421 t422)) else (laws_FnSetPixel.j0 k t405 t406 t407 t417 t425 true t399 t400 t401 t402 t411 t412 t413 t414 t419 t420 t421 t422))) = some r := H
  have A5 := Aside0.mk A50
  clear A50
  have HC6 := Aside0.mk H
  clear H
  go_enter Try.func10, Try.ntmps10
  go_upto_region 6 with (first | ((with_reducible refine gate_callee (f := 34) rfl ?_); refine goesL_ (some 18) rfl rfl Try.func34 (by kernel_rfl) rfl #[.slice A0 l0.length c0] rfl B.am ?_; (with_reducible refine (spec_DrawSetPixel.calls k _ _ l0 t399 t400 t401 t402 t405 t406 t407 _ ?side1 ?side2 A3.out).mono ?_); (case side1 => exact B.kc (HR0.out)); (case side2 => exact HC0.out); rintro e w7 ⟨v403, v408, rfl, ho0, ho1, hb⟩; refine ⟨_, rfl, ?_⟩; have n0_ := Aside0.mk (Kd.Q_lower ho0 (below_size (B.bl HB))); have n1_ := Aside0.mk (Kd.Q_lower ho1 (below_size (B.bl HB))); have n2_ := Aside0.mk (below_step (B.bl HB) hb); clear HB; have HO404 := n0_; have HO409 := n1_; have HB := n2_; clear n0_ n1_ n2_; (try clear hb); (try clear hb2); (try clear hk); (try clear hi); (try clear ho0); (try clear ho1)) | ((with_reducible refine gate_dst (N := 3) rfl ?_); refine box_event ?hg (N := 3) ?hd (cs := #[.int .i64 0, .int .i64 0, .int .i64 0, .slice none 0 0]) (t := 27) ?hr ?_; (case hd => rfl); (case hg => rfl); (case hr => first | (go_simp; done) | (go_simp; rfl)); intro gb410 hg w8 hbox hb; have n0_ := Aside0.mk (Kd.Q_below (B.kq HO404) hb); have n1_ := Aside0.mk (Kd.Q_below (B.kq HO409) hb); have n2_ := Aside0.mk (below_step (B.bl HB) hb); have n3_ := Aside0.mk (hbox); have n4_ := Aside0.mk (B.nle hg (below_size (B.bl HB))); have n5_ := Aside0.mk (B.nle hg (below_size (B.bl HB))); clear HO404 HO409 HB; have HO404 := n0_; have HO409 := n1_; have HB := n2_; have BK410 := n3_; have GW410 := n4_; have GE410 := n5_; clear n0_ n1_ n2_ n3_ n4_ n5_; clear hb hbox hg; have hcz9_0 : w8.cell? ⟨gb410, 0, none⟩ = some (.int .i64 0) := B.bc BK410 0; have hcz9_1 : w8.cell? ⟨gb410, 1, none⟩ = some (.int .i64 0) := B.bc BK410 1; have hcz9_2 : w8.cell? ⟨gb410, 2, none⟩ = some (.int .i64 0) := B.bc BK410 2; have hcz9_3 : w8.cell? ⟨gb410, 3, none⟩ = some (.slice none 0 0) := B.bc BK410 3; have hfz9_0 := blk_frozen BK410.out 0; have hfz9_1 := blk_frozen BK410.out 1; have hfz9_2 := blk_frozen BK410.out 2; have hfz9_3 := blk_frozen BK410.out 3; obtain ⟨Ao10, co10, eo10, _⟩ := Kd.Q_slice HO404.out; subst eo10; obtain ⟨Ao11, co11, eo11, _⟩ := Kd.Q_slice HO409.out; subst eo11) | ((with_reducible refine gate_callee (f := 33) rfl ?_); refine goesL_ (some 28) rfl rfl Try.func33 (by kernel_rfl) rfl #[.agg #[.int .i64 t399, .int .i64 t400, .int .i64 t401, .slice Ao10 t402.length co10], .int .i64 t405, .int .i64 t406, .slice Ao11 t407.length co11] rfl B.am ?_; (with_reducible refine (impl_SetPixel.calls t399 t400 t401 _ _ t402 t405 t406 _ _ t407 t411 t412 t413 t414 t417 _ ?side1 ?side2 ?side3 ?side4 A4.out).mono ?_); (case side1 => refine (Kd.Q_reads' (e := 3) (base := w.heap.size) (ok := fun k_ => some k_ ≠ (.slice Ao11 t407.length co11 : Value).ownBlock) (n := t402.length) (c := co10) ?_).2.2; exact (by (with_reducible repeat (first | apply Kd.Q_alloc | apply Kd.Q_drewN | apply Kd.Q_drew)); exact (Kd.Q_mono (Kd.Q_far (p := ⟨gb410, 3, none⟩) (Kd.Q_far (p := ⟨gb410, 2, none⟩) (Kd.Q_far (p := ⟨gb410, 1, none⟩) (Kd.Q_far (p := ⟨gb410, 0, none⟩) (Kd.Q_types HO404.out BK410.out (by decide)) (fun _ hk => hk.2) (.int .i64 t399)) (fun _ hk => hk.2) (.int .i64 t400)) (fun _ hk => hk.2) (.int .i64 t401)) (fun _ hk => hk.2) (.slice Ao10 t402.length co10)) (fun _ h_ => h_.1)))); (case side2 => exact (Kd.Q_reads' HO404.out).2.1); (case side3 => refine (Kd.Q_reads' (e := 3) (base := w.heap.size) (ok := fun k_ => some k_ ≠ (.slice Ao10 t402.length co10 : Value).ownBlock) (n := t407.length) (c := co11) ?_).2.2; exact (by (with_reducible repeat (first | apply Kd.Q_alloc | apply Kd.Q_drewN | apply Kd.Q_drew)); exact (Kd.Q_mono (Kd.Q_far (p := ⟨gb410, 3, none⟩) (Kd.Q_far (p := ⟨gb410, 2, none⟩) (Kd.Q_far (p := ⟨gb410, 1, none⟩) (Kd.Q_far (p := ⟨gb410, 0, none⟩) (Kd.Q_types HO409.out BK410.out (by decide)) (fun _ hk => hk.2) (.int .i64 t399)) (fun _ hk => hk.2) (.int .i64 t400)) (fun _ hk => hk.2) (.int .i64 t401)) (fun _ hk => hk.2) (.slice Ao10 t402.length co10)) (fun _ h_ => h_.1)))); (case side4 => exact (Kd.Q_reads' HO409.out).2.1); rintro e w12 ⟨v415, rfl, ho0, hb⟩; refine ⟨_, rfl, ?_⟩; have n0_ := Aside0.mk (Kd.Q_elder' (by (with_reducible repeat (first | apply Kd.Q_alloc | apply Kd.Q_drewN | apply Kd.Q_drew)); exact (Kd.Q_mono (Kd.Q_far (p := ⟨gb410, 3, none⟩) (Kd.Q_far (p := ⟨gb410, 2, none⟩) (Kd.Q_far (p := ⟨gb410, 1, none⟩) (Kd.Q_far (p := ⟨gb410, 0, none⟩) (Kd.Q_types HO404.out BK410.out (by decide)) (fun _ hk => hk.2) (.int .i64 t399)) (fun _ hk => hk.2) (.int .i64 t400)) (fun _ hk => hk.2) (.int .i64 t401)) (fun _ hk => hk.2) (.slice Ao10 t402.length co10)) (fun _ h_ => h_.1))) (Kd.R_base ho0) hb); have n1_ := Aside0.mk (Kd.Q_elder' (by (with_reducible repeat (first | apply Kd.Q_alloc | apply Kd.Q_drewN | apply Kd.Q_drew)); exact (Kd.Q_mono (Kd.Q_far (p := ⟨gb410, 3, none⟩) (Kd.Q_far (p := ⟨gb410, 2, none⟩) (Kd.Q_far (p := ⟨gb410, 1, none⟩) (Kd.Q_far (p := ⟨gb410, 0, none⟩) (Kd.Q_types HO409.out BK410.out (by decide)) (fun _ hk => hk.2) (.int .i64 t399)) (fun _ hk => hk.2) (.int .i64 t400)) (fun _ hk => hk.2) (.int .i64 t401)) (fun _ hk => hk.2) (.slice Ao10 t402.length co10)) (fun _ h_ => h_.1))) (Kd.R_base ho0) hb); have n2_ := Aside0.mk (Kd.R_lower (Kd.R_new' (Kd.R_new' ho0 (Kd.Q_lt (by (with_reducible repeat (first | apply Kd.Q_alloc | apply Kd.Q_drewN | apply Kd.Q_drew)); exact (Kd.Q_mono (Kd.Q_far (p := ⟨gb410, 3, none⟩) (Kd.Q_far (p := ⟨gb410, 2, none⟩) (Kd.Q_far (p := ⟨gb410, 1, none⟩) (Kd.Q_far (p := ⟨gb410, 0, none⟩) (Kd.Q_types HO404.out BK410.out (by decide)) (fun _ hk => hk.2) (.int .i64 t399)) (fun _ hk => hk.2) (.int .i64 t400)) (fun _ hk => hk.2) (.int .i64 t401)) (fun _ hk => hk.2) (.slice Ao10 t402.length co10)) (fun _ h_ => h_.1))))) (Kd.Q_lt (by (with_reducible repeat (first | apply Kd.Q_alloc | apply Kd.Q_drewN | apply Kd.Q_drew)); exact (Kd.Q_mono (Kd.Q_far (p := ⟨gb410, 3, none⟩) (Kd.Q_far (p := ⟨gb410, 2, none⟩) (Kd.Q_far (p := ⟨gb410, 1, none⟩) (Kd.Q_far (p := ⟨gb410, 0, none⟩) (Kd.Q_types HO409.out BK410.out (by decide)) (fun _ hk => hk.2) (.int .i64 t399)) (fun _ hk => hk.2) (.int .i64 t400)) (fun _ hk => hk.2) (.int .i64 t401)) (fun _ hk => hk.2) (.slice Ao10 t402.length co10)) (fun _ h_ => h_.1))))) (below_size (B.bl HB))); have n3_ := Aside0.mk (blk_below (g := gb410) (o := .cells #[.int .i64 t399, .int .i64 t400, .int .i64 t401, .slice Ao10 t402.length co10] 27 (0, 0)) (B.kb0 (B.bp4 BK410)) hb); have n4_ := Aside0.mk (below_step (B.bl HB) hb); clear HO404 HO409 BK410 HB; have HO404 := n0_; have HO409 := n1_; have HO416 := n2_; have BK410 := n3_; have HB := n4_; clear n0_ n1_ n2_ n3_ n4_; (try clear hb); (try clear hb2); (try clear hk); (try clear hi); (try clear ho0)) | ((with_reducible refine gate_dst (N := 7) rfl ?_); refine box_event ?hg (N := 7) ?hd (cs := #[.int .i64 0, .int .i64 0, .int .i64 0, .slice none 0 0]) (t := 27) ?hr ?_; (case hd => rfl); (case hg => rfl); (case hr => first | (go_simp; done) | (go_simp; rfl)); intro gb418 hg w13 hbox hb; have n0_ := Aside0.mk (Kd.Q_below (B.kq HO404) hb); have n1_ := Aside0.mk (Kd.Q_below (B.kq HO409) hb); have n2_ := Aside0.mk (Kd.R_below (B.kr HO416) hb); have n3_ := Aside0.mk (blk_below (B.kb BK410) hb); have n4_ := Aside0.mk (below_step (B.bl HB) hb); have n5_ := Aside0.mk (hbox); have n6_ := Aside0.mk (B.nle hg (below_size (B.bl HB))); have n7_ := Aside0.mk (B.nle hg (below_size (B.bl HB))); have n8_ := Aside0.mk (B.nlt hg (blk_lt (B.kb BK410))); have n9_ := Aside0.mk (B.ngt hg (blk_lt (B.kb BK410))); clear HO404 HO409 HO416 BK410 HB; have HO404 := n0_; have HO409 := n1_; have HO416 := n2_; have BK410 := n3_; have HB := n4_; have BK418 := n5_; have GW418 := n6_; have GE418 := n7_; have NB410_418 := n8_; have NB418_410 := n9_; clear n0_ n1_ n2_ n3_ n4_ n5_ n6_ n7_ n8_ n9_; clear hb hbox hg; have hnb14 := NB418_410.out; have hnc14 := NB410_418.out; have hcz15_0 : w13.cell? ⟨gb418, 0, none⟩ = some (.int .i64 0) := B.bc BK418 0; have hcz15_1 : w13.cell? ⟨gb418, 1, none⟩ = some (.int .i64 0) := B.bc BK418 1; have hcz15_2 : w13.cell? ⟨gb418, 2, none⟩ = some (.int .i64 0) := B.bc BK418 2; have hcz15_3 : w13.cell? ⟨gb418, 3, none⟩ = some (.slice none 0 0) := B.bc BK418 3; have hfz15_0 := blk_frozen BK418.out 0; have hfz15_1 := blk_frozen BK418.out 1; have hfz15_2 := blk_frozen BK418.out 2; have hfz15_3 := blk_frozen BK418.out 3; obtain ⟨Ao16, co16, eo16⟩ := Kd.R_slice HO416.out; subst eo16; have hcz17_0 : w13.cell? ⟨gb410, 0, none⟩ = some (.int .i64 t399) := B.bc BK410 0; have hcz17_1 : w13.cell? ⟨gb410, 1, none⟩ = some (.int .i64 t400) := B.bc BK410 1; have hcz17_2 : w13.cell? ⟨gb410, 2, none⟩ = some (.int .i64 t401) := B.bc BK410 2; have hcz17_3 : w13.cell? ⟨gb410, 3, none⟩ = some (.slice Ao10 t402.length co10) := B.bc BK410 3; have hfz17_0 := blk_frozen BK410.out 0; have hfz17_1 := blk_frozen BK410.out 1; have hfz17_2 := blk_frozen BK410.out 2; have hfz17_3 := blk_frozen BK410.out 3) | ((with_reducible refine gate_callee (f := 32) rfl ?_); refine goesL_ (some 36) rfl rfl Try.func32 (by kernel_rfl) rfl #[.agg #[.int .i64 t399, .int .i64 t400, .int .i64 t401, .slice Ao10 t402.length co10], .int .i64 t405, .int .i64 t406, .slice Ao11 t407.length co11] rfl B.am ?_; (with_reducible refine (spec_SetPixel.calls k t399 t400 t401 _ _ t402 t405 t406 _ _ t407 t419 t420 t421 t422 t425 _ ?side1 ?side2 ?side3 ?side4 A5.out).mono ?_); (case side1 => refine (Kd.Q_reads' (e := 3) (base := w.heap.size) (ok := fun k_ => (some k_ ≠ (.slice Ao11 t407.length co11 : Value).ownBlock ∧ some k_ ≠ (.slice Ao16 t414.length co16 : Value).ownBlock)) (n := t402.length) (c := co10) ?_).2.2; exact (by (with_reducible repeat (first | apply Kd.Q_alloc | apply Kd.Q_drewN | apply Kd.Q_drew)); exact (Kd.Q_mono (Kd.Q_far (p := ⟨gb418, 3, none⟩) (Kd.Q_far (p := ⟨gb418, 2, none⟩) (Kd.Q_far (p := ⟨gb418, 1, none⟩) (Kd.Q_far (p := ⟨gb418, 0, none⟩) (Kd.Q_types HO404.out BK418.out (by decide)) (fun _ hk => hk.2) (.int .i64 t411)) (fun _ hk => hk.2) (.int .i64 t412)) (fun _ hk => hk.2) (.int .i64 t413)) (fun _ hk => hk.2) (.slice Ao16 t414.length co16)) (fun _ h_ => h_.1)))); (case side2 => exact (Kd.Q_reads' HO404.out).2.1); (case side3 => refine (Kd.Q_reads' (e := 3) (base := w.heap.size) (ok := fun k_ => (some k_ ≠ (.slice Ao10 t402.length co10 : Value).ownBlock ∧ some k_ ≠ (.slice Ao16 t414.length co16 : Value).ownBlock)) (n := t407.length) (c := co11) ?_).2.2; exact (by (with_reducible repeat (first | apply Kd.Q_alloc | apply Kd.Q_drewN | apply Kd.Q_drew)); exact (Kd.Q_mono (Kd.Q_far (p := ⟨gb418, 3, none⟩) (Kd.Q_far (p := ⟨gb418, 2, none⟩) (Kd.Q_far (p := ⟨gb418, 1, none⟩) (Kd.Q_far (p := ⟨gb418, 0, none⟩) (Kd.Q_types HO409.out BK418.out (by decide)) (fun _ hk => hk.2) (.int .i64 t411)) (fun _ hk => hk.2) (.int .i64 t412)) (fun _ hk => hk.2) (.int .i64 t413)) (fun _ hk => hk.2) (.slice Ao16 t414.length co16)) (fun _ h_ => h_.1)))); (case side4 => exact (Kd.Q_reads' HO409.out).2.1); rintro e w18 ⟨v423, rfl, ho0, hb⟩; refine ⟨_, rfl, ?_⟩; have n0_ := Aside0.mk (Kd.Q_elder' (by (with_reducible repeat (first | apply Kd.Q_alloc | apply Kd.Q_drewN | apply Kd.Q_drew)); exact (Kd.Q_mono (Kd.Q_far (p := ⟨gb418, 3, none⟩) (Kd.Q_far (p := ⟨gb418, 2, none⟩) (Kd.Q_far (p := ⟨gb418, 1, none⟩) (Kd.Q_far (p := ⟨gb418, 0, none⟩) (Kd.Q_types HO404.out BK418.out (by decide)) (fun _ hk => hk.2) (.int .i64 t411)) (fun _ hk => hk.2) (.int .i64 t412)) (fun _ hk => hk.2) (.int .i64 t413)) (fun _ hk => hk.2) (.slice Ao16 t414.length co16)) (fun _ h_ => h_.1))) (Kd.R_base ho0) hb); have n1_ := Aside0.mk (Kd.Q_elder' (by (with_reducible repeat (first | apply Kd.Q_alloc | apply Kd.Q_drewN | apply Kd.Q_drew)); exact (Kd.Q_mono (Kd.Q_far (p := ⟨gb418, 3, none⟩) (Kd.Q_far (p := ⟨gb418, 2, none⟩) (Kd.Q_far (p := ⟨gb418, 1, none⟩) (Kd.Q_far (p := ⟨gb418, 0, none⟩) (Kd.Q_types HO409.out BK418.out (by decide)) (fun _ hk => hk.2) (.int .i64 t411)) (fun _ hk => hk.2) (.int .i64 t412)) (fun _ hk => hk.2) (.int .i64 t413)) (fun _ hk => hk.2) (.slice Ao16 t414.length co16)) (fun _ h_ => h_.1))) (Kd.R_base ho0) hb); have n2_ := Aside0.mk (Kd.R_elder' (B.kr0 (B.rs4 HO416 BK418)) (Kd.R_base ho0) hb); have n3_ := Aside0.mk (Kd.R_lower (Kd.R_new' (Kd.R_new' (Kd.R_new' ho0 (Kd.Q_lt (by (with_reducible repeat (first | apply Kd.Q_alloc | apply Kd.Q_drewN | apply Kd.Q_drew)); exact (Kd.Q_mono (Kd.Q_far (p := ⟨gb418, 3, none⟩) (Kd.Q_far (p := ⟨gb418, 2, none⟩) (Kd.Q_far (p := ⟨gb418, 1, none⟩) (Kd.Q_far (p := ⟨gb418, 0, none⟩) (Kd.Q_types HO404.out BK418.out (by decide)) (fun _ hk => hk.2) (.int .i64 t411)) (fun _ hk => hk.2) (.int .i64 t412)) (fun _ hk => hk.2) (.int .i64 t413)) (fun _ hk => hk.2) (.slice Ao16 t414.length co16)) (fun _ h_ => h_.1))))) (Kd.Q_lt (by (with_reducible repeat (first | apply Kd.Q_alloc | apply Kd.Q_drewN | apply Kd.Q_drew)); exact (Kd.Q_mono (Kd.Q_far (p := ⟨gb418, 3, none⟩) (Kd.Q_far (p := ⟨gb418, 2, none⟩) (Kd.Q_far (p := ⟨gb418, 1, none⟩) (Kd.Q_far (p := ⟨gb418, 0, none⟩) (Kd.Q_types HO409.out BK418.out (by decide)) (fun _ hk => hk.2) (.int .i64 t411)) (fun _ hk => hk.2) (.int .i64 t412)) (fun _ hk => hk.2) (.int .i64 t413)) (fun _ hk => hk.2) (.slice Ao16 t414.length co16)) (fun _ h_ => h_.1))))) (Kd.R_lt (B.kr0 (B.rs4 HO416 BK418)))) (below_size (B.bl HB))); have n4_ := Aside0.mk (blk_below (B.kb0 (B.bf4 BK410 NB410_418)) hb); have n5_ := Aside0.mk (blk_below (g := gb418) (o := .cells #[.int .i64 t411, .int .i64 t412, .int .i64 t413, .slice Ao16 t414.length co16] 27 (0, 0)) (B.kb0 (B.bp4 BK418)) hb); have n6_ := Aside0.mk (below_step (B.bl HB) hb); clear HO404 HO409 HO416 BK410 BK418 HB; have HO404 := n0_; have HO409 := n1_; have HO416 := n2_; have HO424 := n3_; have BK410 := n4_; have BK418 := n5_; have HB := n6_; clear n0_ n1_ n2_ n3_ n4_ n5_ n6_; (try clear hb); (try clear hb2); (try clear hk); (try clear hi); (try clear ho0)) | ((with_reducible refine gate_dst (N := 9) rfl ?_); refine box_event ?hg (N := 9) ?hd (cs := #[.int .i64 0, .int .i64 0, .int .i64 0, .slice none 0 0]) (t := 27) ?hr ?_; (case hd => rfl); (case hg => rfl); (case hr => first | (go_simp; done) | (go_simp; rfl)); intro gb426 hg w19 hbox hb; have n0_ := Aside0.mk (Kd.Q_below (B.kq HO404) hb); have n1_ := Aside0.mk (Kd.Q_below (B.kq HO409) hb); have n2_ := Aside0.mk (Kd.R_below (B.kr HO416) hb); have n3_ := Aside0.mk (Kd.R_below (B.kr HO424) hb); have n4_ := Aside0.mk (blk_below (B.kb BK410) hb); have n5_ := Aside0.mk (blk_below (B.kb BK418) hb); have n6_ := Aside0.mk (below_step (B.bl HB) hb); have n7_ := Aside0.mk (hbox); have n8_ := Aside0.mk (B.nle hg (below_size (B.bl HB))); have n9_ := Aside0.mk (B.nle hg (below_size (B.bl HB))); have n10_ := Aside0.mk (B.nlt hg (blk_lt (B.kb BK410))); have n11_ := Aside0.mk (B.ngt hg (blk_lt (B.kb BK410))); have n12_ := Aside0.mk (B.nlt hg (blk_lt (B.kb BK418))); have n13_ := Aside0.mk (B.ngt hg (blk_lt (B.kb BK418))); clear HO404 HO409 HO416 HO424 BK410 BK418 HB; have HO404 := n0_; have HO409 := n1_; have HO416 := n2_; have HO424 := n3_; have BK410 := n4_; have BK418 := n5_; have HB := n6_; have BK426 := n7_; have GW426 := n8_; have GE426 := n9_; have NB410_426 := n10_; have NB426_410 := n11_; have NB418_426 := n12_; have NB426_418 := n13_; clear n0_ n1_ n2_ n3_ n4_ n5_ n6_ n7_ n8_ n9_ n10_ n11_ n12_ n13_; clear hb hbox hg; have hnb20 := NB426_410.out; have hnc20 := NB410_426.out; have hnb21 := NB426_418.out; have hnc21 := NB418_426.out; have hcz22_0 : w19.cell? ⟨gb426, 0, none⟩ = some (.int .i64 0) := B.bc BK426 0; have hcz22_1 : w19.cell? ⟨gb426, 1, none⟩ = some (.int .i64 0) := B.bc BK426 1; have hcz22_2 : w19.cell? ⟨gb426, 2, none⟩ = some (.int .i64 0) := B.bc BK426 2; have hcz22_3 : w19.cell? ⟨gb426, 3, none⟩ = some (.slice none 0 0) := B.bc BK426 3; have hfz22_0 := blk_frozen BK426.out 0; have hfz22_1 := blk_frozen BK426.out 1; have hfz22_2 := blk_frozen BK426.out 2; have hfz22_3 := blk_frozen BK426.out 3; obtain ⟨Ao23, co23, eo23⟩ := Kd.R_slice HO424.out; subst eo23))
  (try simp only [Act.put, List.setIfInBounds_toArray, List.set_cons_zero, List.set_cons_succ])
  go_cut [51] (fun v51 wc => ∃ (kq : Nat) (x51_5 : Bool), v51 = .bool x51_5 ∧ Aside0 (laws_FnSetPixel.j0 kq t405 t406 t407 t417 t425 x51_5 t399 t400 t401 t402 t411 t412 t413 t414 t419 t420 t421 t422 = some r) ∧ Aside0 (kq ≤ k) ∧ Aside0 (Kd.Q (Kd.int .i64) 3 wc w.heap.size (fun k_ => some k_ ≠ ((.slice Ao10 t402.length co10) : Value).ownBlock ∧ some k_ ≠ ((.slice Ao16 t414.length co16) : Value).ownBlock ∧ some k_ ≠ ((.slice Ao23 t422.length co23) : Value).ownBlock) (.slice Ao11 t407.length co11) t407) ∧ Aside0 (Kd.Q (Kd.int .i64) 3 wc w.heap.size (fun k_ => some k_ ≠ ((.slice Ao11 t407.length co11) : Value).ownBlock ∧ some k_ ≠ ((.slice Ao16 t414.length co16) : Value).ownBlock ∧ some k_ ≠ ((.slice Ao23 t422.length co23) : Value).ownBlock) (.slice Ao10 t402.length co10) t402) ∧ Aside0 (Kd.Q (Kd.int .i64) 3 wc w.heap.size (fun k_ => some k_ ≠ ((.slice Ao11 t407.length co11) : Value).ownBlock ∧ some k_ ≠ ((.slice Ao10 t402.length co10) : Value).ownBlock ∧ some k_ ≠ ((.slice Ao23 t422.length co23) : Value).ownBlock) (.slice Ao16 t414.length co16) t414) ∧ Aside0 (Kd.Q (Kd.int .i64) 3 wc w.heap.size (fun k_ => some k_ ≠ ((.slice Ao11 t407.length co11) : Value).ownBlock ∧ some k_ ≠ ((.slice Ao10 t402.length co10) : Value).ownBlock ∧ some k_ ≠ ((.slice Ao16 t414.length co16) : Value).ownBlock) (.slice Ao23 t422.length co23) t422) ∧ Aside0 (wc.heap[gb410]? = some (.cells #[.int .i64 t399, .int .i64 t400, .int .i64 t401, (.slice Ao10 t402.length co10)] 27 (0, 0))) ∧ Aside0 (wc.heap[gb418]? = some (.cells #[.int .i64 t411, .int .i64 t412, .int .i64 t413, (.slice Ao16 t414.length co16)] 27 (0, 0))) ∧ Aside0 (wc.heap[gb426]? = some (.cells #[.int .i64 t419, .int .i64 t420, .int .i64 t421, (.slice Ao23 t422.length co23)] 27 (0, 0))) ∧ Aside0 (Below w.heap.size w wc))
  case first =>
    have H := HC6.out
    clear HC6
    replace H := Option.bind_eq_some_iff.mp H
    obtain ⟨t427, A240, H⟩ := H
    replace H : (if t427 = true then (if (t417 != t425) = true then (laws_FnSetPixel.j0 k t405 t406 t407 t417 t425 true t399 t400 t401 t402 t411 t412 t413 t414 t419 t420 t421 t422) else (laws_FnSetPixel.j0 k t405 t406 t407 t417 t425 (!t417) t399 t400 t401 t402 t411 t412 t413 t414 t419 t420 t421 t422)) else (laws_FnSetPixel.j0 k t405 t406 t407 t417 t425 true t399 t400 t401 t402 t411 t412 t413 t414 t419 t420 t421 t422)) = some r := H
    have A24 := Aside0.mk A240
    clear A240
    by_cases c25 : t427 = true
    · subst c25
      have H1 : (if (t417 != t425) = true then (laws_FnSetPixel.j0 k t405 t406 t407 t417 t425 true t399 t400 t401 t402 t411 t412 t413 t414 t419 t420 t421 t422) else (laws_FnSetPixel.j0 k t405 t406 t407 t417 t425 (!t417) t399 t400 t401 t402 t411 t412 t413 t414 t419 t420 t421 t422)) = some r := by rw [if_pos rfl] at H; exact H
      clear H
      have H := H1
      clear H1
      by_cases c26 : (t417 != t425) = true
      · rw [if_pos c26] at H
        have c26b0 : (t417 != t425) = true := c26
        (try (have c26b1 : decide (t417 = t425) = false := by simpa using c26))
        (try (have c26b2 : (t417 == t425) = false := by simpa using c26))
        (try (have c26b3 : ¬ (t417 = t425) := by simpa using c26))
        clear c26
        (first | rw [c26b0] | (simp only [i64_w, i32_w]; rw [c26b0]) | skip)
        have H' := Aside0.mk H
        clear H
        have hnb27 := NB418_410.out
        have hnc27 := NB410_418.out
        have hnb28 := NB418_426.out
        have hnc28 := NB426_418.out
        have hcz29_0 : w19.cell? ⟨gb418, 0, none⟩ = some (.int .i64 t411) := B.bc BK418 0
        have hcz29_1 : w19.cell? ⟨gb418, 1, none⟩ = some (.int .i64 t412) := B.bc BK418 1
        have hcz29_2 : w19.cell? ⟨gb418, 2, none⟩ = some (.int .i64 t413) := B.bc BK418 2
        have hcz29_3 : w19.cell? ⟨gb418, 3, none⟩ = some (.slice Ao16 t414.length co16) := B.bc BK418 3
        have hfz29_0 := blk_frozen BK418.out 0
        have hfz29_1 := blk_frozen BK418.out 1
        have hfz29_2 := blk_frozen BK418.out 2
        have hfz29_3 := blk_frozen BK418.out 3
        have hnb30 := NB426_410.out
        have hnc30 := NB410_426.out
        have hcz31_0 : w19.cell? ⟨gb426, 0, none⟩ = some (.int .i64 0) := B.bc BK426 0
        have hcz31_1 : w19.cell? ⟨gb426, 1, none⟩ = some (.int .i64 0) := B.bc BK426 1
        have hcz31_2 : w19.cell? ⟨gb426, 2, none⟩ = some (.int .i64 0) := B.bc BK426 2
        have hcz31_3 : w19.cell? ⟨gb426, 3, none⟩ = some (.slice none 0 0) := B.bc BK426 3
        have hfz31_0 := blk_frozen BK426.out 0
        have hfz31_1 := blk_frozen BK426.out 1
        have hfz31_2 := blk_frozen BK426.out 2
        have hfz31_3 := blk_frozen BK426.out 3
        go_wp2_with (first | ((with_reducible refine gate_callee (f := 30) rfl ?_); refine goesL_ (some 41) rfl rfl Try.func30 (by kernel_rfl) rfl #[.agg #[.int .i64 t411, .int .i64 t412, .int .i64 t413, .slice Ao16 t414.length co16], .agg #[.int .i64 t419, .int .i64 t420, .int .i64 t421, .slice Ao23 t422.length co23]] rfl B.am ?_; (with_reducible refine (laws_equalImage.calls k t411 t412 t413 _ _ t414 t419 t420 t421 _ _ t422 true _ ?side1 ?side2 ?side3 ?side4 A24.out).mono ?_); (case side1 => refine (Kd.R_reads' (e := 3) (base := w.heap.size) (ok := fun k_ => (((True ∧ some k_ ≠ (.slice Ao10 t402.length co10 : Value).ownBlock) ∧ some k_ ≠ (.slice Ao11 t407.length co11 : Value).ownBlock) ∧ some k_ ≠ (.slice Ao23 t422.length co23 : Value).ownBlock)) (n := t414.length) (c := co16) ?_).2.2; exact (B.kr0 (B.rs4 HO416 BK426))); (case side2 => exact (Kd.R_reads' HO416.out).2.1); (case side3 => refine (Kd.R_reads' (e := 3) (base := w.heap.size) (ok := fun k_ => (((True ∧ some k_ ≠ (.slice Ao10 t402.length co10 : Value).ownBlock) ∧ some k_ ≠ (.slice Ao11 t407.length co11 : Value).ownBlock) ∧ some k_ ≠ (.slice Ao16 t414.length co16 : Value).ownBlock)) (n := t422.length) (c := co23) ?_).2.2; exact (B.kr0 (B.rs4 HO424 BK426))); (case side4 => exact (Kd.R_reads' HO424.out).2.1); rintro e w32 ⟨rfl, hb⟩; refine ⟨_, rfl, ?_⟩; have n0_ := Aside0.mk (Kd.Q_below (by (with_reducible repeat (first | apply Kd.Q_alloc | apply Kd.Q_drewN | apply Kd.Q_drew)); exact (Kd.Q_mono (Kd.Q_far (p := ⟨gb426, 3, none⟩) (Kd.Q_far (p := ⟨gb426, 2, none⟩) (Kd.Q_far (p := ⟨gb426, 1, none⟩) (Kd.Q_far (p := ⟨gb426, 0, none⟩) (Kd.Q_types HO404.out BK426.out (by decide)) (fun _ hk => hk.2) (.int .i64 t419)) (fun _ hk => hk.2) (.int .i64 t420)) (fun _ hk => hk.2) (.int .i64 t421)) (fun _ hk => hk.2) (.slice Ao23 t422.length co23)) (fun _ h_ => h_.1))) hb); have n1_ := Aside0.mk (Kd.Q_below (by (with_reducible repeat (first | apply Kd.Q_alloc | apply Kd.Q_drewN | apply Kd.Q_drew)); exact (Kd.Q_mono (Kd.Q_far (p := ⟨gb426, 3, none⟩) (Kd.Q_far (p := ⟨gb426, 2, none⟩) (Kd.Q_far (p := ⟨gb426, 1, none⟩) (Kd.Q_far (p := ⟨gb426, 0, none⟩) (Kd.Q_types HO409.out BK426.out (by decide)) (fun _ hk => hk.2) (.int .i64 t419)) (fun _ hk => hk.2) (.int .i64 t420)) (fun _ hk => hk.2) (.int .i64 t421)) (fun _ hk => hk.2) (.slice Ao23 t422.length co23)) (fun _ h_ => h_.1))) hb); have n2_ := Aside0.mk (Kd.R_below (B.kr0 (B.rs4 HO416 BK426)) hb); have n3_ := Aside0.mk (Kd.R_below (B.kr0 (B.rs4 HO424 BK426)) hb); have n4_ := Aside0.mk (blk_below (B.kb0 (B.bf4 BK410 NB410_426)) hb); have n5_ := Aside0.mk (blk_below (B.kb0 (B.bf4 BK418 NB418_426)) hb); have n6_ := Aside0.mk (blk_below (g := gb426) (o := .cells #[.int .i64 t419, .int .i64 t420, .int .i64 t421, .slice Ao23 t422.length co23] 27 (0, 0)) (B.kb0 (B.bp4 BK426)) hb); have n7_ := Aside0.mk (below_step (B.bl HB) hb); clear HO404 HO409 HO416 HO424 BK410 BK418 BK426 HB; have HO404 := n0_; have HO409 := n1_; have HO416 := n2_; have HO424 := n3_; have BK410 := n4_; have BK418 := n5_; have BK426 := n6_; have HB := n7_; clear n0_ n1_ n2_ n3_ n4_ n5_ n6_ n7_; (try clear hb); (try clear hb2); (try clear hk); (try clear hi)))
        go_meet
        case rel => exact ⟨_, (true), (by first | rfl | (simp; done) | (simp [*]; done)), H', ⟨by first | omega | exact Nat.le_refl _⟩, ⟨by (with_reducible repeat (first | apply Kd.Q_alloc | apply Kd.Q_drewN | apply Kd.Q_drew)); exact Kd.Q_mono HO409.out (fun _ hk => ⟨hk.1.1, ⟨hk.1.2, hk.2⟩⟩)⟩, ⟨by (with_reducible repeat (first | apply Kd.Q_alloc | apply Kd.Q_drewN | apply Kd.Q_drew)); exact Kd.Q_mono HO404.out (fun _ hk => ⟨hk.1.1, ⟨hk.1.2, hk.2⟩⟩)⟩, ⟨Kd.Q_of_R (B.kr0 (Kd.R_mono HO416.out (fun _ hk => ⟨hk.1.2, ⟨hk.1.1.2, hk.2⟩⟩)))⟩, ⟨Kd.Q_of_R (B.kr0 (Kd.R_mono HO424.out (fun _ hk => ⟨hk.1.2, ⟨hk.1.1.2, hk.2⟩⟩)))⟩, ⟨B.kb BK410⟩, ⟨B.kb BK418⟩, ⟨B.kb BK426⟩, ⟨B.bl HB⟩⟩
      rw [if_neg c26] at H
      have c26b0 : (t417 != t425) = false := by simpa using c26
      (try (have c26b1 : decide (t417 = t425) = true := by simpa using c26))
      (try (have c26b2 : (t417 == t425) = true := by simpa using c26))
      clear c26
      (first | rw [c26b0] | (simp only [i64_w, i32_w]; rw [c26b0]) | skip)
      have H' := Aside0.mk H
      clear H
      have hnb33 := NB418_410.out
      have hnc33 := NB410_418.out
      have hnb34 := NB418_426.out
      have hnc34 := NB426_418.out
      have hcz35_0 : w19.cell? ⟨gb418, 0, none⟩ = some (.int .i64 t411) := B.bc BK418 0
      have hcz35_1 : w19.cell? ⟨gb418, 1, none⟩ = some (.int .i64 t412) := B.bc BK418 1
      have hcz35_2 : w19.cell? ⟨gb418, 2, none⟩ = some (.int .i64 t413) := B.bc BK418 2
      have hcz35_3 : w19.cell? ⟨gb418, 3, none⟩ = some (.slice Ao16 t414.length co16) := B.bc BK418 3
      have hfz35_0 := blk_frozen BK418.out 0
      have hfz35_1 := blk_frozen BK418.out 1
      have hfz35_2 := blk_frozen BK418.out 2
      have hfz35_3 := blk_frozen BK418.out 3
      have hnb36 := NB426_410.out
      have hnc36 := NB410_426.out
      have hcz37_0 : w19.cell? ⟨gb426, 0, none⟩ = some (.int .i64 0) := B.bc BK426 0
      have hcz37_1 : w19.cell? ⟨gb426, 1, none⟩ = some (.int .i64 0) := B.bc BK426 1
      have hcz37_2 : w19.cell? ⟨gb426, 2, none⟩ = some (.int .i64 0) := B.bc BK426 2
      have hcz37_3 : w19.cell? ⟨gb426, 3, none⟩ = some (.slice none 0 0) := B.bc BK426 3
      have hfz37_0 := blk_frozen BK426.out 0
      have hfz37_1 := blk_frozen BK426.out 1
      have hfz37_2 := blk_frozen BK426.out 2
      have hfz37_3 := blk_frozen BK426.out 3
      go_wp2_with (first | ((with_reducible refine gate_callee (f := 30) rfl ?_); refine goesL_ (some 41) rfl rfl Try.func30 (by kernel_rfl) rfl #[.agg #[.int .i64 t411, .int .i64 t412, .int .i64 t413, .slice Ao16 t414.length co16], .agg #[.int .i64 t419, .int .i64 t420, .int .i64 t421, .slice Ao23 t422.length co23]] rfl B.am ?_; (with_reducible refine (laws_equalImage.calls k t411 t412 t413 _ _ t414 t419 t420 t421 _ _ t422 true _ ?side1 ?side2 ?side3 ?side4 A24.out).mono ?_); (case side1 => refine (Kd.R_reads' (e := 3) (base := w.heap.size) (ok := fun k_ => (((True ∧ some k_ ≠ (.slice Ao10 t402.length co10 : Value).ownBlock) ∧ some k_ ≠ (.slice Ao11 t407.length co11 : Value).ownBlock) ∧ some k_ ≠ (.slice Ao23 t422.length co23 : Value).ownBlock)) (n := t414.length) (c := co16) ?_).2.2; exact (B.kr0 (B.rs4 HO416 BK426))); (case side2 => exact (Kd.R_reads' HO416.out).2.1); (case side3 => refine (Kd.R_reads' (e := 3) (base := w.heap.size) (ok := fun k_ => (((True ∧ some k_ ≠ (.slice Ao10 t402.length co10 : Value).ownBlock) ∧ some k_ ≠ (.slice Ao11 t407.length co11 : Value).ownBlock) ∧ some k_ ≠ (.slice Ao16 t414.length co16 : Value).ownBlock)) (n := t422.length) (c := co23) ?_).2.2; exact (B.kr0 (B.rs4 HO424 BK426))); (case side4 => exact (Kd.R_reads' HO424.out).2.1); rintro e w38 ⟨rfl, hb⟩; refine ⟨_, rfl, ?_⟩; have n0_ := Aside0.mk (Kd.Q_below (by (with_reducible repeat (first | apply Kd.Q_alloc | apply Kd.Q_drewN | apply Kd.Q_drew)); exact (Kd.Q_mono (Kd.Q_far (p := ⟨gb426, 3, none⟩) (Kd.Q_far (p := ⟨gb426, 2, none⟩) (Kd.Q_far (p := ⟨gb426, 1, none⟩) (Kd.Q_far (p := ⟨gb426, 0, none⟩) (Kd.Q_types HO404.out BK426.out (by decide)) (fun _ hk => hk.2) (.int .i64 t419)) (fun _ hk => hk.2) (.int .i64 t420)) (fun _ hk => hk.2) (.int .i64 t421)) (fun _ hk => hk.2) (.slice Ao23 t422.length co23)) (fun _ h_ => h_.1))) hb); have n1_ := Aside0.mk (Kd.Q_below (by (with_reducible repeat (first | apply Kd.Q_alloc | apply Kd.Q_drewN | apply Kd.Q_drew)); exact (Kd.Q_mono (Kd.Q_far (p := ⟨gb426, 3, none⟩) (Kd.Q_far (p := ⟨gb426, 2, none⟩) (Kd.Q_far (p := ⟨gb426, 1, none⟩) (Kd.Q_far (p := ⟨gb426, 0, none⟩) (Kd.Q_types HO409.out BK426.out (by decide)) (fun _ hk => hk.2) (.int .i64 t419)) (fun _ hk => hk.2) (.int .i64 t420)) (fun _ hk => hk.2) (.int .i64 t421)) (fun _ hk => hk.2) (.slice Ao23 t422.length co23)) (fun _ h_ => h_.1))) hb); have n2_ := Aside0.mk (Kd.R_below (B.kr0 (B.rs4 HO416 BK426)) hb); have n3_ := Aside0.mk (Kd.R_below (B.kr0 (B.rs4 HO424 BK426)) hb); have n4_ := Aside0.mk (blk_below (B.kb0 (B.bf4 BK410 NB410_426)) hb); have n5_ := Aside0.mk (blk_below (B.kb0 (B.bf4 BK418 NB418_426)) hb); have n6_ := Aside0.mk (blk_below (g := gb426) (o := .cells #[.int .i64 t419, .int .i64 t420, .int .i64 t421, .slice Ao23 t422.length co23] 27 (0, 0)) (B.kb0 (B.bp4 BK426)) hb); have n7_ := Aside0.mk (below_step (B.bl HB) hb); clear HO404 HO409 HO416 HO424 BK410 BK418 BK426 HB; have HO404 := n0_; have HO409 := n1_; have HO416 := n2_; have HO424 := n3_; have BK410 := n4_; have BK418 := n5_; have BK426 := n6_; have HB := n7_; clear n0_ n1_ n2_ n3_ n4_ n5_ n6_ n7_; (try clear hb); (try clear hb2); (try clear hk); (try clear hi)))
      go_meet
      case rel => exact ⟨_, (!t417), (by first | rfl | (simp; done) | (simp [*]; done)), H', ⟨by first | omega | exact Nat.le_refl _⟩, ⟨by (with_reducible repeat (first | apply Kd.Q_alloc | apply Kd.Q_drewN | apply Kd.Q_drew)); exact Kd.Q_mono HO409.out (fun _ hk => ⟨hk.1.1, ⟨hk.1.2, hk.2⟩⟩)⟩, ⟨by (with_reducible repeat (first | apply Kd.Q_alloc | apply Kd.Q_drewN | apply Kd.Q_drew)); exact Kd.Q_mono HO404.out (fun _ hk => ⟨hk.1.1, ⟨hk.1.2, hk.2⟩⟩)⟩, ⟨Kd.Q_of_R (B.kr0 (Kd.R_mono HO416.out (fun _ hk => ⟨hk.1.2, ⟨hk.1.1.2, hk.2⟩⟩)))⟩, ⟨Kd.Q_of_R (B.kr0 (Kd.R_mono HO424.out (fun _ hk => ⟨hk.1.2, ⟨hk.1.1.2, hk.2⟩⟩)))⟩, ⟨B.kb BK410⟩, ⟨B.kb BK418⟩, ⟨B.kb BK426⟩, ⟨B.bl HB⟩⟩
    replace c25 := Bool.eq_false_iff.mpr c25
    subst c25
    have H1 : (laws_FnSetPixel.j0 k t405 t406 t407 t417 t425 true t399 t400 t401 t402 t411 t412 t413 t414 t419 t420 t421 t422) = some r := by rw [if_neg (show ¬ (false = true) by decide)] at H; exact H
    clear H
    have H := H1
    clear H1
    have H' := Aside0.mk H
    clear H
    have hnb39 := NB418_410.out
    have hnc39 := NB410_418.out
    have hnb40 := NB418_426.out
    have hnc40 := NB426_418.out
    have hcz41_0 : w19.cell? ⟨gb418, 0, none⟩ = some (.int .i64 t411) := B.bc BK418 0
    have hcz41_1 : w19.cell? ⟨gb418, 1, none⟩ = some (.int .i64 t412) := B.bc BK418 1
    have hcz41_2 : w19.cell? ⟨gb418, 2, none⟩ = some (.int .i64 t413) := B.bc BK418 2
    have hcz41_3 : w19.cell? ⟨gb418, 3, none⟩ = some (.slice Ao16 t414.length co16) := B.bc BK418 3
    have hfz41_0 := blk_frozen BK418.out 0
    have hfz41_1 := blk_frozen BK418.out 1
    have hfz41_2 := blk_frozen BK418.out 2
    have hfz41_3 := blk_frozen BK418.out 3
    have hnb42 := NB426_410.out
    have hnc42 := NB410_426.out
    have hcz43_0 : w19.cell? ⟨gb426, 0, none⟩ = some (.int .i64 0) := B.bc BK426 0
    have hcz43_1 : w19.cell? ⟨gb426, 1, none⟩ = some (.int .i64 0) := B.bc BK426 1
    have hcz43_2 : w19.cell? ⟨gb426, 2, none⟩ = some (.int .i64 0) := B.bc BK426 2
    have hcz43_3 : w19.cell? ⟨gb426, 3, none⟩ = some (.slice none 0 0) := B.bc BK426 3
    have hfz43_0 := blk_frozen BK426.out 0
    have hfz43_1 := blk_frozen BK426.out 1
    have hfz43_2 := blk_frozen BK426.out 2
    have hfz43_3 := blk_frozen BK426.out 3
    go_wp2_with (first | ((with_reducible refine gate_callee (f := 30) rfl ?_); refine goesL_ (some 41) rfl rfl Try.func30 (by kernel_rfl) rfl #[.agg #[.int .i64 t411, .int .i64 t412, .int .i64 t413, .slice Ao16 t414.length co16], .agg #[.int .i64 t419, .int .i64 t420, .int .i64 t421, .slice Ao23 t422.length co23]] rfl B.am ?_; (with_reducible refine (laws_equalImage.calls k t411 t412 t413 _ _ t414 t419 t420 t421 _ _ t422 false _ ?side1 ?side2 ?side3 ?side4 A24.out).mono ?_); (case side1 => refine (Kd.R_reads' (e := 3) (base := w.heap.size) (ok := fun k_ => (((True ∧ some k_ ≠ (.slice Ao10 t402.length co10 : Value).ownBlock) ∧ some k_ ≠ (.slice Ao11 t407.length co11 : Value).ownBlock) ∧ some k_ ≠ (.slice Ao23 t422.length co23 : Value).ownBlock)) (n := t414.length) (c := co16) ?_).2.2; exact (B.kr0 (B.rs4 HO416 BK426))); (case side2 => exact (Kd.R_reads' HO416.out).2.1); (case side3 => refine (Kd.R_reads' (e := 3) (base := w.heap.size) (ok := fun k_ => (((True ∧ some k_ ≠ (.slice Ao10 t402.length co10 : Value).ownBlock) ∧ some k_ ≠ (.slice Ao11 t407.length co11 : Value).ownBlock) ∧ some k_ ≠ (.slice Ao16 t414.length co16 : Value).ownBlock)) (n := t422.length) (c := co23) ?_).2.2; exact (B.kr0 (B.rs4 HO424 BK426))); (case side4 => exact (Kd.R_reads' HO424.out).2.1); rintro e w44 ⟨rfl, hb⟩; refine ⟨_, rfl, ?_⟩; have n0_ := Aside0.mk (Kd.Q_below (by (with_reducible repeat (first | apply Kd.Q_alloc | apply Kd.Q_drewN | apply Kd.Q_drew)); exact (Kd.Q_mono (Kd.Q_far (p := ⟨gb426, 3, none⟩) (Kd.Q_far (p := ⟨gb426, 2, none⟩) (Kd.Q_far (p := ⟨gb426, 1, none⟩) (Kd.Q_far (p := ⟨gb426, 0, none⟩) (Kd.Q_types HO404.out BK426.out (by decide)) (fun _ hk => hk.2) (.int .i64 t419)) (fun _ hk => hk.2) (.int .i64 t420)) (fun _ hk => hk.2) (.int .i64 t421)) (fun _ hk => hk.2) (.slice Ao23 t422.length co23)) (fun _ h_ => h_.1))) hb); have n1_ := Aside0.mk (Kd.Q_below (by (with_reducible repeat (first | apply Kd.Q_alloc | apply Kd.Q_drewN | apply Kd.Q_drew)); exact (Kd.Q_mono (Kd.Q_far (p := ⟨gb426, 3, none⟩) (Kd.Q_far (p := ⟨gb426, 2, none⟩) (Kd.Q_far (p := ⟨gb426, 1, none⟩) (Kd.Q_far (p := ⟨gb426, 0, none⟩) (Kd.Q_types HO409.out BK426.out (by decide)) (fun _ hk => hk.2) (.int .i64 t419)) (fun _ hk => hk.2) (.int .i64 t420)) (fun _ hk => hk.2) (.int .i64 t421)) (fun _ hk => hk.2) (.slice Ao23 t422.length co23)) (fun _ h_ => h_.1))) hb); have n2_ := Aside0.mk (Kd.R_below (B.kr0 (B.rs4 HO416 BK426)) hb); have n3_ := Aside0.mk (Kd.R_below (B.kr0 (B.rs4 HO424 BK426)) hb); have n4_ := Aside0.mk (blk_below (B.kb0 (B.bf4 BK410 NB410_426)) hb); have n5_ := Aside0.mk (blk_below (B.kb0 (B.bf4 BK418 NB418_426)) hb); have n6_ := Aside0.mk (blk_below (g := gb426) (o := .cells #[.int .i64 t419, .int .i64 t420, .int .i64 t421, .slice Ao23 t422.length co23] 27 (0, 0)) (B.kb0 (B.bp4 BK426)) hb); have n7_ := Aside0.mk (below_step (B.bl HB) hb); clear HO404 HO409 HO416 HO424 BK410 BK418 BK426 HB; have HO404 := n0_; have HO409 := n1_; have HO416 := n2_; have HO424 := n3_; have BK410 := n4_; have BK418 := n5_; have BK426 := n6_; have HB := n7_; clear n0_ n1_ n2_ n3_ n4_ n5_ n6_ n7_; (try clear hb); (try clear hb2); (try clear hk); (try clear hi)))
    go_meet
    case rel => exact ⟨_, (true), (by first | rfl | (simp; done) | (simp [*]; done)), H', ⟨by first | omega | exact Nat.le_refl _⟩, ⟨by (with_reducible repeat (first | apply Kd.Q_alloc | apply Kd.Q_drewN | apply Kd.Q_drew)); exact Kd.Q_mono HO409.out (fun _ hk => ⟨hk.1.1, ⟨hk.1.2, hk.2⟩⟩)⟩, ⟨by (with_reducible repeat (first | apply Kd.Q_alloc | apply Kd.Q_drewN | apply Kd.Q_drew)); exact Kd.Q_mono HO404.out (fun _ hk => ⟨hk.1.1, ⟨hk.1.2, hk.2⟩⟩)⟩, ⟨Kd.Q_of_R (B.kr0 (Kd.R_mono HO416.out (fun _ hk => ⟨hk.1.2, ⟨hk.1.1.2, hk.2⟩⟩)))⟩, ⟨Kd.Q_of_R (B.kr0 (Kd.R_mono HO424.out (fun _ hk => ⟨hk.1.2, ⟨hk.1.1.2, hk.2⟩⟩)))⟩, ⟨B.kb BK410⟩, ⟨B.kb BK418⟩, ⟨B.kb BK426⟩, ⟨B.bl HB⟩⟩
  case rest =>
    clear HC6
    try clear c1
    try clear c2
    try clear c2b0
    try clear c2b1
    try clear p2
    try clear c3
    try clear c4
    try clear c10
    try clear c14
    try clear c20
    try clear c21
    try clear c25
    try clear c26
    try clear c26b0
    try clear c26b1
    try clear c26b2
    try clear c27
    try clear c28
    try clear c30
    try clear c32
    try clear c33
    try clear c34
    try clear c36
    try clear c39
    try clear c40
    try clear c42
    try clear hcz15_0
    try clear hcz15_1
    try clear hcz15_2
    try clear hcz15_3
    try clear hcz17_0
    try clear hcz17_1
    try clear hcz17_2
    try clear hcz17_3
    try clear hcz22_0
    try clear hcz22_1
    try clear hcz22_2
    try clear hcz22_3
    try clear hcz29_0
    try clear hcz29_1
    try clear hcz29_2
    try clear hcz29_3
    try clear hcz31_0
    try clear hcz31_1
    try clear hcz31_2
    try clear hcz31_3
    try clear hcz35_0
    try clear hcz35_1
    try clear hcz35_2
    try clear hcz35_3
    try clear hcz37_0
    try clear hcz37_1
    try clear hcz37_2
    try clear hcz37_3
    try clear hcz41_0
    try clear hcz41_1
    try clear hcz41_2
    try clear hcz41_3
    try clear hcz43_0
    try clear hcz43_1
    try clear hcz43_2
    try clear hcz43_3
    try clear hcz9_0
    try clear hcz9_1
    try clear hcz9_2
    try clear hcz9_3
    try clear hfz15_0
    try clear hfz15_1
    try clear hfz15_2
    try clear hfz15_3
    try clear hfz17_0
    try clear hfz17_1
    try clear hfz17_2
    try clear hfz17_3
    try clear hfz22_0
    try clear hfz22_1
    try clear hfz22_2
    try clear hfz22_3
    try clear hfz29_0
    try clear hfz29_1
    try clear hfz29_2
    try clear hfz29_3
    try clear hfz31_0
    try clear hfz31_1
    try clear hfz31_2
    try clear hfz31_3
    try clear hfz35_0
    try clear hfz35_1
    try clear hfz35_2
    try clear hfz35_3
    try clear hfz37_0
    try clear hfz37_1
    try clear hfz37_2
    try clear hfz37_3
    try clear hfz41_0
    try clear hfz41_1
    try clear hfz41_2
    try clear hfz41_3
    try clear hfz43_0
    try clear hfz43_1
    try clear hfz43_2
    try clear hfz43_3
    try clear hfz9_0
    try clear hfz9_1
    try clear hfz9_2
    try clear hfz9_3
    obtain ⟨kq, x51_5, rfl, HA, HJ5, HO_6, HO_411003, HO_419003, HO_427003, BK410, BK418, BK426, HB⟩ := hcut
    cases kq with
    | zero => exact absurd HA.out (by simp [laws_FnSetPixel.j0])
    | succ kj5 =>
      have H := HA.out
      clear HA
      simp only [laws_FnSetPixel.j0] at H
      by_cases c45 : x51_5 = true
      · subst c45
        have H1 : ((laws_equalImage.f kj5 t411 t412 t413 t414 t419 t420 t421 t422).bind fun t428 => (if t428 = true then (some (t417 == t425)) else (some false))) = some r := by rw [if_pos rfl] at H; exact H
        clear H
        have H := H1
        clear H1
        replace H := Option.bind_eq_some_iff.mp H
        obtain ⟨t428, A460, H⟩ := H
        replace H : (if t428 = true then (some (t417 == t425)) else (some false)) = some r := H
        have A46 := Aside0.mk A460
        clear A460
        by_cases c47 : t428 = true
        · subst c47
          have H1 : (some (t417 == t425)) = some r := by rw [if_pos rfl] at H; exact H
          clear H
          have H := H1
          clear H1
          obtain rfl := Option.some.inj H
          simp only [Option.some.injEq, Prod.mk.injEq] at H
          obtain ⟨rfl⟩ := H
          have hnb48 := NB418_410.out
          have hnc48 := NB410_418.out
          have hnb49 := NB418_426.out
          have hnc49 := NB426_418.out
          have hcz50_0 : wc.cell? ⟨gb418, 0, none⟩ = some (.int .i64 t411) := B.bc BK418 0
          have hcz50_1 : wc.cell? ⟨gb418, 1, none⟩ = some (.int .i64 t412) := B.bc BK418 1
          have hcz50_2 : wc.cell? ⟨gb418, 2, none⟩ = some (.int .i64 t413) := B.bc BK418 2
          have hcz50_3 : wc.cell? ⟨gb418, 3, none⟩ = some (.slice Ao16 t414.length co16) := B.bc BK418 3
          have hfz50_0 := blk_frozen BK418.out 0
          have hfz50_1 := blk_frozen BK418.out 1
          have hfz50_2 := blk_frozen BK418.out 2
          have hfz50_3 := blk_frozen BK418.out 3
          have hnb51 := NB426_410.out
          have hnc51 := NB410_426.out
          have hcz52_0 : wc.cell? ⟨gb426, 0, none⟩ = some (.int .i64 t419) := B.bc BK426 0
          have hcz52_1 : wc.cell? ⟨gb426, 1, none⟩ = some (.int .i64 t420) := B.bc BK426 1
          have hcz52_2 : wc.cell? ⟨gb426, 2, none⟩ = some (.int .i64 t421) := B.bc BK426 2
          have hcz52_3 : wc.cell? ⟨gb426, 3, none⟩ = some (.slice Ao23 t422.length co23) := B.bc BK426 3
          have hfz52_0 := blk_frozen BK426.out 0
          have hfz52_1 := blk_frozen BK426.out 1
          have hfz52_2 := blk_frozen BK426.out 2
          have hfz52_3 := blk_frozen BK426.out 3
          go_wp2_with (first | ((with_reducible refine gate_callee (f := 30) rfl ?_); refine goesL_ (some 54) rfl rfl Try.func30 (by kernel_rfl) rfl #[.agg #[.int .i64 t411, .int .i64 t412, .int .i64 t413, .slice Ao16 t414.length co16], .agg #[.int .i64 t419, .int .i64 t420, .int .i64 t421, .slice Ao23 t422.length co23]] rfl B.am ?_; (with_reducible refine (laws_equalImage.calls kj5 t411 t412 t413 _ _ t414 t419 t420 t421 _ _ t422 true _ ?side1 ?side2 ?side3 ?side4 A46.out).mono ?_); (case side1 => exact B.kc ((Kd.Q_reads' HO_419003.out).2.2)); (case side2 => exact (Kd.Q_reads' HO_419003.out).2.1); (case side3 => exact B.kc ((Kd.Q_reads' HO_427003.out).2.2)); (case side4 => exact (Kd.Q_reads' HO_427003.out).2.1); rintro e w53 ⟨rfl, hb⟩; refine ⟨_, rfl, ?_⟩; have n0_ := Aside0.mk (Kd.Q_below (B.kq HO_6) hb); have n1_ := Aside0.mk (Kd.Q_below (B.kq HO_411003) hb); have n2_ := Aside0.mk (Kd.Q_below (B.kq HO_419003) hb); have n3_ := Aside0.mk (Kd.Q_below (B.kq HO_427003) hb); have n4_ := Aside0.mk (blk_below (B.kb BK410) hb); have n5_ := Aside0.mk (blk_below (B.kb BK418) hb); have n6_ := Aside0.mk (blk_below (B.kb BK426) hb); have n7_ := Aside0.mk (below_step (B.bl HB) hb); clear HO_6 HO_411003 HO_419003 HO_427003 BK410 BK418 BK426 HB; have HO_6 := n0_; have HO_411003 := n1_; have HO_419003 := n2_; have HO_427003 := n3_; have BK410 := n4_; have BK418 := n5_; have BK426 := n6_; have HB := n7_; clear n0_ n1_ n2_ n3_ n4_ n5_ n6_ n7_; (try clear hb); (try clear hb2); (try clear hk); (try clear hi)))
          go_ret
          exact ⟨by first | rfl | (simp [errW_none, errW_some] <;> rfl) | (simp [*, errW_none, errW_some] <;> rfl), B.bl HB⟩
        replace c47 := Bool.eq_false_iff.mpr c47
        subst c47
        have H1 : (some false) = some r := by rw [if_neg (show ¬ (false = true) by decide)] at H; exact H
        clear H
        have H := H1
        clear H1
        obtain rfl := Option.some.inj H
        exact absurd ht_.out (by decide)
      replace c45 := Bool.eq_false_iff.mpr c45
      subst c45
      have H1 : ((impl_PixelAt.f t399 t400 t401 t402 t405 t406).bind fun t429 => ((impl_SetPixel.f t411 t412 t413 t414 t405 t406 t429).bind fun bt432 => ((impl_PixelAt.f t411 t412 t413 t414 t405 t406).bind fun t440 => ((laws_equalInts.f kj5 t440 t407).bind fun t443 => (if t443 = true then (if bt432.2.2.2.2 = true then ((laws_equalImage.f kj5 bt432.1 bt432.2.1 bt432.2.2.1 bt432.2.2.2.1 t399 t400 t401 t402).bind fun t444 => (some t444)) else (some false)) else (some false)))))) = some r := by rw [if_neg (show ¬ (false = true) by decide)] at H; exact H
      clear H
      have H := H1
      clear H1
      replace H := Option.bind_eq_some_iff.mp H
      obtain ⟨t429, A540, H⟩ := H
      replace H : ((impl_SetPixel.f t411 t412 t413 t414 t405 t406 t429).bind fun bt432 => ((impl_PixelAt.f t411 t412 t413 t414 t405 t406).bind fun t440 => ((laws_equalInts.f kj5 t440 t407).bind fun t443 => (if t443 = true then (if bt432.2.2.2.2 = true then ((laws_equalImage.f kj5 bt432.1 bt432.2.1 bt432.2.2.1 bt432.2.2.2.1 t399 t400 t401 t402).bind fun t444 => (some t444)) else (some false)) else (some false))))) = some r := H
      have A54 := Aside0.mk A540
      clear A540
      replace H := Option.bind_eq_some_iff.mp H
      obtain ⟨⟨t432, t433, t434, t435, t438⟩, A550, H⟩ := H
      replace H : ((impl_PixelAt.f t411 t412 t413 t414 t405 t406).bind fun t440 => ((laws_equalInts.f kj5 t440 t407).bind fun t443 => (if t443 = true then (if t438 = true then ((laws_equalImage.f kj5 t432 t433 t434 t435 t399 t400 t401 t402).bind fun t444 => (some t444)) else (some false)) else (some false)))) = some r := H
      have A55 := Aside0.mk A550
      clear A550
      replace H := Option.bind_eq_some_iff.mp H
      obtain ⟨t440, A560, H⟩ := H
      replace H : ((laws_equalInts.f kj5 t440 t407).bind fun t443 => (if t443 = true then (if t438 = true then ((laws_equalImage.f kj5 t432 t433 t434 t435 t399 t400 t401 t402).bind fun t444 => (some t444)) else (some false)) else (some false))) = some r := H
      have A56 := Aside0.mk A560
      clear A560
      replace H := Option.bind_eq_some_iff.mp H
      obtain ⟨t443, A570, H⟩ := H
      replace H : (if t443 = true then (if t438 = true then ((laws_equalImage.f kj5 t432 t433 t434 t435 t399 t400 t401 t402).bind fun t444 => (some t444)) else (some false)) else (some false)) = some r := H
      have A57 := Aside0.mk A570
      clear A570
      by_cases c58 : t443 = true
      · subst c58
        have H1 : (if t438 = true then ((laws_equalImage.f kj5 t432 t433 t434 t435 t399 t400 t401 t402).bind fun t444 => (some t444)) else (some false)) = some r := by rw [if_pos rfl] at H; exact H
        clear H
        have H := H1
        clear H1
        by_cases c59 : t438 = true
        · subst c59
          have H1 : ((laws_equalImage.f kj5 t432 t433 t434 t435 t399 t400 t401 t402).bind fun t444 => (some t444)) = some r := by rw [if_pos rfl] at H; exact H
          clear H
          have H := H1
          clear H1
          replace H := Option.bind_eq_some_iff.mp H
          obtain ⟨t444, A600, H⟩ := H
          replace H : (some t444) = some r := H
          have A60 := Aside0.mk A600
          clear A600
          obtain rfl := Option.some.inj H
          simp only [Option.some.injEq, Prod.mk.injEq] at H
          obtain ⟨rfl⟩ := H
          try go_wp2
          have n0_ := Aside0.mk (Kd.Q_drew HO_6.out)
          have n1_ := Aside0.mk (Kd.Q_drew HO_411003.out)
          have n2_ := Aside0.mk (Kd.Q_drew HO_419003.out)
          have n3_ := Aside0.mk (Kd.Q_drew HO_427003.out)
          have n4_ := Aside0.mk (blk_drew BK410.out)
          have n5_ := Aside0.mk (blk_drew BK418.out)
          have n6_ := Aside0.mk (blk_drew BK426.out)
          have n7_ := Aside0.mk (below_drew1 HB.out)
          clear HO_6 HO_411003 HO_419003 HO_427003 BK410 BK418 BK426 HB
          have HO_6 := n0_
          have HO_411003 := n1_
          have HO_419003 := n2_
          have HO_427003 := n3_
          have BK410 := n4_
          have BK418 := n5_
          have BK426 := n6_
          have HB := n7_
          clear n0_ n1_ n2_ n3_ n4_ n5_ n6_ n7_
          refine start_ (n := 14) (S := fun w' => w'.cell? ⟨gb418, 0, none⟩ = some (.int .i64 t411) ∧ w'.cell? ⟨gb418, 1, none⟩ = some (.int .i64 t412) ∧ w'.cell? ⟨gb418, 2, none⟩ = some (.int .i64 t413) ∧ w'.cell? ⟨gb418, 3, none⟩ = some (.slice Ao16 t414.length co16) ∧ w'.cell? ⟨gb410, 0, none⟩ = some (.int .i64 t399) ∧ w'.cell? ⟨gb410, 1, none⟩ = some (.int .i64 t400) ∧ w'.cell? ⟨gb410, 2, none⟩ = some (.int .i64 t401) ∧ w'.cell? ⟨gb410, 3, none⟩ = some (.slice Ao10 t402.length co10)) (ds := []) #[false, false, false, false, false, false, false, false, false, false, false, false, false, false] (by kernel_rfl) rfl rfl ⟨B.bc BK418 0, B.bc BK418 1, B.bc BK418 2, B.bc BK418 3, B.bc BK410 0, B.bc BK410 1, B.bc BK410 2, B.bc BK410 3⟩ (fun hHeld => ?_); refine with_tabW laws_FnSetPixel.tab8 laws_FnSetPixel.bits8 (fun HT_ HW_ => ?_)
          generalize wc.drew = w61 at HO_6 HO_411003 HO_419003 HO_427003 BK410 BK418 BK426 HB hHeld ⊢
          refine pure_ (i := 1) (N := some 62) (v := ?_) (a' := ?_) #[false, true, false, false, false, false, false, false, false, false, false, false, false, false] rfl rfl (any_of HT_.out (by kernel_rfl)) (fun _ _ _ h => h) (Or.inl ⟨by rfl, ?_⟩) ?_ ?_
          rotate_left
          · intro w'
            go_simp
            with_reducible rfl
          rotate_left
          · simp only [Act.put, List.setIfInBounds_toArray, List.set_cons_zero, List.set_cons_succ, i64_w, i32_w]
            rfl
          refine pure_ (i := 2) (N := some 63) (v := ?_) (a' := ?_) #[false, true, true, false, false, false, false, false, false, false, false, false, false, false] rfl rfl (any_of HT_.out (by kernel_rfl)) (fun _ _ _ h => h) (Or.inl ⟨by rfl, ?_⟩) ?_ ?_
          rotate_left
          · intro w'
            go_simp
            with_reducible rfl
          rotate_left
          · simp only [Act.put, List.setIfInBounds_toArray, List.set_cons_zero, List.set_cons_succ, i64_w, i32_w]
            rfl
          refine pure_ (i := 4) (N := some 65) (v := ?_) (a' := ?_) #[false, true, true, false, true, false, false, false, false, false, false, false, false, false] rfl rfl (any_of HT_.out (by kernel_rfl)) (fun _ _ _ h => h) (Or.inl ⟨by rfl, ?_⟩) ?_ ?_
          rotate_left
          · intro w'
            go_simp
            with_reducible rfl
          rotate_left
          · simp only [Act.put, List.setIfInBounds_toArray, List.set_cons_zero, List.set_cons_succ, i64_w, i32_w]
            rfl
          refine pure_ (i := 5) (N := some 66) (v := ?_) (a' := ?_) #[false, true, true, false, true, true, false, false, false, false, false, false, false, false] rfl rfl (any_of HT_.out (by kernel_rfl)) (fun _ _ _ h => h) (Or.inl ⟨by rfl, ?_⟩) ?_ ?_
          rotate_left
          · intro w'
            go_simp
            with_reducible rfl
          rotate_left
          · simp only [Act.put, List.setIfInBounds_toArray, List.set_cons_zero, List.set_cons_succ, i64_w, i32_w]
            rfl
          refine take_ (i := 0) (N := some 61) (v := ?_) (a' := ?_) #[true, true, true, false, true, true, false, false, false, false, false, false, false, false] rfl rfl (take_ofW HT_.out HW_.out (by kernel_rfl)) (fun _ _ _ h => h) (Or.inl ⟨by rfl, ?_⟩) hHeld ?_ ?_
          rotate_left
          · rintro w' ⟨s0, s1, s2, s3, s4, s5, s6, s7⟩
            go_simp
            with_reducible rfl
          rotate_left
          · simp only [Act.put, List.setIfInBounds_toArray, List.set_cons_zero, List.set_cons_succ, i64_w, i32_w]
            rfl
          refine take_ (i := 3) (N := some 64) (v := ?_) (a' := ?_) #[true, true, true, true, true, true, false, false, false, false, false, false, false, false] rfl rfl (take_ofW HT_.out HW_.out (by kernel_rfl)) (fun _ _ _ h => h) (Or.inl ⟨by rfl, ?_⟩) hHeld ?_ ?_
          rotate_left
          · rintro w' ⟨s0, s1, s2, s3, s4, s5, s6, s7⟩
            go_simp
            with_reducible rfl
          rotate_left
          · simp only [Act.put, List.setIfInBounds_toArray, List.set_cons_zero, List.set_cons_succ, i64_w, i32_w]
            rfl
          refine join_ (σ := Value × Value × Nat) 2 #[true, true, true, true, true, true, true, true, true, true, true, true, false, false] (fun s_ => [(67, s_.1), (68, .tuple #[.agg #[.int .i64 t432, .int .i64 t433, .int .i64 t434, s_.2.1], .bool true]), (11, .pointer (some ⟨s_.2.2, 0, none⟩)), (60, .tuple #[.agg #[.int .i64 t432, .int .i64 t433, .int .i64 t434, s_.2.1], .bool true]), (69, .agg #[.int .i64 t432, .int .i64 t433, .int .i64 t434, s_.2.1]), (70, .bool true)]) (fun s_ w' => (w'.cell? ⟨gb418, 0, none⟩ = some (.int .i64 t411) ∧ w'.cell? ⟨gb418, 1, none⟩ = some (.int .i64 t412) ∧ w'.cell? ⟨gb418, 2, none⟩ = some (.int .i64 t413) ∧ w'.cell? ⟨gb418, 3, none⟩ = some (.slice Ao16 t414.length co16) ∧ w'.cell? ⟨gb410, 0, none⟩ = some (.int .i64 t399) ∧ w'.cell? ⟨gb410, 1, none⟩ = some (.int .i64 t400) ∧ w'.cell? ⟨gb410, 2, none⟩ = some (.int .i64 t401) ∧ w'.cell? ⟨gb410, 3, none⟩ = some (.slice Ao10 t402.length co10)) ∧ (Kd.R (Kd.int .i64) 3 w' w.heap.size (fun k_ => some k_ ≠ (s_.2.1 : Value).ownBlock ∧ some k_ ≠ (.slice Ao10 t402.length co10 : Value).ownBlock ∧ some k_ ≠ (.slice Ao16 t414.length co16 : Value).ownBlock ∧ some k_ ≠ (.slice Ao23 t422.length co23 : Value).ownBlock ∧ some k_ ≠ (.slice Ao11 t407.length co11 : Value).ownBlock) s_.1 t429) ∧ (Kd.R (Kd.int .i64) 3 w' w.heap.size (fun k_ => some k_ ≠ (s_.1 : Value).ownBlock ∧ some k_ ≠ (.slice Ao10 t402.length co10 : Value).ownBlock ∧ some k_ ≠ (.slice Ao16 t414.length co16 : Value).ownBlock ∧ some k_ ≠ (.slice Ao23 t422.length co23 : Value).ownBlock ∧ some k_ ≠ (.slice Ao11 t407.length co11 : Value).ownBlock) s_.2.1 t435) ∧ (Kd.Q (Kd.int .i64) 3 w' w.heap.size (fun k_ => some k_ ≠ (s_.1 : Value).ownBlock ∧ some k_ ≠ (s_.2.1 : Value).ownBlock ∧ some k_ ≠ (.slice Ao16 t414.length co16 : Value).ownBlock ∧ some k_ ≠ (.slice Ao23 t422.length co23 : Value).ownBlock ∧ some k_ ≠ (.slice Ao11 t407.length co11 : Value).ownBlock) (.slice Ao10 t402.length co10) t402) ∧ (Kd.Q (Kd.int .i64) 3 w' w.heap.size (fun k_ => some k_ ≠ (s_.1 : Value).ownBlock ∧ some k_ ≠ (s_.2.1 : Value).ownBlock ∧ some k_ ≠ (.slice Ao10 t402.length co10 : Value).ownBlock ∧ some k_ ≠ (.slice Ao23 t422.length co23 : Value).ownBlock ∧ some k_ ≠ (.slice Ao11 t407.length co11 : Value).ownBlock) (.slice Ao16 t414.length co16) t414) ∧ (Kd.Q (Kd.int .i64) 3 w' w.heap.size (fun k_ => some k_ ≠ (s_.1 : Value).ownBlock ∧ some k_ ≠ (s_.2.1 : Value).ownBlock ∧ some k_ ≠ (.slice Ao10 t402.length co10 : Value).ownBlock ∧ some k_ ≠ (.slice Ao16 t414.length co16 : Value).ownBlock ∧ some k_ ≠ (.slice Ao11 t407.length co11 : Value).ownBlock) (.slice Ao23 t422.length co23) t422) ∧ (Kd.Q (Kd.int .i64) 3 w' w.heap.size (fun k_ => some k_ ≠ (s_.1 : Value).ownBlock ∧ some k_ ≠ (s_.2.1 : Value).ownBlock ∧ some k_ ≠ (.slice Ao10 t402.length co10 : Value).ownBlock ∧ some k_ ≠ (.slice Ao16 t414.length co16 : Value).ownBlock ∧ some k_ ≠ (.slice Ao23 t422.length co23 : Value).ownBlock) (.slice Ao11 t407.length co11) t407) ∧ (w'.heap[gb410]? = some (.cells #[.int .i64 t399, .int .i64 t400, .int .i64 t401, .slice Ao10 t402.length co10] 27 (0, 0))) ∧ (w'.heap[gb418]? = some (.cells #[.int .i64 t411, .int .i64 t412, .int .i64 t413, .slice Ao16 t414.length co16] 27 (0, 0))) ∧ (w'.heap[gb426]? = some (.cells #[.int .i64 t419, .int .i64 t420, .int .i64 t421, .slice Ao23 t422.length co23] 27 (0, 0))) ∧ (w'.heap[s_.2.2]? = some (.cells #[.int .i64 0, .int .i64 0, .int .i64 0, .slice none 0 0] 27 (0, 0))) ∧ (w.heap.size ≤ s_.2.2) ∧ (w.heap.size ≤ s_.2.2) ∧ (gb410 ≠ s_.2.2) ∧ (s_.2.2 ≠ gb410) ∧ (gb418 ≠ s_.2.2) ∧ (s_.2.2 ≠ gb418) ∧ (gb426 ≠ s_.2.2) ∧ (s_.2.2 ≠ gb426) ∧ (Below w.heap.size w w')) ?_ ?_
          rotate_left
          · intro hCont
            refine two_ (i := 6) (j := 11) (Ni := some 67) (Nj := some 11) #[true, true, true, true, true, true, true, false, false, false, false, false, false, false] #[true, true, true, true, true, true, false, false, false, false, false, true, false, false] rfl rfl rfl rfl (two_of HT_.out (by kernel_rfl)) (by decide) (by decide) (fun K hK => ?_) (fun K hK => ?_)
            · skip
              refine goes_ Try.func24 (by kernel_rfl) rfl #[.agg #[.int .i64 t399, .int .i64 t400, .int .i64 t401, .slice Ao10 t402.length co10], .int .i64 t405, .int .i64 t406] (by rfl) rfl rfl B.am ?_
              with_reducible refine (impl_PixelAt.calls t399 t400 t401 _ _ t402 t405 t406 t429 _ ?side1 ?side2 A54.out).mono ?_
              (case side1 => exact B.kc ((Kd.Q_reads' HO_411003.out).2.2))
              (case side2 => exact (Kd.Q_reads' HO_411003.out).2.1)
              rintro e w62 ⟨v430, rfl, ho0, hb⟩
              refine ⟨_, rfl, ?_⟩
              have n0_ := Aside0.mk (Kd.Q_elder' (B.kq HO_6) (Kd.R_base ho0) hb)
              have n1_ := Aside0.mk (Kd.Q_elder' (B.kq HO_411003) (Kd.R_base ho0) hb)
              have n2_ := Aside0.mk (Kd.Q_elder' (B.kq HO_419003) (Kd.R_base ho0) hb)
              have n3_ := Aside0.mk (Kd.Q_elder' (B.kq HO_427003) (Kd.R_base ho0) hb)
              have n4_ := Aside0.mk (Kd.R_lower (Kd.R_new' (Kd.R_new' (Kd.R_new' (Kd.R_new' ho0 (Kd.Q_lt (B.kq HO_6))) (Kd.Q_lt (B.kq HO_411003))) (Kd.Q_lt (B.kq HO_419003))) (Kd.Q_lt (B.kq HO_427003))) (below_size (B.bl HB)))
              have n5_ := Aside0.mk (blk_below (B.kb BK410) hb)
              have n6_ := Aside0.mk (blk_below (B.kb BK418) hb)
              have n7_ := Aside0.mk (blk_below (B.kb BK426) hb)
              have n8_ := Aside0.mk (below_step (B.bl HB) hb)
              clear HO_6 HO_411003 HO_419003 HO_427003 BK410 BK418 BK426 HB
              have HO_6 := n0_
              have HO_411003 := n1_
              have HO_419003 := n2_
              have HO_427003 := n3_
              have HO431 := n4_
              have BK410 := n5_
              have BK418 := n6_
              have BK426 := n7_
              have HB := n8_
              clear n0_ n1_ n2_ n3_ n4_ n5_ n6_ n7_ n8_
              (try clear hb)
              (try clear hb2)
              (try clear hk)
              (try clear hi)
              (try clear ho0)
              obtain ⟨Ao63, co63, eo63⟩ := Kd.R_slice HO431.out
              (first | subst eo63 | (injection eo63 with f1_ f2_ f3_; have f4_ := f1_.symm; have f5_ := f3_.symm; clear f1_ f2_ f3_; subst f4_; subst f5_))
              refine hK.out _ _ ⟨B.bc BK418 0, B.bc BK418 1, B.bc BK418 2, B.bc BK418 3, B.bc BK410 0, B.bc BK410 1, B.bc BK410 2, B.bc BK410 3⟩ (fun hHeld => ?_)
              clear hK K
              refine norm_ (a' := ?_) ?_ ?_
              rotate_left
              · show Act.put _ (some 67) _ = _
                simp only [Act.put, List.setIfInBounds_toArray, List.set_cons_zero, List.set_cons_succ, i64_w, i32_w]
                rfl
              refine two_ (i := 7) (j := 11) (Ni := some 68) (Nj := some 11) #[true, true, true, true, true, true, true, true, false, false, false, false, false, false] #[true, true, true, true, true, true, true, false, false, false, false, true, false, false] rfl rfl rfl rfl (two_of HT_.out (by kernel_rfl)) (by decide) (by decide) (fun K hK => ?_) (fun K hK => ?_)
              · skip
                refine goes_ Try.func33 (by kernel_rfl) rfl #[.agg #[.int .i64 t411, .int .i64 t412, .int .i64 t413, .slice Ao16 t414.length co16], .int .i64 t405, .int .i64 t406, .slice Ao63 t429.length co63] (by rfl) rfl rfl B.am ?_
                with_reducible refine (impl_SetPixel.calls t411 t412 t413 _ _ t414 t405 t406 _ _ t429 t432 t433 t434 t435 true _ ?side1 ?side2 ?side3 ?side4 A55.out).mono ?_
                (case side1 => exact B.kc ((Kd.Q_reads' HO_419003.out).2.2))
                (case side2 => exact (Kd.Q_reads' HO_419003.out).2.1)
                (case side3 => exact B.kc ((Kd.R_reads' HO431.out).2.2))
                (case side4 => exact (Kd.R_reads' HO431.out).2.1)
                rintro e w64 ⟨v436, rfl, ho0, hb⟩
                refine ⟨_, rfl, ?_⟩
                have n0_ := Aside0.mk (Kd.Q_elder' (B.kq HO_6) (Kd.R_base ho0) hb)
                have n1_ := Aside0.mk (Kd.Q_elder' (B.kq HO_411003) (Kd.R_base ho0) hb)
                have n2_ := Aside0.mk (Kd.Q_elder' (B.kq HO_419003) (Kd.R_base ho0) hb)
                have n3_ := Aside0.mk (Kd.Q_elder' (B.kq HO_427003) (Kd.R_base ho0) hb)
                have n4_ := Aside0.mk (Kd.R_elder' (B.kr HO431) (Kd.R_base ho0) hb)
                have n5_ := Aside0.mk (Kd.R_lower (Kd.R_new' (Kd.R_new' (Kd.R_new' (Kd.R_new' (Kd.R_new' ho0 (Kd.Q_lt (B.kq HO_6))) (Kd.Q_lt (B.kq HO_411003))) (Kd.Q_lt (B.kq HO_419003))) (Kd.Q_lt (B.kq HO_427003))) (Kd.R_lt (B.kr HO431))) (below_size (B.bl HB)))
                have n6_ := Aside0.mk (blk_below (B.kb BK410) hb)
                have n7_ := Aside0.mk (blk_below (B.kb BK418) hb)
                have n8_ := Aside0.mk (blk_below (B.kb BK426) hb)
                have n9_ := Aside0.mk (below_step (B.bl HB) hb)
                clear HO_6 HO_411003 HO_419003 HO_427003 HO431 BK410 BK418 BK426 HB
                have HO_6 := n0_
                have HO_411003 := n1_
                have HO_419003 := n2_
                have HO_427003 := n3_
                have HO431 := n4_
                have HO437 := n5_
                have BK410 := n6_
                have BK418 := n7_
                have BK426 := n8_
                have HB := n9_
                clear n0_ n1_ n2_ n3_ n4_ n5_ n6_ n7_ n8_ n9_
                (try clear hb)
                (try clear hb2)
                (try clear hk)
                (try clear hi)
                (try clear ho0)
                refine hK.out _ _ ⟨B.bc BK418 0, B.bc BK418 1, B.bc BK418 2, B.bc BK418 3, B.bc BK410 0, B.bc BK410 1, B.bc BK410 2, B.bc BK410 3⟩ (fun hHeld => ?_)
                clear hK K
                refine norm_ (a' := ?_) ?_ ?_
                rotate_left
                · show Act.put _ (some 68) _ = _
                  simp only [Act.put, List.setIfInBounds_toArray, List.set_cons_zero, List.set_cons_succ, i64_w, i32_w]
                  rfl
                refine pure_ (i := 8) (N := some 60) (v := ?_) (a' := ?_) #[true, true, true, true, true, true, true, true, true, false, false, false, false, false] rfl rfl (any_of HT_.out (by kernel_rfl)) (fun _ _ _ h => h) (Or.inl ⟨by rfl, ?_⟩) ?_ ?_
                rotate_left
                · intro w'
                  go_simp
                  with_reducible rfl
                rotate_left
                · simp only [Act.put, List.setIfInBounds_toArray, List.set_cons_zero, List.set_cons_succ, i64_w, i32_w]
                  rfl
                refine pure_ (i := 9) (N := some 69) (v := ?_) (a' := ?_) #[true, true, true, true, true, true, true, true, true, true, false, false, false, false] rfl rfl (any_of HT_.out (by kernel_rfl)) (fun _ _ _ h => h) (Or.inl ⟨by rfl, ?_⟩) ?_ ?_
                rotate_left
                · intro w'
                  go_simp
                  with_reducible rfl
                rotate_left
                · simp only [Act.put, List.setIfInBounds_toArray, List.set_cons_zero, List.set_cons_succ, i64_w, i32_w]
                  rfl
                refine pure_ (i := 10) (N := some 70) (v := ?_) (a' := ?_) #[true, true, true, true, true, true, true, true, true, true, true, false, false, false] rfl rfl (any_of HT_.out (by kernel_rfl)) (fun _ _ _ h => h) (Or.inl ⟨by rfl, ?_⟩) ?_ ?_
                rotate_left
                · intro w'
                  go_simp
                  with_reducible rfl
                rotate_left
                · simp only [Act.put, List.setIfInBounds_toArray, List.set_cons_zero, List.set_cons_succ, i64_w, i32_w]
                  rfl
                refine one_ (i := 11) (N := some 11) #[true, true, true, true, true, true, true, true, true, true, true, true, false, false] rfl rfl (one_of HT_.out (by kernel_rfl)) (by decide) (fun K hK => ?_)
                refine box_step ?hg (N := 11) ?hd (cs := #[.int .i64 0, .int .i64 0, .int .i64 0, .slice none 0 0]) (t := 27) ?hr ?_; (case hd => rfl); (case hg => rfl); (case hr => first | (go_simp; done) | (go_simp; rfl))
                intro gb439 hg w65 hbox hb
                have n0_ := Aside0.mk (Kd.Q_below (B.kq HO_6) hb)
                have n1_ := Aside0.mk (Kd.Q_below (B.kq HO_411003) hb)
                have n2_ := Aside0.mk (Kd.Q_below (B.kq HO_419003) hb)
                have n3_ := Aside0.mk (Kd.Q_below (B.kq HO_427003) hb)
                have n4_ := Aside0.mk (Kd.R_below (B.kr HO431) hb)
                have n5_ := Aside0.mk (Kd.R_below (B.kr HO437) hb)
                have n6_ := Aside0.mk (blk_below (B.kb BK410) hb)
                have n7_ := Aside0.mk (blk_below (B.kb BK418) hb)
                have n8_ := Aside0.mk (blk_below (B.kb BK426) hb)
                have n9_ := Aside0.mk (below_step (B.bl HB) hb)
                have n10_ := Aside0.mk (hbox)
                have n11_ := Aside0.mk (B.nle hg (below_size (B.bl HB)))
                have n12_ := Aside0.mk (B.nle hg (below_size (B.bl HB)))
                have n13_ := Aside0.mk (B.nlt hg (blk_lt (B.kb BK410)))
                have n14_ := Aside0.mk (B.ngt hg (blk_lt (B.kb BK410)))
                have n15_ := Aside0.mk (B.nlt hg (blk_lt (B.kb BK418)))
                have n16_ := Aside0.mk (B.ngt hg (blk_lt (B.kb BK418)))
                have n17_ := Aside0.mk (B.nlt hg (blk_lt (B.kb BK426)))
                have n18_ := Aside0.mk (B.ngt hg (blk_lt (B.kb BK426)))
                clear HO_6 HO_411003 HO_419003 HO_427003 HO431 HO437 BK410 BK418 BK426 HB
                have HO_6 := n0_
                have HO_411003 := n1_
                have HO_419003 := n2_
                have HO_427003 := n3_
                have HO431 := n4_
                have HO437 := n5_
                have BK410 := n6_
                have BK418 := n7_
                have BK426 := n8_
                have HB := n9_
                have BK439 := n10_
                have GW439 := n11_
                have GE439 := n12_
                have NB410_439 := n13_
                have NB439_410 := n14_
                have NB418_439 := n15_
                have NB439_418 := n16_
                have NB426_439 := n17_
                have NB439_426 := n18_
                clear n0_ n1_ n2_ n3_ n4_ n5_ n6_ n7_ n8_ n9_ n10_ n11_ n12_ n13_ n14_ n15_ n16_ n17_ n18_
                clear hb hbox hg
                refine hK.out _ _ ⟨B.bc BK418 0, B.bc BK418 1, B.bc BK418 2, B.bc BK418 3, B.bc BK410 0, B.bc BK410 1, B.bc BK410 2, B.bc BK410 3⟩ (fun hHeld => ?_)
                clear hK K
                refine norm_ (a' := ?_) ?_ ?_
                rotate_left
                · show Act.put _ (some 11) _ = _
                  simp only [Act.put, List.setIfInBounds_toArray, List.set_cons_zero, List.set_cons_succ, i64_w, i32_w]
                  rfl
                exact norm_ (by simp only [putAll, Act.put, List.setIfInBounds_toArray, List.set_cons_zero, List.set_cons_succ]) (hCont (.slice Ao63 t429.length co63, v436, gb439) _ ⟨hHeld, (B.kr0 (Kd.R_mono HO431.out (fun _ hk => ⟨hk.2, ⟨hk.1.1.1.2, ⟨hk.1.1.2, ⟨hk.1.2, hk.1.1.1.1.2⟩⟩⟩⟩))), (B.kr0 (Kd.R_mono HO437.out (fun _ hk => ⟨hk.2, ⟨hk.1.1.1.2, ⟨hk.1.1.2, ⟨hk.1.2, hk.1.1.1.1.2⟩⟩⟩⟩))), (by (with_reducible repeat (first | apply Kd.Q_alloc | apply Kd.Q_drewN | apply Kd.Q_drew)); exact Kd.Q_mono HO_411003.out (fun _ hk => ⟨hk.1.2, ⟨hk.2, ⟨hk.1.1.2.1, ⟨hk.1.1.2.2, hk.1.1.1⟩⟩⟩⟩)), (by (with_reducible repeat (first | apply Kd.Q_alloc | apply Kd.Q_drewN | apply Kd.Q_drew)); exact Kd.Q_mono HO_419003.out (fun _ hk => ⟨hk.1.2, ⟨hk.2, ⟨hk.1.1.2.1, ⟨hk.1.1.2.2, hk.1.1.1⟩⟩⟩⟩)), (by (with_reducible repeat (first | apply Kd.Q_alloc | apply Kd.Q_drewN | apply Kd.Q_drew)); exact Kd.Q_mono HO_427003.out (fun _ hk => ⟨hk.1.2, ⟨hk.2, ⟨hk.1.1.2.1, ⟨hk.1.1.2.2, hk.1.1.1⟩⟩⟩⟩)), (by (with_reducible repeat (first | apply Kd.Q_alloc | apply Kd.Q_drewN | apply Kd.Q_drew)); exact Kd.Q_mono HO_6.out (fun _ hk => ⟨hk.1.2, ⟨hk.2, ⟨hk.1.1.1, ⟨hk.1.1.2.1, hk.1.1.2.2⟩⟩⟩⟩)), (B.kb BK410), (B.kb BK418), (B.kb BK426), (B.kb BK439), GW439.out, GE439.out, NB410_439.out, NB439_410.out, NB418_439.out, NB439_418.out, NB426_439.out, NB439_426.out, (B.bl HB)⟩)
              skip
              refine box_step ?hg (N := 11) ?hd (cs := #[.int .i64 0, .int .i64 0, .int .i64 0, .slice none 0 0]) (t := 27) ?hr ?_; (case hd => rfl); (case hg => rfl); (case hr => first | (go_simp; done) | (go_simp; rfl))
              intro gb439 hg w63 hbox hb
              have n0_ := Aside0.mk (Kd.Q_below (B.kq HO_6) hb)
              have n1_ := Aside0.mk (Kd.Q_below (B.kq HO_411003) hb)
              have n2_ := Aside0.mk (Kd.Q_below (B.kq HO_419003) hb)
              have n3_ := Aside0.mk (Kd.Q_below (B.kq HO_427003) hb)
              have n4_ := Aside0.mk (Kd.R_below (B.kr HO431) hb)
              have n5_ := Aside0.mk (blk_below (B.kb BK410) hb)
              have n6_ := Aside0.mk (blk_below (B.kb BK418) hb)
              have n7_ := Aside0.mk (blk_below (B.kb BK426) hb)
              have n8_ := Aside0.mk (below_step (B.bl HB) hb)
              have n9_ := Aside0.mk (hbox)
              have n10_ := Aside0.mk (B.nle hg (below_size (B.bl HB)))
              have n11_ := Aside0.mk (B.nle hg (below_size (B.bl HB)))
              have n12_ := Aside0.mk (B.nlt hg (blk_lt (B.kb BK410)))
              have n13_ := Aside0.mk (B.ngt hg (blk_lt (B.kb BK410)))
              have n14_ := Aside0.mk (B.nlt hg (blk_lt (B.kb BK418)))
              have n15_ := Aside0.mk (B.ngt hg (blk_lt (B.kb BK418)))
              have n16_ := Aside0.mk (B.nlt hg (blk_lt (B.kb BK426)))
              have n17_ := Aside0.mk (B.ngt hg (blk_lt (B.kb BK426)))
              clear HO_6 HO_411003 HO_419003 HO_427003 HO431 BK410 BK418 BK426 HB
              have HO_6 := n0_
              have HO_411003 := n1_
              have HO_419003 := n2_
              have HO_427003 := n3_
              have HO431 := n4_
              have BK410 := n5_
              have BK418 := n6_
              have BK426 := n7_
              have HB := n8_
              have BK439 := n9_
              have GW439 := n10_
              have GE439 := n11_
              have NB410_439 := n12_
              have NB439_410 := n13_
              have NB418_439 := n14_
              have NB439_418 := n15_
              have NB426_439 := n16_
              have NB439_426 := n17_
              clear n0_ n1_ n2_ n3_ n4_ n5_ n6_ n7_ n8_ n9_ n10_ n11_ n12_ n13_ n14_ n15_ n16_ n17_
              clear hb hbox hg
              obtain ⟨Ao64, co64, eo64⟩ := Kd.R_slice HO431.out
              (first | subst eo64 | (injection eo64 with f1_ f2_ f3_; have f4_ := f1_.symm; have f5_ := f3_.symm; clear f1_ f2_ f3_; subst f4_; subst f5_))
              refine hK.out _ _ ⟨B.bc BK418 0, B.bc BK418 1, B.bc BK418 2, B.bc BK418 3, B.bc BK410 0, B.bc BK410 1, B.bc BK410 2, B.bc BK410 3⟩ (fun hHeld => ?_)
              clear hK K
              refine norm_ (a' := ?_) ?_ ?_
              rotate_left
              · show Act.put _ (some 11) _ = _
                simp only [Act.put, List.setIfInBounds_toArray, List.set_cons_zero, List.set_cons_succ, i64_w, i32_w]
                rfl
              refine one_ (i := 7) (N := some 68) #[true, true, true, true, true, true, true, true, false, false, false, true, false, false] rfl rfl (one_of HT_.out (by kernel_rfl)) (by decide) (fun K hK => ?_)
              refine goes_ Try.func33 (by kernel_rfl) rfl #[.agg #[.int .i64 t411, .int .i64 t412, .int .i64 t413, .slice Ao16 t414.length co16], .int .i64 t405, .int .i64 t406, .slice Ao64 t429.length co64] (by rfl) rfl rfl B.am ?_
              with_reducible refine (impl_SetPixel.calls t411 t412 t413 _ _ t414 t405 t406 _ _ t429 t432 t433 t434 t435 true _ ?side1 ?side2 ?side3 ?side4 A55.out).mono ?_
              (case side1 => exact B.kc ((Kd.Q_reads' HO_419003.out).2.2))
              (case side2 => exact (Kd.Q_reads' HO_419003.out).2.1)
              (case side3 => exact B.kc ((Kd.R_reads' HO431.out).2.2))
              (case side4 => exact (Kd.R_reads' HO431.out).2.1)
              rintro e w65 ⟨v436, rfl, ho0, hb⟩
              refine ⟨_, rfl, ?_⟩
              have n0_ := Aside0.mk (Kd.Q_elder' (B.kq HO_6) (Kd.R_base ho0) hb)
              have n1_ := Aside0.mk (Kd.Q_elder' (B.kq HO_411003) (Kd.R_base ho0) hb)
              have n2_ := Aside0.mk (Kd.Q_elder' (B.kq HO_419003) (Kd.R_base ho0) hb)
              have n3_ := Aside0.mk (Kd.Q_elder' (B.kq HO_427003) (Kd.R_base ho0) hb)
              have n4_ := Aside0.mk (Kd.R_elder' (B.kr HO431) (Kd.R_base ho0) hb)
              have n5_ := Aside0.mk (Kd.R_lower (Kd.R_new' (Kd.R_new' (Kd.R_new' (Kd.R_new' (Kd.R_new' ho0 (Kd.Q_lt (B.kq HO_6))) (Kd.Q_lt (B.kq HO_411003))) (Kd.Q_lt (B.kq HO_419003))) (Kd.Q_lt (B.kq HO_427003))) (Kd.R_lt (B.kr HO431))) (below_size (B.bl HB)))
              have n6_ := Aside0.mk (blk_below (B.kb BK410) hb)
              have n7_ := Aside0.mk (blk_below (B.kb BK418) hb)
              have n8_ := Aside0.mk (blk_below (B.kb BK426) hb)
              have n9_ := Aside0.mk (blk_below (B.kb BK439) hb)
              have n10_ := Aside0.mk (below_step (B.bl HB) hb)
              clear HO_6 HO_411003 HO_419003 HO_427003 HO431 BK410 BK418 BK426 BK439 HB
              have HO_6 := n0_
              have HO_411003 := n1_
              have HO_419003 := n2_
              have HO_427003 := n3_
              have HO431 := n4_
              have HO437 := n5_
              have BK410 := n6_
              have BK418 := n7_
              have BK426 := n8_
              have BK439 := n9_
              have HB := n10_
              clear n0_ n1_ n2_ n3_ n4_ n5_ n6_ n7_ n8_ n9_ n10_
              (try clear hb)
              (try clear hb2)
              (try clear hk)
              (try clear hi)
              (try clear ho0)
              refine hK.out _ _ ⟨B.bc BK418 0, B.bc BK418 1, B.bc BK418 2, B.bc BK418 3, B.bc BK410 0, B.bc BK410 1, B.bc BK410 2, B.bc BK410 3⟩ (fun hHeld => ?_)
              clear hK K
              refine norm_ (a' := ?_) ?_ ?_
              rotate_left
              · show Act.put _ (some 68) _ = _
                simp only [Act.put, List.setIfInBounds_toArray, List.set_cons_zero, List.set_cons_succ, i64_w, i32_w]
                rfl
              refine pure_ (i := 8) (N := some 60) (v := ?_) (a' := ?_) #[true, true, true, true, true, true, true, true, true, false, false, true, false, false] rfl rfl (any_of HT_.out (by kernel_rfl)) (fun _ _ _ h => h) (Or.inl ⟨by rfl, ?_⟩) ?_ ?_
              rotate_left
              · intro w'
                go_simp
                with_reducible rfl
              rotate_left
              · simp only [Act.put, List.setIfInBounds_toArray, List.set_cons_zero, List.set_cons_succ, i64_w, i32_w]
                rfl
              refine pure_ (i := 9) (N := some 69) (v := ?_) (a' := ?_) #[true, true, true, true, true, true, true, true, true, true, false, true, false, false] rfl rfl (any_of HT_.out (by kernel_rfl)) (fun _ _ _ h => h) (Or.inl ⟨by rfl, ?_⟩) ?_ ?_
              rotate_left
              · intro w'
                go_simp
                with_reducible rfl
              rotate_left
              · simp only [Act.put, List.setIfInBounds_toArray, List.set_cons_zero, List.set_cons_succ, i64_w, i32_w]
                rfl
              refine pure_ (i := 10) (N := some 70) (v := ?_) (a' := ?_) #[true, true, true, true, true, true, true, true, true, true, true, true, false, false] rfl rfl (any_of HT_.out (by kernel_rfl)) (fun _ _ _ h => h) (Or.inl ⟨by rfl, ?_⟩) ?_ ?_
              rotate_left
              · intro w'
                go_simp
                with_reducible rfl
              rotate_left
              · simp only [Act.put, List.setIfInBounds_toArray, List.set_cons_zero, List.set_cons_succ, i64_w, i32_w]
                rfl
              exact norm_ (by simp only [putAll, Act.put, List.setIfInBounds_toArray, List.set_cons_zero, List.set_cons_succ]) (hCont (.slice Ao64 t429.length co64, v436, gb439) _ ⟨hHeld, (B.kr0 (Kd.R_mono HO431.out (fun _ hk => ⟨hk.2, ⟨hk.1.1.1.2, ⟨hk.1.1.2, ⟨hk.1.2, hk.1.1.1.1.2⟩⟩⟩⟩))), (B.kr0 (Kd.R_mono HO437.out (fun _ hk => ⟨hk.2, ⟨hk.1.1.1.2, ⟨hk.1.1.2, ⟨hk.1.2, hk.1.1.1.1.2⟩⟩⟩⟩))), (by (with_reducible repeat (first | apply Kd.Q_alloc | apply Kd.Q_drewN | apply Kd.Q_drew)); exact Kd.Q_mono HO_411003.out (fun _ hk => ⟨hk.1.2, ⟨hk.2, ⟨hk.1.1.2.1, ⟨hk.1.1.2.2, hk.1.1.1⟩⟩⟩⟩)), (by (with_reducible repeat (first | apply Kd.Q_alloc | apply Kd.Q_drewN | apply Kd.Q_drew)); exact Kd.Q_mono HO_419003.out (fun _ hk => ⟨hk.1.2, ⟨hk.2, ⟨hk.1.1.2.1, ⟨hk.1.1.2.2, hk.1.1.1⟩⟩⟩⟩)), (by (with_reducible repeat (first | apply Kd.Q_alloc | apply Kd.Q_drewN | apply Kd.Q_drew)); exact Kd.Q_mono HO_427003.out (fun _ hk => ⟨hk.1.2, ⟨hk.2, ⟨hk.1.1.2.1, ⟨hk.1.1.2.2, hk.1.1.1⟩⟩⟩⟩)), (by (with_reducible repeat (first | apply Kd.Q_alloc | apply Kd.Q_drewN | apply Kd.Q_drew)); exact Kd.Q_mono HO_6.out (fun _ hk => ⟨hk.1.2, ⟨hk.2, ⟨hk.1.1.1, ⟨hk.1.1.2.1, hk.1.1.2.2⟩⟩⟩⟩)), (B.kb BK410), (B.kb BK418), (B.kb BK426), (B.kb BK439), GW439.out, GE439.out, NB410_439.out, NB439_410.out, NB418_439.out, NB439_418.out, NB426_439.out, NB439_426.out, (B.bl HB)⟩)
            skip
            refine box_step ?hg (N := 11) ?hd (cs := #[.int .i64 0, .int .i64 0, .int .i64 0, .slice none 0 0]) (t := 27) ?hr ?_; (case hd => rfl); (case hg => rfl); (case hr => first | (go_simp; done) | (go_simp; rfl))
            intro gb439 hg w62 hbox hb
            have n0_ := Aside0.mk (Kd.Q_below (B.kq HO_6) hb)
            have n1_ := Aside0.mk (Kd.Q_below (B.kq HO_411003) hb)
            have n2_ := Aside0.mk (Kd.Q_below (B.kq HO_419003) hb)
            have n3_ := Aside0.mk (Kd.Q_below (B.kq HO_427003) hb)
            have n4_ := Aside0.mk (blk_below (B.kb BK410) hb)
            have n5_ := Aside0.mk (blk_below (B.kb BK418) hb)
            have n6_ := Aside0.mk (blk_below (B.kb BK426) hb)
            have n7_ := Aside0.mk (below_step (B.bl HB) hb)
            have n8_ := Aside0.mk (hbox)
            have n9_ := Aside0.mk (B.nle hg (below_size (B.bl HB)))
            have n10_ := Aside0.mk (B.nle hg (below_size (B.bl HB)))
            have n11_ := Aside0.mk (B.nlt hg (blk_lt (B.kb BK410)))
            have n12_ := Aside0.mk (B.ngt hg (blk_lt (B.kb BK410)))
            have n13_ := Aside0.mk (B.nlt hg (blk_lt (B.kb BK418)))
            have n14_ := Aside0.mk (B.ngt hg (blk_lt (B.kb BK418)))
            have n15_ := Aside0.mk (B.nlt hg (blk_lt (B.kb BK426)))
            have n16_ := Aside0.mk (B.ngt hg (blk_lt (B.kb BK426)))
            clear HO_6 HO_411003 HO_419003 HO_427003 BK410 BK418 BK426 HB
            have HO_6 := n0_
            have HO_411003 := n1_
            have HO_419003 := n2_
            have HO_427003 := n3_
            have BK410 := n4_
            have BK418 := n5_
            have BK426 := n6_
            have HB := n7_
            have BK439 := n8_
            have GW439 := n9_
            have GE439 := n10_
            have NB410_439 := n11_
            have NB439_410 := n12_
            have NB418_439 := n13_
            have NB439_418 := n14_
            have NB426_439 := n15_
            have NB439_426 := n16_
            clear n0_ n1_ n2_ n3_ n4_ n5_ n6_ n7_ n8_ n9_ n10_ n11_ n12_ n13_ n14_ n15_ n16_
            clear hb hbox hg
            refine hK.out _ _ ⟨B.bc BK418 0, B.bc BK418 1, B.bc BK418 2, B.bc BK418 3, B.bc BK410 0, B.bc BK410 1, B.bc BK410 2, B.bc BK410 3⟩ (fun hHeld => ?_)
            clear hK K
            refine norm_ (a' := ?_) ?_ ?_
            rotate_left
            · show Act.put _ (some 11) _ = _
              simp only [Act.put, List.setIfInBounds_toArray, List.set_cons_zero, List.set_cons_succ, i64_w, i32_w]
              rfl
            refine one_ (i := 6) (N := some 67) #[true, true, true, true, true, true, true, false, false, false, false, true, false, false] rfl rfl (one_of HT_.out (by kernel_rfl)) (by decide) (fun K hK => ?_)
            refine goes_ Try.func24 (by kernel_rfl) rfl #[.agg #[.int .i64 t399, .int .i64 t400, .int .i64 t401, .slice Ao10 t402.length co10], .int .i64 t405, .int .i64 t406] (by rfl) rfl rfl B.am ?_
            with_reducible refine (impl_PixelAt.calls t399 t400 t401 _ _ t402 t405 t406 t429 _ ?side1 ?side2 A54.out).mono ?_
            (case side1 => exact B.kc ((Kd.Q_reads' HO_411003.out).2.2))
            (case side2 => exact (Kd.Q_reads' HO_411003.out).2.1)
            rintro e w63 ⟨v430, rfl, ho0, hb⟩
            refine ⟨_, rfl, ?_⟩
            have n0_ := Aside0.mk (Kd.Q_elder' (B.kq HO_6) (Kd.R_base ho0) hb)
            have n1_ := Aside0.mk (Kd.Q_elder' (B.kq HO_411003) (Kd.R_base ho0) hb)
            have n2_ := Aside0.mk (Kd.Q_elder' (B.kq HO_419003) (Kd.R_base ho0) hb)
            have n3_ := Aside0.mk (Kd.Q_elder' (B.kq HO_427003) (Kd.R_base ho0) hb)
            have n4_ := Aside0.mk (Kd.R_lower (Kd.R_new' (Kd.R_new' (Kd.R_new' (Kd.R_new' ho0 (Kd.Q_lt (B.kq HO_6))) (Kd.Q_lt (B.kq HO_411003))) (Kd.Q_lt (B.kq HO_419003))) (Kd.Q_lt (B.kq HO_427003))) (below_size (B.bl HB)))
            have n5_ := Aside0.mk (blk_below (B.kb BK410) hb)
            have n6_ := Aside0.mk (blk_below (B.kb BK418) hb)
            have n7_ := Aside0.mk (blk_below (B.kb BK426) hb)
            have n8_ := Aside0.mk (blk_below (B.kb BK439) hb)
            have n9_ := Aside0.mk (below_step (B.bl HB) hb)
            clear HO_6 HO_411003 HO_419003 HO_427003 BK410 BK418 BK426 BK439 HB
            have HO_6 := n0_
            have HO_411003 := n1_
            have HO_419003 := n2_
            have HO_427003 := n3_
            have HO431 := n4_
            have BK410 := n5_
            have BK418 := n6_
            have BK426 := n7_
            have BK439 := n8_
            have HB := n9_
            clear n0_ n1_ n2_ n3_ n4_ n5_ n6_ n7_ n8_ n9_
            (try clear hb)
            (try clear hb2)
            (try clear hk)
            (try clear hi)
            (try clear ho0)
            obtain ⟨Ao64, co64, eo64⟩ := Kd.R_slice HO431.out
            (first | subst eo64 | (injection eo64 with f1_ f2_ f3_; have f4_ := f1_.symm; have f5_ := f3_.symm; clear f1_ f2_ f3_; subst f4_; subst f5_))
            refine hK.out _ _ ⟨B.bc BK418 0, B.bc BK418 1, B.bc BK418 2, B.bc BK418 3, B.bc BK410 0, B.bc BK410 1, B.bc BK410 2, B.bc BK410 3⟩ (fun hHeld => ?_)
            clear hK K
            refine norm_ (a' := ?_) ?_ ?_
            rotate_left
            · show Act.put _ (some 67) _ = _
              simp only [Act.put, List.setIfInBounds_toArray, List.set_cons_zero, List.set_cons_succ, i64_w, i32_w]
              rfl
            refine one_ (i := 7) (N := some 68) #[true, true, true, true, true, true, true, true, false, false, false, true, false, false] rfl rfl (one_of HT_.out (by kernel_rfl)) (by decide) (fun K hK => ?_)
            refine goes_ Try.func33 (by kernel_rfl) rfl #[.agg #[.int .i64 t411, .int .i64 t412, .int .i64 t413, .slice Ao16 t414.length co16], .int .i64 t405, .int .i64 t406, .slice Ao64 t429.length co64] (by rfl) rfl rfl B.am ?_
            with_reducible refine (impl_SetPixel.calls t411 t412 t413 _ _ t414 t405 t406 _ _ t429 t432 t433 t434 t435 true _ ?side1 ?side2 ?side3 ?side4 A55.out).mono ?_
            (case side1 => exact B.kc ((Kd.Q_reads' HO_419003.out).2.2))
            (case side2 => exact (Kd.Q_reads' HO_419003.out).2.1)
            (case side3 => exact B.kc ((Kd.R_reads' HO431.out).2.2))
            (case side4 => exact (Kd.R_reads' HO431.out).2.1)
            rintro e w65 ⟨v436, rfl, ho0, hb⟩
            refine ⟨_, rfl, ?_⟩
            have n0_ := Aside0.mk (Kd.Q_elder' (B.kq HO_6) (Kd.R_base ho0) hb)
            have n1_ := Aside0.mk (Kd.Q_elder' (B.kq HO_411003) (Kd.R_base ho0) hb)
            have n2_ := Aside0.mk (Kd.Q_elder' (B.kq HO_419003) (Kd.R_base ho0) hb)
            have n3_ := Aside0.mk (Kd.Q_elder' (B.kq HO_427003) (Kd.R_base ho0) hb)
            have n4_ := Aside0.mk (Kd.R_elder' (B.kr HO431) (Kd.R_base ho0) hb)
            have n5_ := Aside0.mk (Kd.R_lower (Kd.R_new' (Kd.R_new' (Kd.R_new' (Kd.R_new' (Kd.R_new' ho0 (Kd.Q_lt (B.kq HO_6))) (Kd.Q_lt (B.kq HO_411003))) (Kd.Q_lt (B.kq HO_419003))) (Kd.Q_lt (B.kq HO_427003))) (Kd.R_lt (B.kr HO431))) (below_size (B.bl HB)))
            have n6_ := Aside0.mk (blk_below (B.kb BK410) hb)
            have n7_ := Aside0.mk (blk_below (B.kb BK418) hb)
            have n8_ := Aside0.mk (blk_below (B.kb BK426) hb)
            have n9_ := Aside0.mk (blk_below (B.kb BK439) hb)
            have n10_ := Aside0.mk (below_step (B.bl HB) hb)
            clear HO_6 HO_411003 HO_419003 HO_427003 HO431 BK410 BK418 BK426 BK439 HB
            have HO_6 := n0_
            have HO_411003 := n1_
            have HO_419003 := n2_
            have HO_427003 := n3_
            have HO431 := n4_
            have HO437 := n5_
            have BK410 := n6_
            have BK418 := n7_
            have BK426 := n8_
            have BK439 := n9_
            have HB := n10_
            clear n0_ n1_ n2_ n3_ n4_ n5_ n6_ n7_ n8_ n9_ n10_
            (try clear hb)
            (try clear hb2)
            (try clear hk)
            (try clear hi)
            (try clear ho0)
            refine hK.out _ _ ⟨B.bc BK418 0, B.bc BK418 1, B.bc BK418 2, B.bc BK418 3, B.bc BK410 0, B.bc BK410 1, B.bc BK410 2, B.bc BK410 3⟩ (fun hHeld => ?_)
            clear hK K
            refine norm_ (a' := ?_) ?_ ?_
            rotate_left
            · show Act.put _ (some 68) _ = _
              simp only [Act.put, List.setIfInBounds_toArray, List.set_cons_zero, List.set_cons_succ, i64_w, i32_w]
              rfl
            refine pure_ (i := 8) (N := some 60) (v := ?_) (a' := ?_) #[true, true, true, true, true, true, true, true, true, false, false, true, false, false] rfl rfl (any_of HT_.out (by kernel_rfl)) (fun _ _ _ h => h) (Or.inl ⟨by rfl, ?_⟩) ?_ ?_
            rotate_left
            · intro w'
              go_simp
              with_reducible rfl
            rotate_left
            · simp only [Act.put, List.setIfInBounds_toArray, List.set_cons_zero, List.set_cons_succ, i64_w, i32_w]
              rfl
            refine pure_ (i := 9) (N := some 69) (v := ?_) (a' := ?_) #[true, true, true, true, true, true, true, true, true, true, false, true, false, false] rfl rfl (any_of HT_.out (by kernel_rfl)) (fun _ _ _ h => h) (Or.inl ⟨by rfl, ?_⟩) ?_ ?_
            rotate_left
            · intro w'
              go_simp
              with_reducible rfl
            rotate_left
            · simp only [Act.put, List.setIfInBounds_toArray, List.set_cons_zero, List.set_cons_succ, i64_w, i32_w]
              rfl
            refine pure_ (i := 10) (N := some 70) (v := ?_) (a' := ?_) #[true, true, true, true, true, true, true, true, true, true, true, true, false, false] rfl rfl (any_of HT_.out (by kernel_rfl)) (fun _ _ _ h => h) (Or.inl ⟨by rfl, ?_⟩) ?_ ?_
            rotate_left
            · intro w'
              go_simp
              with_reducible rfl
            rotate_left
            · simp only [Act.put, List.setIfInBounds_toArray, List.set_cons_zero, List.set_cons_succ, i64_w, i32_w]
              rfl
            exact norm_ (by simp only [putAll, Act.put, List.setIfInBounds_toArray, List.set_cons_zero, List.set_cons_succ]) (hCont (.slice Ao64 t429.length co64, v436, gb439) _ ⟨hHeld, (B.kr0 (Kd.R_mono HO431.out (fun _ hk => ⟨hk.2, ⟨hk.1.1.1.2, ⟨hk.1.1.2, ⟨hk.1.2, hk.1.1.1.1.2⟩⟩⟩⟩))), (B.kr0 (Kd.R_mono HO437.out (fun _ hk => ⟨hk.2, ⟨hk.1.1.1.2, ⟨hk.1.1.2, ⟨hk.1.2, hk.1.1.1.1.2⟩⟩⟩⟩))), (by (with_reducible repeat (first | apply Kd.Q_alloc | apply Kd.Q_drewN | apply Kd.Q_drew)); exact Kd.Q_mono HO_411003.out (fun _ hk => ⟨hk.1.2, ⟨hk.2, ⟨hk.1.1.2.1, ⟨hk.1.1.2.2, hk.1.1.1⟩⟩⟩⟩)), (by (with_reducible repeat (first | apply Kd.Q_alloc | apply Kd.Q_drewN | apply Kd.Q_drew)); exact Kd.Q_mono HO_419003.out (fun _ hk => ⟨hk.1.2, ⟨hk.2, ⟨hk.1.1.2.1, ⟨hk.1.1.2.2, hk.1.1.1⟩⟩⟩⟩)), (by (with_reducible repeat (first | apply Kd.Q_alloc | apply Kd.Q_drewN | apply Kd.Q_drew)); exact Kd.Q_mono HO_427003.out (fun _ hk => ⟨hk.1.2, ⟨hk.2, ⟨hk.1.1.2.1, ⟨hk.1.1.2.2, hk.1.1.1⟩⟩⟩⟩)), (by (with_reducible repeat (first | apply Kd.Q_alloc | apply Kd.Q_drewN | apply Kd.Q_drew)); exact Kd.Q_mono HO_6.out (fun _ hk => ⟨hk.1.2, ⟨hk.2, ⟨hk.1.1.1, ⟨hk.1.1.2.1, hk.1.1.2.2⟩⟩⟩⟩)), (B.kb BK410), (B.kb BK418), (B.kb BK426), (B.kb BK439), GW439.out, GE439.out, NB410_439.out, NB439_410.out, NB418_439.out, NB439_418.out, NB426_439.out, NB439_426.out, (B.bl HB)⟩)
          rintro ⟨v430, v436, gb439⟩ w66 ⟨hS_, h0_, h1_, h2_, h3_, h4_, h5_, h6_, h7_, h8_, h9_, h10_, h11_, h12_, h13_, h14_, h15_, h16_, h17_, h18_⟩
          have n0_ : Aside0 (Kd.R (Kd.int .i64) 3 w66 w.heap.size (fun k_ => some k_ ≠ (v436 : Value).ownBlock ∧ some k_ ≠ (.slice Ao10 t402.length co10 : Value).ownBlock ∧ some k_ ≠ (.slice Ao16 t414.length co16 : Value).ownBlock ∧ some k_ ≠ (.slice Ao23 t422.length co23 : Value).ownBlock ∧ some k_ ≠ (.slice Ao11 t407.length co11 : Value).ownBlock) v430 t429) := ⟨h0_⟩
          have n1_ : Aside0 (Kd.R (Kd.int .i64) 3 w66 w.heap.size (fun k_ => some k_ ≠ (v430 : Value).ownBlock ∧ some k_ ≠ (.slice Ao10 t402.length co10 : Value).ownBlock ∧ some k_ ≠ (.slice Ao16 t414.length co16 : Value).ownBlock ∧ some k_ ≠ (.slice Ao23 t422.length co23 : Value).ownBlock ∧ some k_ ≠ (.slice Ao11 t407.length co11 : Value).ownBlock) v436 t435) := ⟨h1_⟩
          have n2_ : Aside0 (Kd.Q (Kd.int .i64) 3 w66 w.heap.size (fun k_ => some k_ ≠ (v430 : Value).ownBlock ∧ some k_ ≠ (v436 : Value).ownBlock ∧ some k_ ≠ (.slice Ao16 t414.length co16 : Value).ownBlock ∧ some k_ ≠ (.slice Ao23 t422.length co23 : Value).ownBlock ∧ some k_ ≠ (.slice Ao11 t407.length co11 : Value).ownBlock) (.slice Ao10 t402.length co10) t402) := ⟨h2_⟩
          have n3_ : Aside0 (Kd.Q (Kd.int .i64) 3 w66 w.heap.size (fun k_ => some k_ ≠ (v430 : Value).ownBlock ∧ some k_ ≠ (v436 : Value).ownBlock ∧ some k_ ≠ (.slice Ao10 t402.length co10 : Value).ownBlock ∧ some k_ ≠ (.slice Ao23 t422.length co23 : Value).ownBlock ∧ some k_ ≠ (.slice Ao11 t407.length co11 : Value).ownBlock) (.slice Ao16 t414.length co16) t414) := ⟨h3_⟩
          have n4_ : Aside0 (Kd.Q (Kd.int .i64) 3 w66 w.heap.size (fun k_ => some k_ ≠ (v430 : Value).ownBlock ∧ some k_ ≠ (v436 : Value).ownBlock ∧ some k_ ≠ (.slice Ao10 t402.length co10 : Value).ownBlock ∧ some k_ ≠ (.slice Ao16 t414.length co16 : Value).ownBlock ∧ some k_ ≠ (.slice Ao11 t407.length co11 : Value).ownBlock) (.slice Ao23 t422.length co23) t422) := ⟨h4_⟩
          have n5_ : Aside0 (Kd.Q (Kd.int .i64) 3 w66 w.heap.size (fun k_ => some k_ ≠ (v430 : Value).ownBlock ∧ some k_ ≠ (v436 : Value).ownBlock ∧ some k_ ≠ (.slice Ao10 t402.length co10 : Value).ownBlock ∧ some k_ ≠ (.slice Ao16 t414.length co16 : Value).ownBlock ∧ some k_ ≠ (.slice Ao23 t422.length co23 : Value).ownBlock) (.slice Ao11 t407.length co11) t407) := ⟨h5_⟩
          have n6_ : Aside0 (w66.heap[gb410]? = some (.cells #[.int .i64 t399, .int .i64 t400, .int .i64 t401, .slice Ao10 t402.length co10] 27 (0, 0))) := ⟨h6_⟩
          have n7_ : Aside0 (w66.heap[gb418]? = some (.cells #[.int .i64 t411, .int .i64 t412, .int .i64 t413, .slice Ao16 t414.length co16] 27 (0, 0))) := ⟨h7_⟩
          have n8_ : Aside0 (w66.heap[gb426]? = some (.cells #[.int .i64 t419, .int .i64 t420, .int .i64 t421, .slice Ao23 t422.length co23] 27 (0, 0))) := ⟨h8_⟩
          have n9_ : Aside0 (w66.heap[gb439]? = some (.cells #[.int .i64 0, .int .i64 0, .int .i64 0, .slice none 0 0] 27 (0, 0))) := ⟨h9_⟩
          have n10_ : Aside0 (w.heap.size ≤ gb439) := ⟨h10_⟩
          have n11_ : Aside0 (w.heap.size ≤ gb439) := ⟨h11_⟩
          have n12_ : Aside0 (gb410 ≠ gb439) := ⟨h12_⟩
          have n13_ : Aside0 (gb439 ≠ gb410) := ⟨h13_⟩
          have n14_ : Aside0 (gb418 ≠ gb439) := ⟨h14_⟩
          have n15_ : Aside0 (gb439 ≠ gb418) := ⟨h15_⟩
          have n16_ : Aside0 (gb426 ≠ gb439) := ⟨h16_⟩
          have n17_ : Aside0 (gb439 ≠ gb426) := ⟨h17_⟩
          have n18_ : Aside0 (Below w.heap.size w w66) := ⟨h18_⟩
          clear HO_6 HO_411003 HO_419003 HO_427003 BK410 BK418 BK426 HB
          clear h0_ h1_ h2_ h3_ h4_ h5_ h6_ h7_ h8_ h9_ h10_ h11_ h12_ h13_ h14_ h15_ h16_ h17_ h18_
          have HO431 := n0_
          have HO437 := n1_
          have HO_411003 := n2_
          have HO_419003 := n3_
          have HO_427003 := n4_
          have HO_6 := n5_
          have BK410 := n6_
          have BK418 := n7_
          have BK426 := n8_
          have BK439 := n9_
          have GW439 := n10_
          have GE439 := n11_
          have NB410_439 := n12_
          have NB439_410 := n13_
          have NB418_439 := n14_
          have NB439_418 := n15_
          have NB426_439 := n16_
          have NB439_426 := n17_
          have HB := n18_
          clear n0_ n1_ n2_ n3_ n4_ n5_ n6_ n7_ n8_ n9_ n10_ n11_ n12_ n13_ n14_ n15_ n16_ n17_ n18_
          have hHeld : w66.cell? ⟨gb418, 0, none⟩ = some (.int .i64 t411) ∧ w66.cell? ⟨gb418, 1, none⟩ = some (.int .i64 t412) ∧ w66.cell? ⟨gb418, 2, none⟩ = some (.int .i64 t413) ∧ w66.cell? ⟨gb418, 3, none⟩ = some (.slice Ao16 t414.length co16) ∧ w66.cell? ⟨gb410, 0, none⟩ = some (.int .i64 t399) ∧ w66.cell? ⟨gb410, 1, none⟩ = some (.int .i64 t400) ∧ w66.cell? ⟨gb410, 2, none⟩ = some (.int .i64 t401) ∧ w66.cell? ⟨gb410, 3, none⟩ = some (.slice Ao10 t402.length co10) := hS_
          obtain ⟨Ao70, co70, eo70⟩ := Kd.R_slice HO437.out
          (first | subst eo70 | (injection eo70 with f1_ f2_ f3_; have f4_ := f1_.symm; have f5_ := f3_.symm; clear f1_ f2_ f3_; subst f4_; subst f5_))
          refine norm_ (a' := ?_) ?_ ?_
          rotate_left
          · simp only [putAll, Act.put, List.setIfInBounds_toArray, List.set_cons_zero, List.set_cons_succ]
            rfl
          refine one_ (i := 12) (N := none) #[true, true, true, true, true, true, true, true, true, true, true, true, true, false] rfl rfl (one_of HT_.out (by kernel_rfl)) (by decide) (fun K hK => ?_)
          have hs67 : w66.cell? ⟨gb439, 0, none⟩ = some (.int .i64 0) := B.bc BK439 0
          have hfs67 := blk_frozen BK439.out 0
          have hns67_0 := NB410_439.out
          have hns67_1 := NB418_439.out
          have hns67_2 := NB426_439.out
          have hms67_0 := NB439_410.out
          have hms67_1 := NB439_418.out
          have hms67_2 := NB439_426.out
          have hs68 : w66.cell? ⟨gb439, 1, none⟩ = some (.int .i64 0) := B.bc BK439 1
          have hfs68 := blk_frozen BK439.out 1
          have hns68_0 := NB410_439.out
          have hns68_1 := NB418_439.out
          have hns68_2 := NB426_439.out
          have hms68_0 := NB439_410.out
          have hms68_1 := NB439_418.out
          have hms68_2 := NB439_426.out
          have hs69 : w66.cell? ⟨gb439, 2, none⟩ = some (.int .i64 0) := B.bc BK439 2
          have hfs69 := blk_frozen BK439.out 2
          have hns69_0 := NB410_439.out
          have hns69_1 := NB418_439.out
          have hns69_2 := NB426_439.out
          have hms69_0 := NB439_410.out
          have hms69_1 := NB439_418.out
          have hms69_2 := NB439_426.out
          have hs71 : w66.cell? ⟨gb439, 3, none⟩ = some (.slice none 0 0) := B.bc BK439 3
          have hfs71 := blk_frozen BK439.out 3
          have hns71_0 := NB410_439.out
          have hns71_1 := NB418_439.out
          have hns71_2 := NB426_439.out
          have hms71_0 := NB439_410.out
          have hms71_1 := NB439_418.out
          have hms71_2 := NB439_426.out
          refine skip_ (w1 := ?_) (by rfl) rfl ?_ ?_
          rotate_left
          · go_simp
            rfl
          refine hK.out _ _ ⟨(B.cf4 NB418_439 hHeld.1), (B.cf4 NB418_439 hHeld.2.1), (B.cf4 NB418_439 hHeld.2.2.1), (B.cf4 NB418_439 hHeld.2.2.2.1), (B.cf4 NB410_439 hHeld.2.2.2.2.1), (B.cf4 NB410_439 hHeld.2.2.2.2.2.1), (B.cf4 NB410_439 hHeld.2.2.2.2.2.2.1), (B.cf4 NB410_439 hHeld.2.2.2.2.2.2.2)⟩ (fun hHeld => ?_)
          clear hK K
          refine pure_ (i := 13) (N := some 12) (v := ?_) (a' := ?_) #[true, true, true, true, true, true, true, true, true, true, true, true, true, true] rfl rfl (any_of HT_.out (by kernel_rfl)) (fun _ _ _ h => h) (Or.inl ⟨by rfl, ?_⟩) ?_ ?_
          rotate_left
          · intro w'
            go_simp
            with_reducible rfl
          rotate_left
          · simp only [Act.put, List.setIfInBounds_toArray, List.set_cons_zero, List.set_cons_succ, i64_w, i32_w]
            rfl
          refine done_ (done_of HT_.out (by kernel_rfl)) ?_
          have hnb72 := NB418_410.out
          have hnc72 := NB410_418.out
          have hnb73 := NB418_426.out
          have hnc73 := NB426_418.out
          have hnb74 := NB418_439.out
          have hnc74 := NB439_418.out
          have hcz75_0 : w66.cell? ⟨gb418, 0, none⟩ = some (.int .i64 t411) := B.bc BK418 0
          have hcz75_1 : w66.cell? ⟨gb418, 1, none⟩ = some (.int .i64 t412) := B.bc BK418 1
          have hcz75_2 : w66.cell? ⟨gb418, 2, none⟩ = some (.int .i64 t413) := B.bc BK418 2
          have hcz75_3 : w66.cell? ⟨gb418, 3, none⟩ = some (.slice Ao16 t414.length co16) := B.bc BK418 3
          have hfz75_0 := blk_frozen BK418.out 0
          have hfz75_1 := blk_frozen BK418.out 1
          have hfz75_2 := blk_frozen BK418.out 2
          have hfz75_3 := blk_frozen BK418.out 3
          try go_wp2_with (first | ((with_reducible refine gate_callee (f := 24) rfl ?_); refine goesL_ (some 74) rfl rfl Try.func24 (by kernel_rfl) rfl #[.agg #[.int .i64 t411, .int .i64 t412, .int .i64 t413, .slice Ao16 t414.length co16], .int .i64 t405, .int .i64 t406] rfl B.am ?_; (with_reducible refine (impl_PixelAt.calls t411 t412 t413 _ _ t414 t405 t406 t440 _ ?side1 ?side2 A56.out).mono ?_); (case side1 => refine (Kd.Q_reads' (e := 3) (base := w.heap.size) (ok := fun k_ => (some k_ ≠ (v430 : Value).ownBlock ∧ (some k_ ≠ (.slice Ao70 t435.length co70 : Value).ownBlock ∧ (some k_ ≠ (.slice Ao10 t402.length co10 : Value).ownBlock ∧ (some k_ ≠ (.slice Ao23 t422.length co23 : Value).ownBlock ∧ some k_ ≠ (.slice Ao11 t407.length co11 : Value).ownBlock))))) (n := t414.length) (c := co16) ?_).2.2; exact (by (with_reducible repeat (first | apply Kd.Q_alloc | apply Kd.Q_drewN | apply Kd.Q_drew)); exact (Kd.Q_mono (Kd.Q_far (p := ⟨gb439, 3, none⟩) (Kd.Q_far (p := ⟨gb439, 2, none⟩) (Kd.Q_far (p := ⟨gb439, 1, none⟩) (Kd.Q_far (p := ⟨gb439, 0, none⟩) (Kd.Q_types HO_419003.out BK439.out (by decide)) (fun _ hk => hk.2) (.int .i64 t432)) (fun _ hk => hk.2) (.int .i64 t433)) (fun _ hk => hk.2) (.int .i64 t434)) (fun _ hk => hk.2) (.slice Ao70 t435.length co70)) (fun _ h_ => h_.1)))); (case side2 => exact (Kd.Q_reads' HO_419003.out).2.1); rintro e w76 ⟨v441, rfl, ho0, hb⟩; refine ⟨_, rfl, ?_⟩; have n0_ := Aside0.mk (Kd.Q_elder' (by (with_reducible repeat (first | apply Kd.Q_alloc | apply Kd.Q_drewN | apply Kd.Q_drew)); exact (Kd.Q_mono (Kd.Q_far (p := ⟨gb439, 3, none⟩) (Kd.Q_far (p := ⟨gb439, 2, none⟩) (Kd.Q_far (p := ⟨gb439, 1, none⟩) (Kd.Q_far (p := ⟨gb439, 0, none⟩) (Kd.Q_types HO_6.out BK439.out (by decide)) (fun _ hk => hk.2) (.int .i64 t432)) (fun _ hk => hk.2) (.int .i64 t433)) (fun _ hk => hk.2) (.int .i64 t434)) (fun _ hk => hk.2) (.slice Ao70 t435.length co70)) (fun _ h_ => h_.1))) (Kd.R_base ho0) hb); have n1_ := Aside0.mk (Kd.Q_elder' (by (with_reducible repeat (first | apply Kd.Q_alloc | apply Kd.Q_drewN | apply Kd.Q_drew)); exact (Kd.Q_mono (Kd.Q_far (p := ⟨gb439, 3, none⟩) (Kd.Q_far (p := ⟨gb439, 2, none⟩) (Kd.Q_far (p := ⟨gb439, 1, none⟩) (Kd.Q_far (p := ⟨gb439, 0, none⟩) (Kd.Q_types HO_411003.out BK439.out (by decide)) (fun _ hk => hk.2) (.int .i64 t432)) (fun _ hk => hk.2) (.int .i64 t433)) (fun _ hk => hk.2) (.int .i64 t434)) (fun _ hk => hk.2) (.slice Ao70 t435.length co70)) (fun _ h_ => h_.1))) (Kd.R_base ho0) hb); have n2_ := Aside0.mk (Kd.Q_elder' (by (with_reducible repeat (first | apply Kd.Q_alloc | apply Kd.Q_drewN | apply Kd.Q_drew)); exact (Kd.Q_mono (Kd.Q_far (p := ⟨gb439, 3, none⟩) (Kd.Q_far (p := ⟨gb439, 2, none⟩) (Kd.Q_far (p := ⟨gb439, 1, none⟩) (Kd.Q_far (p := ⟨gb439, 0, none⟩) (Kd.Q_types HO_419003.out BK439.out (by decide)) (fun _ hk => hk.2) (.int .i64 t432)) (fun _ hk => hk.2) (.int .i64 t433)) (fun _ hk => hk.2) (.int .i64 t434)) (fun _ hk => hk.2) (.slice Ao70 t435.length co70)) (fun _ h_ => h_.1))) (Kd.R_base ho0) hb); have n3_ := Aside0.mk (Kd.Q_elder' (by (with_reducible repeat (first | apply Kd.Q_alloc | apply Kd.Q_drewN | apply Kd.Q_drew)); exact (Kd.Q_mono (Kd.Q_far (p := ⟨gb439, 3, none⟩) (Kd.Q_far (p := ⟨gb439, 2, none⟩) (Kd.Q_far (p := ⟨gb439, 1, none⟩) (Kd.Q_far (p := ⟨gb439, 0, none⟩) (Kd.Q_types HO_427003.out BK439.out (by decide)) (fun _ hk => hk.2) (.int .i64 t432)) (fun _ hk => hk.2) (.int .i64 t433)) (fun _ hk => hk.2) (.int .i64 t434)) (fun _ hk => hk.2) (.slice Ao70 t435.length co70)) (fun _ h_ => h_.1))) (Kd.R_base ho0) hb); have n4_ := Aside0.mk (Kd.R_elder' (B.kr0 (B.rs4 HO431 BK439)) (Kd.R_base ho0) hb); have n5_ := Aside0.mk (Kd.R_elder' (B.kr0 (B.rs4 HO437 BK439)) (Kd.R_base ho0) hb); have n6_ := Aside0.mk (Kd.R_lower (Kd.R_new' (Kd.R_new' (Kd.R_new' (Kd.R_new' (Kd.R_new' (Kd.R_new' ho0 (Kd.Q_lt (by (with_reducible repeat (first | apply Kd.Q_alloc | apply Kd.Q_drewN | apply Kd.Q_drew)); exact (Kd.Q_mono (Kd.Q_far (p := ⟨gb439, 3, none⟩) (Kd.Q_far (p := ⟨gb439, 2, none⟩) (Kd.Q_far (p := ⟨gb439, 1, none⟩) (Kd.Q_far (p := ⟨gb439, 0, none⟩) (Kd.Q_types HO_6.out BK439.out (by decide)) (fun _ hk => hk.2) (.int .i64 t432)) (fun _ hk => hk.2) (.int .i64 t433)) (fun _ hk => hk.2) (.int .i64 t434)) (fun _ hk => hk.2) (.slice Ao70 t435.length co70)) (fun _ h_ => h_.1))))) (Kd.Q_lt (by (with_reducible repeat (first | apply Kd.Q_alloc | apply Kd.Q_drewN | apply Kd.Q_drew)); exact (Kd.Q_mono (Kd.Q_far (p := ⟨gb439, 3, none⟩) (Kd.Q_far (p := ⟨gb439, 2, none⟩) (Kd.Q_far (p := ⟨gb439, 1, none⟩) (Kd.Q_far (p := ⟨gb439, 0, none⟩) (Kd.Q_types HO_411003.out BK439.out (by decide)) (fun _ hk => hk.2) (.int .i64 t432)) (fun _ hk => hk.2) (.int .i64 t433)) (fun _ hk => hk.2) (.int .i64 t434)) (fun _ hk => hk.2) (.slice Ao70 t435.length co70)) (fun _ h_ => h_.1))))) (Kd.Q_lt (by (with_reducible repeat (first | apply Kd.Q_alloc | apply Kd.Q_drewN | apply Kd.Q_drew)); exact (Kd.Q_mono (Kd.Q_far (p := ⟨gb439, 3, none⟩) (Kd.Q_far (p := ⟨gb439, 2, none⟩) (Kd.Q_far (p := ⟨gb439, 1, none⟩) (Kd.Q_far (p := ⟨gb439, 0, none⟩) (Kd.Q_types HO_419003.out BK439.out (by decide)) (fun _ hk => hk.2) (.int .i64 t432)) (fun _ hk => hk.2) (.int .i64 t433)) (fun _ hk => hk.2) (.int .i64 t434)) (fun _ hk => hk.2) (.slice Ao70 t435.length co70)) (fun _ h_ => h_.1))))) (Kd.Q_lt (by (with_reducible repeat (first | apply Kd.Q_alloc | apply Kd.Q_drewN | apply Kd.Q_drew)); exact (Kd.Q_mono (Kd.Q_far (p := ⟨gb439, 3, none⟩) (Kd.Q_far (p := ⟨gb439, 2, none⟩) (Kd.Q_far (p := ⟨gb439, 1, none⟩) (Kd.Q_far (p := ⟨gb439, 0, none⟩) (Kd.Q_types HO_427003.out BK439.out (by decide)) (fun _ hk => hk.2) (.int .i64 t432)) (fun _ hk => hk.2) (.int .i64 t433)) (fun _ hk => hk.2) (.int .i64 t434)) (fun _ hk => hk.2) (.slice Ao70 t435.length co70)) (fun _ h_ => h_.1))))) (Kd.R_lt (B.kr0 (B.rs4 HO431 BK439)))) (Kd.R_lt (B.kr0 (B.rs4 HO437 BK439)))) (below_size (B.bl HB))); have n7_ := Aside0.mk (blk_below (B.kb0 (B.bf4 BK410 NB410_439)) hb); have n8_ := Aside0.mk (blk_below (B.kb0 (B.bf4 BK418 NB418_439)) hb); have n9_ := Aside0.mk (blk_below (B.kb0 (B.bf4 BK426 NB426_439)) hb); have n10_ := Aside0.mk (blk_below (g := gb439) (o := .cells #[.int .i64 t432, .int .i64 t433, .int .i64 t434, .slice Ao70 t435.length co70] 27 (0, 0)) (B.kb0 (B.bp4 BK439)) hb); have n11_ := Aside0.mk (below_step (B.bl HB) hb); clear HO_6 HO_411003 HO_419003 HO_427003 HO431 HO437 BK410 BK418 BK426 BK439 HB; have HO_6 := n0_; have HO_411003 := n1_; have HO_419003 := n2_; have HO_427003 := n3_; have HO431 := n4_; have HO437 := n5_; have HO442 := n6_; have BK410 := n7_; have BK418 := n8_; have BK426 := n9_; have BK439 := n10_; have HB := n11_; clear n0_ n1_ n2_ n3_ n4_ n5_ n6_ n7_ n8_ n9_ n10_ n11_; (try clear hb); (try clear hb2); (try clear hk); (try clear hi); (try clear ho0); obtain ⟨Ao77, co77, eo77⟩ := Kd.R_slice HO442.out; subst eo77) | ((with_reducible refine gate_callee (f := 27) rfl ?_); refine goesL_ (some 76) rfl rfl Try.func27 (by kernel_rfl) rfl #[.slice Ao77 t440.length co77, .slice Ao11 t407.length co11] rfl B.am ?_; (with_reducible refine (laws_equalInts.calls kj5 _ _ t440 _ _ t407 true _ ?side1 ?side2 ?side3 ?side4 A57.out).mono ?_); (case side1 => exact B.kc ((Kd.R_reads' HO442.out).2.2)); (case side2 => exact (Kd.R_reads' HO442.out).2.1); (case side3 => exact B.kc ((Kd.Q_reads' HO_6.out).2.2)); (case side4 => exact (Kd.Q_reads' HO_6.out).2.1); rintro e w' ⟨rfl, ⟨nd, rfl⟩⟩; refine ⟨_, rfl, ?_⟩; have hnb78 := NB439_410.out; have hnc78 := NB410_439.out; have hnb79 := NB439_426.out; have hnc79 := NB426_439.out; have hcz80_0 : w76.cell? ⟨gb439, 0, none⟩ = some (.int .i64 t432) := B.bc BK439 0; have hcz80_1 : w76.cell? ⟨gb439, 1, none⟩ = some (.int .i64 t433) := B.bc BK439 1; have hcz80_2 : w76.cell? ⟨gb439, 2, none⟩ = some (.int .i64 t434) := B.bc BK439 2; have hcz80_3 : w76.cell? ⟨gb439, 3, none⟩ = some (.slice Ao70 t435.length co70) := B.bc BK439 3; have hfz80_0 := blk_frozen BK439.out 0; have hfz80_1 := blk_frozen BK439.out 1; have hfz80_2 := blk_frozen BK439.out 2; have hfz80_3 := blk_frozen BK439.out 3; have hnb81 := NB410_426.out; have hnc81 := NB426_410.out; have hcz82_0 : w76.cell? ⟨gb410, 0, none⟩ = some (.int .i64 t399) := B.bc BK410 0; have hcz82_1 : w76.cell? ⟨gb410, 1, none⟩ = some (.int .i64 t400) := B.bc BK410 1; have hcz82_2 : w76.cell? ⟨gb410, 2, none⟩ = some (.int .i64 t401) := B.bc BK410 2; have hcz82_3 : w76.cell? ⟨gb410, 3, none⟩ = some (.slice Ao10 t402.length co10) := B.bc BK410 3; have hfz82_0 := blk_frozen BK410.out 0; have hfz82_1 := blk_frozen BK410.out 1; have hfz82_2 := blk_frozen BK410.out 2; have hfz82_3 := blk_frozen BK410.out 3) | (go_at_call 30; (with_reducible refine (laws_equalImage.calls kj5 t432 t433 t434 _ _ t435 t399 t400 t401 _ _ t402 t444 _ ?side1 ?side2 ?side3 ?side4 A60.out).mono ?_); (case side1 => exact B.kc ((Kd.R_reads' HO437.out).2.2)); (case side2 => exact (Kd.R_reads' HO437.out).2.1); (case side3 => exact B.kc ((Kd.Q_reads' HO_411003.out).2.2)); (case side4 => exact (Kd.Q_reads' HO_411003.out).2.1); rintro e w83 ⟨rfl, hb⟩; have n0_ := Aside0.mk (Kd.Q_below (B.kq HO_6) hb); have n1_ := Aside0.mk (Kd.Q_below (B.kq HO_411003) hb); have n2_ := Aside0.mk (Kd.Q_below (B.kq HO_419003) hb); have n3_ := Aside0.mk (Kd.Q_below (B.kq HO_427003) hb); have n4_ := Aside0.mk (Kd.R_below (B.kr HO431) hb); have n5_ := Aside0.mk (Kd.R_below (B.kr HO437) hb); have n6_ := Aside0.mk (Kd.R_below (B.kr HO442) hb); have n7_ := Aside0.mk (blk_below (B.kb BK410) hb); have n8_ := Aside0.mk (blk_below (B.kb BK418) hb); have n9_ := Aside0.mk (blk_below (B.kb BK426) hb); have n10_ := Aside0.mk (blk_below (B.kb BK439) hb); have n11_ := Aside0.mk (below_step (B.bl HB) hb); clear HO_6 HO_411003 HO_419003 HO_427003 HO431 HO437 HO442 BK410 BK418 BK426 BK439 HB; have HO_6 := n0_; have HO_411003 := n1_; have HO_419003 := n2_; have HO_427003 := n3_; have HO431 := n4_; have HO437 := n5_; have HO442 := n6_; have BK410 := n7_; have BK418 := n8_; have BK426 := n9_; have BK439 := n10_; have HB := n11_; clear n0_ n1_ n2_ n3_ n4_ n5_ n6_ n7_ n8_ n9_ n10_ n11_; (try clear hb); (try clear hb2); (try clear hk); (try clear hi)))
          go_ret
          exact ⟨by first | rfl | (simp [errW_none, errW_some] <;> rfl) | (simp [*, errW_none, errW_some] <;> rfl), B.bl HB⟩
        replace c59 := Bool.eq_false_iff.mpr c59
        subst c59
        have H1 : (some false) = some r := by rw [if_neg (show ¬ (false = true) by decide)] at H; exact H
        clear H
        have H := H1
        clear H1
        obtain rfl := Option.some.inj H
        exact absurd ht_.out (by decide)
      replace c58 := Bool.eq_false_iff.mpr c58
      subst c58
      have H1 : (some false) = some r := by rw [if_neg (show ¬ (false = true) by decide)] at H; exact H
      clear H
      have H := H1
      clear H1
      obtain rfl := Option.some.inj H
      exact absurd ht_.out (by decide)

/-- THE ONE PURE STATEMENT of laws_FnSetPixel: yours. -/
def laws_FnSetPixel.Pure : Prop := ∀ (l0 : List Int), l0.length ≤ maxLen → l0.length * 1 ≤ 140737488351232 → (∀ x ∈ l0, (Lit.int .u8 x).wf = true) → ∃ k, laws_FnSetPixel.f k l0 = some true
theorem laws_FnSetPixel.walk (P : laws_FnSetPixel.Pure) (a0 : Option Addr) (len0 cap0 : Nat) (z0 : List Int) (w : World) (w0 : (a0 = none ∧ len0 = 0 ∧ cap0 = 0 ∧ z0 = []) ∨ ∃ x, a0 = some x ∧ len0 ≤ cap0 ∧ cap0 ≤ maxLen ∧ z0.length = cap0 ∧ (∀ i, i < z0.length → w.cell? (x.add i) = some (.int .u8 (z0.getD i 0))) ∧ ∀ n ∈ z0, (Lit.int .u8 n).wf = true) (y0 : len0 * 1 ≤ 140737488351232) :
    Calls Try.prog 10 #[.slice a0 len0 cap0] w fun e w' => e = .returned (.bool true) ∧ Below w.heap.size w w' := by
  obtain ⟨l0, rfl, hr0, hm0, hw0, hc0⟩ := ReadsInt.ofRowC w0
  obtain ⟨k, h⟩ := P l0 hm0 y0 hw0
  refine (laws_FnSetPixel.calls k _ _ l0 true w (Kd.C_of_reads (d := (0 : Int)) (h1 := fun _ => rfl) hr0) hc0 h ⟨rfl⟩).mono ?_
  rintro e w' ⟨rfl, hd⟩
  exact ⟨rfl, hd⟩

end Go.Proofs.Ytegicfkcdmhjgaa.Q
