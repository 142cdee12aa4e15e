-- Written by a program of this session (the kit's printer, with hand-proved contracts for the functions that it does not take).
import Derived.Test.YtmljcnhecjlinaaQ0
import Derived.Test.YtmljcnhecjlinaaQ3
import Derived.Test.YtmljcnhecjlinaaQ4
import Derived.Test.YtmljcnhecjlinaaQ6
import Derived.Test.YtmljcnhecjlinaaQ7
import Derived.Test.YtmljcnhecjlinaaQ8
import Derived.Test.YtmljcnhecjlinaaQ9
namespace Go.Proofs.Ytmljcnhecjlinaa.Q
open Go.RowKit Go.Proofs.YtmljcnhecjlinaaW.PrintWords Go.Proofs.YtmljcnhecjlinaaW.PrintLast Go.Proofs.YtmljcnhecjlinaaW.PrintMore
attribute [local go_sem] max2_int min2_int max_two min_two max_three min_three max_four min_four   -- for this text's walks alone
set_option linter.unusedVariables false
set_option linter.unusedSimpArgs false

/-! ### laws_FnCropImage: function 4 -/
def laws_FnCropImage.j0 : Nat → Bool → Bool → Bool → Int → Int → Int → List Int → Int → Int → Int → Int → Int → Int → Int → List Int → Int → Int → Int → List Int → Option (Bool)
  | 0, _, _, _, _, _, _, _, _, _, _, _, _, _, _, _, _, _, _, _ => none
  | k + 1, x6, x8, x43, x407000, x407001, x407002, x407003, x408000, x408001, x408002, x408003, x416000, x416001, x416002, x416003, x424000, x424001, x424002, x424003 => if x43 = true then ((laws_equalImage.f k x416000 x416001 x416002 x416003 x424000 x424001 x424002 x424003).bind fun t425 => (if t425 = true then (some (x6 == x8)) else (some false))) else ((impl_PasteImage.f x407000 x407001 x407002 x407003 x408000 x408001 x416000 x416001 x416002 x416003).bind fun bt426 => (if bt426.2.2.2.2 = true then ((laws_equalImage.f k bt426.1 bt426.2.1 bt426.2.2.1 bt426.2.2.2.1 x407000 x407001 x407002 x407003).bind fun t434 => (if t434 = true then (if x416000 = x408002 then (if x416001 = x408003 then ((impl_PixelAt.f x416000 x416001 x416002 x416003 (wrap64 (x408002 - 1)) (wrap64 (x408003 - 1))).bind fun t435 => ((impl_PixelAt.f x407000 x407001 x407002 x407003 (wrap64 ((wrap64 (x408000 + x408002)) - 1)) (wrap64 ((wrap64 (x408001 + x408003)) - 1))).bind fun t438 => ((laws_equalInts.f k t435 t438).bind fun t441 => (some t441)))) else (some false)) else (some false)) else (some false))) else (some false)))
def laws_FnCropImage.f (k : Nat) (l0 : List Int) : Option (Bool) := if (l0.length : Int) > 1048576 then (some true) else ((spec_DrawCropImage.f k l0).bind fun bt396 => ((impl_CropImage.f bt396.1 bt396.2.1 bt396.2.2.1 bt396.2.2.2.1 bt396.2.2.2.2.1 bt396.2.2.2.2.2.1 bt396.2.2.2.2.2.2.1 bt396.2.2.2.2.2.2.2).bind fun bt408 => ((spec_CropImage.f k bt396.1 bt396.2.1 bt396.2.2.1 bt396.2.2.2.1 bt396.2.2.2.2.1 bt396.2.2.2.2.2.1 bt396.2.2.2.2.2.2.1 bt396.2.2.2.2.2.2.2).bind fun bt416 => ((laws_equalImage.f k bt408.1 bt408.2.1 bt408.2.2.1 bt408.2.2.2.1 bt416.1 bt416.2.1 bt416.2.2.1 bt416.2.2.2.1).bind fun t424 => (if t424 = true then (if (bt408.2.2.2.2 != bt416.2.2.2.2) = true then (laws_FnCropImage.j0 k bt408.2.2.2.2 bt416.2.2.2.2 true bt396.1 bt396.2.1 bt396.2.2.1 bt396.2.2.2.1 bt396.2.2.2.2.1 bt396.2.2.2.2.2.1 bt396.2.2.2.2.2.2.1 bt396.2.2.2.2.2.2.2 bt408.1 bt408.2.1 bt408.2.2.1 bt408.2.2.2.1 bt416.1 bt416.2.1 bt416.2.2.1 bt416.2.2.2.1) else (laws_FnCropImage.j0 k bt408.2.2.2.2 bt416.2.2.2.2 (!bt408.2.2.2.2) bt396.1 bt396.2.1 bt396.2.2.1 bt396.2.2.2.1 bt396.2.2.2.2.1 bt396.2.2.2.2.2.1 bt396.2.2.2.2.2.2.1 bt396.2.2.2.2.2.2.2 bt408.1 bt408.2.1 bt408.2.2.1 bt408.2.2.2.1 bt416.1 bt416.2.1 bt416.2.2.1 bt416.2.2.2.1)) else (laws_FnCropImage.j0 k bt408.2.2.2.2 bt416.2.2.2.2 true bt396.1 bt396.2.1 bt396.2.2.1 bt396.2.2.2.1 bt396.2.2.2.2.1 bt396.2.2.2.2.2.1 bt396.2.2.2.2.2.2.1 bt396.2.2.2.2.2.2.2 bt408.1 bt408.2.1 bt408.2.2.1 bt408.2.2.2.1 bt416.1 bt416.2.1 bt416.2.2.1 bt416.2.2.2.1))))))
theorem laws_FnCropImage.mono_l : ∀ k, (∀ y0 y1 y2 y3 y4 y5 y6 y7 y8 y9 y10 y11 y12 y13 y14 y15 y16 y17 y18, LeO (laws_FnCropImage.j0 k y0 y1 y2 y3 y4 y5 y6 y7 y8 y9 y10 y11 y12 y13 y14 y15 y16 y17 y18) (laws_FnCropImage.j0 (k + 1) y0 y1 y2 y3 y4 y5 y6 y7 y8 y9 y10 y11 y12 y13 y14 y15 y16 y17 y18))
  | 0 => fun _ _ _ _ _ _ _ _ _ _ _ _ _ _ _ _ _ _ _ r h => by simp [laws_FnCropImage.j0] at h
  | k + 1 => by
    have ih0 := laws_FnCropImage.mono_l k
    · intro y0 y1 y2 y3 y4 y5 y6 y7 y8 y9 y10 y11 y12 y13 y14 y15 y16 y17 y18
      unfold laws_FnCropImage.j0
      repeat' first
      | (with_reducible exact ih0 _ _ _ _ _ _ _ _ _ _ _ _ _ _ _ _ _ _ _)
      | (with_reducible exact laws_equalImage.mono _ _ _ _ _ _ _ _ _)
      | (with_reducible exact laws_equalInts.mono _ _ _)
      | (with_reducible exact spec_CropImage.mono _ _ _ _ _ _ _ _ _)
      | (with_reducible exact spec_DrawCropImage.mono _ _)
      | (with_reducible exact LeO.refl _)
      | (with_reducible exact LeO.none _)
      | (with_reducible refine LeO.ite ?_ ?_)
      | (with_reducible refine LeO.bind ?_ (fun _ => ?_))
      | exact ih0 _ _ _ _ _ _ _ _ _ _ _ _ _ _ _ _ _ _ _
      | exact laws_equalImage.mono _ _ _ _ _ _ _ _ _
      | exact laws_equalInts.mono _ _ _
      | exact spec_CropImage.mono _ _ _ _ _ _ _ _ _
      | exact spec_DrawCropImage.mono _ _
      | exact LeO.none _
      | refine LeO.ite ?_ ?_
      | refine LeO.bind ?_ (fun _ => ?_)
theorem laws_FnCropImage.mono : ∀ a0 k, LeO (laws_FnCropImage.f k a0) (laws_FnCropImage.f (k + 1) a0) := by
  intro a0 k
  have ih0 := laws_FnCropImage.mono_l k
  unfold laws_FnCropImage.f
  repeat' first
      | (with_reducible exact ih0 _ _ _ _ _ _ _ _ _ _ _ _ _ _ _ _ _ _ _)
      | (with_reducible exact laws_equalImage.mono _ _ _ _ _ _ _ _ _)
      | (with_reducible exact laws_equalInts.mono _ _ _)
      | (with_reducible exact spec_CropImage.mono _ _ _ _ _ _ _ _ _)
      | (with_reducible exact spec_DrawCropImage.mono _ _)
      | (with_reducible exact LeO.refl _)
      | (with_reducible exact LeO.none _)
      | (with_reducible refine LeO.ite ?_ ?_)
      | (with_reducible refine LeO.bind ?_ (fun _ => ?_))
      | exact ih0 _ _ _ _ _ _ _ _ _ _ _ _ _ _ _ _ _ _ _
      | exact laws_equalImage.mono _ _ _ _ _ _ _ _ _
      | exact laws_equalInts.mono _ _ _
      | exact spec_CropImage.mono _ _ _ _ _ _ _ _ _
      | exact spec_DrawCropImage.mono _ _
      | exact LeO.none _
      | refine LeO.ite ?_ ?_
      | refine LeO.bind ?_ (fun _ => ?_)
def laws_FnCropImage.T9 : Bool × List (List Nat × List Nat) := (true, [([], []), ([0], [0]), ([1], [1]), ([1], [1]), ([2, 3, 1, 1], [1, 2, 3]), ([1, 4], [1, 4]), ([5, 4], [5]), ([6], [6]), ([7, 6], [6, 7]), ([6], [6]), ([9, 6], [6, 9]), ([8, 10, 6], [6, 8, 10]), ([6, 11], [6, 11]), ([12, 6], [12]), ([13], [13]), ([14, 13], [13, 14]), ([13], [13]), ([16, 13], [13, 16]), ([15, 17, 13], [13, 15, 17]), ([13, 18], [13, 18]), ([19, 13], [19]), ([20], [20]), ([20], [20]), ([22, 20], [20, 22]), ([23, 20], [20, 23]), ([20], [20]), ([25, 20], [20, 25]), ([26, 20], [20, 26]), ([21, 24, 27, 20, 20], [20, 21, 24, 27]), ([20], [20]), ([20], [20]), ([30, 20], [20, 30]), ([20], [20]), ([32, 20], [20, 32]), ([31, 33, 20], [20, 31, 33]), ([34, 20], [20, 34]), ([20], [20]), ([36, 20], [20, 36]), ([20], [20]), ([38, 20], [20, 38]), ([37, 39, 20], [20, 37, 39]), ([40, 20], [20, 40]), ([29, 35, 41, 28, 20], [20, 29, 35, 41]), ([28, 42, 42, 20], [20, 28, 42]), ([20, 43], [20, 43]), ([44, 43, 0, 1, 2, 3, 4, 5, 6, 7, 8, 9, 10, 11, 12, 13, 14, 15, 16, 17, 18, 19, 20, 21, 22, 23, 24, 25, 26, 27, 28, 29, 30, 31, 32, 33, 34, 35, 36, 37, 38, 39, 40, 41, 42, 43, 44], [44])])
def laws_FnCropImage.B9 : List Nat := [0, 1, 3, 3, 15, 31, 63, 127, 255, 127, 639, 2047, 4095, 8191, 16383, 32767, 16383, 81919, 262143, 524287, 1048575, 2097151, 2097151, 6291455, 14680063, 2097151, 35651583, 102760447, 268435455, 2097151, 2097151, 1075838975, 2097151, 4297064447, 16108224511, 33288093695, 2097151, 68721573887, 2097151, 274880004095, 1030794248191, 2130305875967, 4398046511103, 8796093022207, 17592186044415, 35184372088831]
theorem laws_FnCropImage.tab9 : rtab .any (opsOf Try.f4 9) = laws_FnCropImage.T9 := by kernel_rfl
theorem laws_FnCropImage.bits9 : waitsOk laws_FnCropImage.T9.2 laws_FnCropImage.B9 = true := by kernel_rfl
set_option maxHeartbeats 8000000 in
set_option maxRecDepth 100000 in
theorem laws_FnCropImage.calls (k : Nat) (A0 : Option Addr) (c0 : Nat) (l0 : List Int) (r : Bool) (w : World) (hr0 : Kd.C (Kd.int .u8) w A0 l0.length l0) (hc0 : l0.length ≤ c0) (h : laws_FnCropImage.f k l0 = some r) (ht_ : Aside0 (r = true)) :
    Calls Try.prog 4 #[.slice A0 l0.length c0] w fun e w' => e = .returned (.bool r) ∧ Below w.heap.size w w' := by
  have hu28 := Try.underlying28
  have hu32 := Try.underlying32
  have HR0 := Aside0.mk hr0
  have HC0 := Aside0.mk hc0
  clear hr0 hc0
  have HB := Aside0.mk (Below.refl w.heap.size w)
  have H : (if (l0.length : Int) > 1048576 then (some true) else ((spec_DrawCropImage.f k l0).bind fun bt396 => ((impl_CropImage.f bt396.1 bt396.2.1 bt396.2.2.1 bt396.2.2.2.1 bt396.2.2.2.2.1 bt396.2.2.2.2.2.1 bt396.2.2.2.2.2.2.1 bt396.2.2.2.2.2.2.2).bind fun bt408 => ((spec_CropImage.f k bt396.1 bt396.2.1 bt396.2.2.1 bt396.2.2.2.1 bt396.2.2.2.2.1 bt396.2.2.2.2.2.1 bt396.2.2.2.2.2.2.1 bt396.2.2.2.2.2.2.2).bind fun bt416 => ((laws_equalImage.f k bt408.1 bt408.2.1 bt408.2.2.1 bt408.2.2.2.1 bt416.1 bt416.2.1 bt416.2.2.1 bt416.2.2.2.1).bind fun t424 => (if t424 = true then (if (bt408.2.2.2.2 != bt416.2.2.2.2) = true then (laws_FnCropImage.j0 k bt408.2.2.2.2 bt416.2.2.2.2 true bt396.1 bt396.2.1 bt396.2.2.1 bt396.2.2.2.1 bt396.2.2.2.2.1 bt396.2.2.2.2.2.1 bt396.2.2.2.2.2.2.1 bt396.2.2.2.2.2.2.2 bt408.1 bt408.2.1 bt408.2.2.1 bt408.2.2.2.1 bt416.1 bt416.2.1 bt416.2.2.1 bt416.2.2.2.1) else (laws_FnCropImage.j0 k bt408.2.2.2.2 bt416.2.2.2.2 (!bt408.2.2.2.2) bt396.1 bt396.2.1 bt396.2.2.1 bt396.2.2.2.1 bt396.2.2.2.2.1 bt396.2.2.2.2.2.1 bt396.2.2.2.2.2.2.1 bt396.2.2.2.2.2.2.2 bt408.1 bt408.2.1 bt408.2.2.1 bt408.2.2.2.1 bt416.1 bt416.2.1 bt416.2.2.1 bt416.2.2.2.1)) else (laws_FnCropImage.j0 k bt408.2.2.2.2 bt416.2.2.2.2 true bt396.1 bt396.2.1 bt396.2.2.1 bt396.2.2.2.1 bt396.2.2.2.2.1 bt396.2.2.2.2.2.1 bt396.2.2.2.2.2.2.1 bt396.2.2.2.2.2.2.2 bt408.1 bt408.2.1 bt408.2.2.1 bt408.2.2.2.1 bt416.1 bt416.2.1 bt416.2.2.1 bt416.2.2.2.1))))))) = some r := h
  clear h
  by_cases c2 : (l0.length : Int) > 1048576
  · rw [if_pos c2] at H
    have c2b0 : decide (1048576 < (l0.length : Int)) = true := decide_eq_true c2
    have c2b1 : decide (1048576 < l0.length) = true := decide_eq_true (by omega)
    clear c2
    obtain rfl := Option.some.inj H
    simp only [Option.some.injEq, Prod.mk.injEq] at H
    obtain ⟨rfl⟩ := H
    go_enter Try.func4, Try.ntmps4
    go_wp2
    go_ret
    exact ⟨by first | rfl | (simp [errW_none, errW_some] <;> rfl) | (simp [*, errW_none, errW_some] <;> rfl), B.bl HB⟩
  rw [if_neg c2] at H
  have c2b0 : decide (1048576 < (l0.length : Int)) = false := decide_eq_false c2
  have c2b1 : decide (1048576 < l0.length) = false := decide_eq_false (by omega)
  clear c2
  replace H := Option.bind_eq_some_iff.mp H
  obtain ⟨⟨t396, t397, t398, t399, t402, t403, t404, t405⟩, A30, H⟩ := H
  replace H : ((impl_CropImage.f t396 t397 t398 t399 t402 t403 t404 t405).bind fun bt408 => ((spec_CropImage.f k t396 t397 t398 t399 t402 t403 t404 t405).bind fun bt416 => ((laws_equalImage.f k bt408.1 bt408.2.1 bt408.2.2.1 bt408.2.2.2.1 bt416.1 bt416.2.1 bt416.2.2.1 bt416.2.2.2.1).bind fun t424 => (if t424 = true then (if (bt408.2.2.2.2 != bt416.2.2.2.2) = true then (laws_FnCropImage.j0 k bt408.2.2.2.2 bt416.2.2.2.2 true t396 t397 t398 t399 t402 t403 t404 t405 bt408.1 bt408.2.1 bt408.2.2.1 bt408.2.2.2.1 bt416.1 bt416.2.1 bt416.2.2.1 bt416.2.2.2.1) else (laws_FnCropImage.j0 k bt408.2.2.2.2 bt416.2.2.2.2 (!bt408.2.2.2.2) t396 t397 t398 t399 t402 t403 t404 t405 bt408.1 bt408.2.1 bt408.2.2.1 bt408.2.2.2.1 bt416.1 bt416.2.1 bt416.2.2.1 bt416.2.2.2.1)) else (laws_FnCropImage.j0 k bt408.2.2.2.2 bt416.2.2.2.2 true t396 t397 t398 t399 t402 t403 t404 t405 bt408.1 bt408.2.1 bt408.2.2.1 bt408.2.2.2.1 bt416.1 bt416.2.1 bt416.2.2.1 bt416.2.2.2.1))))) = some r := H
  have A3 := Aside0.mk A30
  clear A30
  replace H := Option.bind_eq_some_iff.mp H
  obtain ⟨⟨t408, t409, t410, t411, t414⟩, A40, H⟩ := H
  replace H : ((spec_CropImage.f k t396 t397 t398 t399 t402 t403 t404 t405).bind fun bt416 => ((laws_equalImage.f k t408 t409 t410 t411 bt416.1 bt416.2.1 bt416.2.2.1 bt416.2.2.2.1).bind fun t424 => (if t424 = true then (if (t414 != bt416.2.2.2.2) = true then (laws_FnCropImage.j0 k t414 bt416.2.2.2.2 true t396 t397 t398 t399 t402 t403 t404 t405 t408 t409 t410 t411 bt416.1 bt416.2.1 bt416.2.2.1 bt416.2.2.2.1) else (laws_FnCropImage.j0 k t414 bt416.2.2.2.2 (!t414) t396 t397 t398 t399 t402 t403 t404 t405 t408 t409 t410 t411 bt416.1 bt416.2.1 bt416.2.2.1 bt416.2.2.2.1)) else (laws_FnCropImage.j0 k t414 bt416.2.2.2.2 true t396 t397 t398 t399 t402 t403 t404 t405 t408 t409 t410 t411 bt416.1 bt416.2.1 bt416.2.2.1 bt416.2.2.2.1)))) = some r := H
  have A4 := Aside0.mk A40
  clear A40
  replace H := Option.bind_eq_some_iff.mp H
  obtain ⟨⟨t416, t417, t418, t419, t422⟩, A50, H⟩ := H
  replace H : ((laws_equalImage.f k t408 t409 t410 t411 t416 t417 t418 t419).bind fun t424 => (if t424 = true then (if (t414 != t422) = true then (laws_FnCropImage.j0 k t414 t422 true t396 t397 t398 t399 t402 t403 t404 t405 t408 t409 t410 t411 t416 t417 t418 t419) else (laws_FnCropImage.j0 k t414 t422 (!t414) t396 t397 t398 t399 t402 t403 t404 t405 t408 t409 t410 t411 t416 t417 t418 t419)) else (laws_FnCropImage.j0 k t414 t422 true t396 t397 t398 t399 t402 t403 t404 t405 t408 t409 t410 t411 t416 t417 t418 t419))) = some r := H
  have A5 := Aside0.mk A50
  clear A50
  have HC6 := Aside0.mk H
  clear H
  go_enter Try.func4, Try.ntmps4
  go_upto_region 6 with (first | ((with_reducible refine gate_callee (f := 16) rfl ?_); refine goesL_ (some 16) rfl rfl Try.func16 (by kernel_rfl) rfl #[.slice A0 l0.length c0] rfl B.am ?_; (with_reducible refine (spec_DrawCropImage.calls k _ _ l0 t396 t397 t398 t399 t402 t403 t404 t405 _ ?side1 ?side2 A3.out).mono ?_); (case side1 => exact B.kc (HR0.out)); (case side2 => exact HC0.out); rintro e w7 ⟨v400, rfl, ho0, hb⟩; refine ⟨_, rfl, ?_⟩; have n0_ := Aside0.mk (Kd.Q_lower ho0 (below_size (B.bl HB))); have n1_ := Aside0.mk (below_step (B.bl HB) hb); clear HB; have HO401 := n0_; have HB := n1_; clear n0_ n1_; (try clear hb); (try clear hb2); (try clear hk); (try clear hi); (try clear ho0)) | ((with_reducible refine gate_dst (N := 3) rfl ?_); refine box_event ?hg (N := 3) ?hd (cs := #[.int .i64 0, .int .i64 0, .int .i64 0, .slice none 0 0]) (t := 28) ?hr ?_; (case hd => rfl); (case hg => rfl); (case hr => first | (go_simp; done) | (go_simp; rfl)); intro gb406 hg w8 hbox hb; have n0_ := Aside0.mk (Kd.Q_below (B.kq HO401) hb); have n1_ := Aside0.mk (below_step (B.bl HB) hb); have n2_ := Aside0.mk (hbox); have n3_ := Aside0.mk (B.nle hg (below_size (B.bl HB))); have n4_ := Aside0.mk (B.nle hg (below_size (B.bl HB))); clear HO401 HB; have HO401 := n0_; have HB := n1_; have BK406 := n2_; have GW406 := n3_; have GE406 := n4_; clear n0_ n1_ n2_ n3_ n4_; clear hb hbox hg) | ((with_reducible refine gate_dst (N := 4) rfl ?_); refine box_event ?hg (N := 4) ?hd (cs := #[.int .i64 0, .int .i64 0, .int .i64 0, .int .i64 0]) (t := 32) ?hr ?_; (case hd => rfl); (case hg => rfl); (case hr => first | (go_simp; done) | (go_simp; rfl)); intro gb407 hg w9 hbox hb; have n0_ := Aside0.mk (Kd.Q_below (B.kq HO401) hb); have n1_ := Aside0.mk (blk_below (B.kb BK406) hb); have n2_ := Aside0.mk (below_step (B.bl HB) hb); have n3_ := Aside0.mk (hbox); have n4_ := Aside0.mk (B.nle hg (below_size (B.bl HB))); have n5_ := Aside0.mk (B.nle hg (below_size (B.bl HB))); have n6_ := Aside0.mk (B.nlt hg (blk_lt (B.kb BK406))); have n7_ := Aside0.mk (B.ngt hg (blk_lt (B.kb BK406))); clear HO401 BK406 HB; have HO401 := n0_; have BK406 := n1_; have HB := n2_; have BK407 := n3_; have GW407 := n4_; have GE407 := n5_; have NB406_407 := n6_; have NB407_406 := n7_; clear n0_ n1_ n2_ n3_ n4_ n5_ n6_ n7_; clear hb hbox hg; have hnb10 := NB406_407.out; have hnc10 := NB407_406.out; have hcz11_0 : w9.cell? ⟨gb406, 0, none⟩ = some (.int .i64 0) := B.bc BK406 0; have hcz11_1 : w9.cell? ⟨gb406, 1, none⟩ = some (.int .i64 0) := B.bc BK406 1; have hcz11_2 : w9.cell? ⟨gb406, 2, none⟩ = some (.int .i64 0) := B.bc BK406 2; have hcz11_3 : w9.cell? ⟨gb406, 3, none⟩ = some (.slice none 0 0) := B.bc BK406 3; have hfz11_0 := blk_frozen BK406.out 0; have hfz11_1 := blk_frozen BK406.out 1; have hfz11_2 := blk_frozen BK406.out 2; have hfz11_3 := blk_frozen BK406.out 3; obtain ⟨Ao12, co12, eo12, _⟩ := Kd.Q_slice HO401.out; subst eo12; have hcz13_0 : w9.cell? ⟨gb407, 0, none⟩ = some (.int .i64 0) := B.bc BK407 0; have hcz13_1 : w9.cell? ⟨gb407, 1, none⟩ = some (.int .i64 0) := B.bc BK407 1; have hcz13_2 : w9.cell? ⟨gb407, 2, none⟩ = some (.int .i64 0) := B.bc BK407 2; have hcz13_3 : w9.cell? ⟨gb407, 3, none⟩ = some (.int .i64 0) := B.bc BK407 3; have hfz13_0 := blk_frozen BK407.out 0; have hfz13_1 := blk_frozen BK407.out 1; have hfz13_2 := blk_frozen BK407.out 2; have hfz13_3 := blk_frozen BK407.out 3) | ((with_reducible refine gate_callee (f := 12) rfl ?_); refine goesL_ (some 22) rfl rfl Try.func12 (by kernel_rfl) rfl #[.agg #[.int .i64 t396, .int .i64 t397, .int .i64 t398, .slice Ao12 t399.length co12], .agg #[.int .i64 t402, .int .i64 t403, .int .i64 t404, .int .i64 t405]] rfl B.am ?_; (with_reducible refine (impl_CropImage.calls t396 t397 t398 _ _ t399 t402 t403 t404 t405 t408 t409 t410 t411 t414 _ ?side1 ?side2 A4.out).mono ?_); (case side1 => refine (Kd.Q_reads' (e := 3) (base := w.heap.size) (ok := fun k_ => True) (n := t399.length) (c := co12) ?_).2.2; exact (by (with_reducible repeat (first | apply Kd.Q_alloc | apply Kd.Q_drewN | apply Kd.Q_drew)); exact (Kd.Q_mono (Kd.Q_mono (Kd.Q_far (p := ⟨gb407, 3, none⟩) (Kd.Q_far (p := ⟨gb407, 2, none⟩) (Kd.Q_far (p := ⟨gb407, 1, none⟩) (Kd.Q_far (p := ⟨gb407, 0, none⟩) (Kd.Q_far (p := ⟨gb406, 3, none⟩) (Kd.Q_far (p := ⟨gb406, 2, none⟩) (Kd.Q_far (p := ⟨gb406, 1, none⟩) (Kd.Q_far (p := ⟨gb406, 0, none⟩) (Kd.Q_types (Kd.Q_types HO401.out BK406.out (by decide)) BK407.out (by decide)) (fun _ hk => hk.1.2) (.int .i64 t396)) (fun _ hk => hk.1.2) (.int .i64 t397)) (fun _ hk => hk.1.2) (.int .i64 t398)) (fun _ hk => hk.1.2) (.slice Ao12 t399.length co12)) (fun _ hk => hk.2) (.int .i64 t402)) (fun _ hk => hk.2) (.int .i64 t403)) (fun _ hk => hk.2) (.int .i64 t404)) (fun _ hk => hk.2) (.int .i64 t405)) (fun _ h_ => h_.1)) (fun _ h_ => h_.1)))); (case side2 => exact (Kd.Q_reads' HO401.out).2.1); rintro e w14 ⟨v412, rfl, ho0, hb⟩; refine ⟨_, rfl, ?_⟩; have n0_ := Aside0.mk (Kd.Q_elder' (by (with_reducible repeat (first | apply Kd.Q_alloc | apply Kd.Q_drewN | apply Kd.Q_drew)); exact (Kd.Q_mono (Kd.Q_mono (Kd.Q_far (p := ⟨gb407, 3, none⟩) (Kd.Q_far (p := ⟨gb407, 2, none⟩) (Kd.Q_far (p := ⟨gb407, 1, none⟩) (Kd.Q_far (p := ⟨gb407, 0, none⟩) (Kd.Q_far (p := ⟨gb406, 3, none⟩) (Kd.Q_far (p := ⟨gb406, 2, none⟩) (Kd.Q_far (p := ⟨gb406, 1, none⟩) (Kd.Q_far (p := ⟨gb406, 0, none⟩) (Kd.Q_types (Kd.Q_types HO401.out BK406.out (by decide)) BK407.out (by decide)) (fun _ hk => hk.1.2) (.int .i64 t396)) (fun _ hk => hk.1.2) (.int .i64 t397)) (fun _ hk => hk.1.2) (.int .i64 t398)) (fun _ hk => hk.1.2) (.slice Ao12 t399.length co12)) (fun _ hk => hk.2) (.int .i64 t402)) (fun _ hk => hk.2) (.int .i64 t403)) (fun _ hk => hk.2) (.int .i64 t404)) (fun _ hk => hk.2) (.int .i64 t405)) (fun _ h_ => h_.1)) (fun _ h_ => h_.1))) (Kd.R_base ho0) hb); have n1_ := Aside0.mk (Kd.R_lower (Kd.R_new' ho0 (Kd.Q_lt (by (with_reducible repeat (first | apply Kd.Q_alloc | apply Kd.Q_drewN | apply Kd.Q_drew)); exact (Kd.Q_mono (Kd.Q_mono (Kd.Q_far (p := ⟨gb407, 3, none⟩) (Kd.Q_far (p := ⟨gb407, 2, none⟩) (Kd.Q_far (p := ⟨gb407, 1, none⟩) (Kd.Q_far (p := ⟨gb407, 0, none⟩) (Kd.Q_far (p := ⟨gb406, 3, none⟩) (Kd.Q_far (p := ⟨gb406, 2, none⟩) (Kd.Q_far (p := ⟨gb406, 1, none⟩) (Kd.Q_far (p := ⟨gb406, 0, none⟩) (Kd.Q_types (Kd.Q_types HO401.out BK406.out (by decide)) BK407.out (by decide)) (fun _ hk => hk.1.2) (.int .i64 t396)) (fun _ hk => hk.1.2) (.int .i64 t397)) (fun _ hk => hk.1.2) (.int .i64 t398)) (fun _ hk => hk.1.2) (.slice Ao12 t399.length co12)) (fun _ hk => hk.2) (.int .i64 t402)) (fun _ hk => hk.2) (.int .i64 t403)) (fun _ hk => hk.2) (.int .i64 t404)) (fun _ hk => hk.2) (.int .i64 t405)) (fun _ h_ => h_.1)) (fun _ h_ => h_.1))))) (below_size (B.bl HB))); have n2_ := Aside0.mk (blk_below (g := gb406) (o := .cells #[.int .i64 t396, .int .i64 t397, .int .i64 t398, .slice Ao12 t399.length co12] 28 (0, 0)) (by (with_reducible repeat (first | refine blk_drewN ?_ _ | refine blk_drew ?_ | refine blk_alloc ?_ _)); refine blk_far ?_ NB406_407.out _; (with_reducible repeat (first | refine blk_drewN ?_ _ | refine blk_drew ?_ | refine blk_alloc ?_ _)); refine blk_far ?_ NB406_407.out _; (with_reducible repeat (first | refine blk_drewN ?_ _ | refine blk_drew ?_ | refine blk_alloc ?_ _)); refine blk_far ?_ NB406_407.out _; (with_reducible repeat (first | refine blk_drewN ?_ _ | refine blk_drew ?_ | refine blk_alloc ?_ _)); refine blk_far ?_ NB406_407.out _; (with_reducible repeat (first | refine blk_drewN ?_ _ | refine blk_drew ?_ | refine blk_alloc ?_ _)); refine blk_put (cs := #[.int .i64 t396, .int .i64 t397, .int .i64 t398, .slice none 0 0]) ?_ 3 _ rfl; (with_reducible repeat (first | refine blk_drewN ?_ _ | refine blk_drew ?_ | refine blk_alloc ?_ _)); refine blk_put (cs := #[.int .i64 t396, .int .i64 t397, .int .i64 0, .slice none 0 0]) ?_ 2 _ rfl; (with_reducible repeat (first | refine blk_drewN ?_ _ | refine blk_drew ?_ | refine blk_alloc ?_ _)); refine blk_put (cs := #[.int .i64 t396, .int .i64 0, .int .i64 0, .slice none 0 0]) ?_ 1 _ rfl; (with_reducible repeat (first | refine blk_drewN ?_ _ | refine blk_drew ?_ | refine blk_alloc ?_ _)); refine blk_put (cs := #[.int .i64 0, .int .i64 0, .int .i64 0, .slice none 0 0]) ?_ 0 _ rfl; (with_reducible repeat (first | refine blk_drewN ?_ _ | refine blk_drew ?_ | refine blk_alloc ?_ _)); exact BK406.out) hb); have n3_ := Aside0.mk (blk_below (g := gb407) (o := .cells #[.int .i64 t402, .int .i64 t403, .int .i64 t404, .int .i64 t405] 32 (0, 0)) (by (with_reducible repeat (first | refine blk_drewN ?_ _ | refine blk_drew ?_ | refine blk_alloc ?_ _)); refine blk_put (cs := #[.int .i64 t402, .int .i64 t403, .int .i64 t404, .int .i64 0]) ?_ 3 _ rfl; (with_reducible repeat (first | refine blk_drewN ?_ _ | refine blk_drew ?_ | refine blk_alloc ?_ _)); refine blk_put (cs := #[.int .i64 t402, .int .i64 t403, .int .i64 0, .int .i64 0]) ?_ 2 _ rfl; (with_reducible repeat (first | refine blk_drewN ?_ _ | refine blk_drew ?_ | refine blk_alloc ?_ _)); refine blk_put (cs := #[.int .i64 t402, .int .i64 0, .int .i64 0, .int .i64 0]) ?_ 1 _ rfl; (with_reducible repeat (first | refine blk_drewN ?_ _ | refine blk_drew ?_ | refine blk_alloc ?_ _)); refine blk_put (cs := #[.int .i64 0, .int .i64 0, .int .i64 0, .int .i64 0]) ?_ 0 _ rfl; (with_reducible repeat (first | refine blk_drewN ?_ _ | refine blk_drew ?_ | refine blk_alloc ?_ _)); refine blk_far ?_ NB407_406.out _; (with_reducible repeat (first | refine blk_drewN ?_ _ | refine blk_drew ?_ | refine blk_alloc ?_ _)); refine blk_far ?_ NB407_406.out _; (with_reducible repeat (first | refine blk_drewN ?_ _ | refine blk_drew ?_ | refine blk_alloc ?_ _)); refine blk_far ?_ NB407_406.out _; (with_reducible repeat (first | refine blk_drewN ?_ _ | refine blk_drew ?_ | refine blk_alloc ?_ _)); refine blk_far ?_ NB407_406.out _; (with_reducible repeat (first | refine blk_drewN ?_ _ | refine blk_drew ?_ | refine blk_alloc ?_ _)); exact BK407.out) hb); have n4_ := Aside0.mk (below_step (B.bl HB) hb); clear HO401 BK406 BK407 HB; have HO401 := n0_; have HO413 := n1_; have BK406 := n2_; have BK407 := n3_; have HB := n4_; clear n0_ n1_ n2_ n3_ n4_; (try clear hb); (try clear hb2); (try clear hk); (try clear hi); (try clear ho0)) | ((with_reducible refine gate_dst (N := 5) rfl ?_); refine box_event ?hg (N := 5) ?hd (cs := #[.int .i64 0, .int .i64 0, .int .i64 0, .slice none 0 0]) (t := 28) ?hr ?_; (case hd => rfl); (case hg => rfl); (case hr => first | (go_simp; done) | (go_simp; rfl)); intro gb415 hg w15 hbox hb; have n0_ := Aside0.mk (Kd.Q_below (B.kq HO401) hb); have n1_ := Aside0.mk (Kd.R_below (B.kr HO413) hb); have n2_ := Aside0.mk (blk_below (B.kb BK406) hb); have n3_ := Aside0.mk (blk_below (B.kb BK407) hb); have n4_ := Aside0.mk (below_step (B.bl HB) hb); have n5_ := Aside0.mk (hbox); have n6_ := Aside0.mk (B.nle hg (below_size (B.bl HB))); have n7_ := Aside0.mk (B.nle hg (below_size (B.bl HB))); have n8_ := Aside0.mk (B.nlt hg (blk_lt (B.kb BK406))); have n9_ := Aside0.mk (B.ngt hg (blk_lt (B.kb BK406))); have n10_ := Aside0.mk (B.nlt hg (blk_lt (B.kb BK407))); have n11_ := Aside0.mk (B.ngt hg (blk_lt (B.kb BK407))); clear HO401 HO413 BK406 BK407 HB; have HO401 := n0_; have HO413 := n1_; have BK406 := n2_; have BK407 := n3_; have HB := n4_; have BK415 := n5_; have GW415 := n6_; have GE415 := n7_; have NB406_415 := n8_; have NB415_406 := n9_; have NB407_415 := n10_; have NB415_407 := n11_; clear n0_ n1_ n2_ n3_ n4_ n5_ n6_ n7_ n8_ n9_ n10_ n11_; clear hb hbox hg; have hnb16 := NB415_406.out; have hnc16 := NB406_415.out; have hnb17 := NB415_407.out; have hnc17 := NB407_415.out; have hcz18_0 : w15.cell? ⟨gb415, 0, none⟩ = some (.int .i64 0) := B.bc BK415 0; have hcz18_1 : w15.cell? ⟨gb415, 1, none⟩ = some (.int .i64 0) := B.bc BK415 1; have hcz18_2 : w15.cell? ⟨gb415, 2, none⟩ = some (.int .i64 0) := B.bc BK415 2; have hcz18_3 : w15.cell? ⟨gb415, 3, none⟩ = some (.slice none 0 0) := B.bc BK415 3; have hfz18_0 := blk_frozen BK415.out 0; have hfz18_1 := blk_frozen BK415.out 1; have hfz18_2 := blk_frozen BK415.out 2; have hfz18_3 := blk_frozen BK415.out 3; obtain ⟨Ao19, co19, eo19⟩ := Kd.R_slice HO413.out; subst eo19; have hcz20_0 : w15.cell? ⟨gb406, 0, none⟩ = some (.int .i64 t396) := B.bc BK406 0; have hcz20_1 : w15.cell? ⟨gb406, 1, none⟩ = some (.int .i64 t397) := B.bc BK406 1; have hcz20_2 : w15.cell? ⟨gb406, 2, none⟩ = some (.int .i64 t398) := B.bc BK406 2; have hcz20_3 : w15.cell? ⟨gb406, 3, none⟩ = some (.slice Ao12 t399.length co12) := B.bc BK406 3; have hfz20_0 := blk_frozen BK406.out 0; have hfz20_1 := blk_frozen BK406.out 1; have hfz20_2 := blk_frozen BK406.out 2; have hfz20_3 := blk_frozen BK406.out 3; have hcz21_0 : w15.cell? ⟨gb407, 0, none⟩ = some (.int .i64 t402) := B.bc BK407 0; have hcz21_1 : w15.cell? ⟨gb407, 1, none⟩ = some (.int .i64 t403) := B.bc BK407 1; have hcz21_2 : w15.cell? ⟨gb407, 2, none⟩ = some (.int .i64 t404) := B.bc BK407 2; have hcz21_3 : w15.cell? ⟨gb407, 3, none⟩ = some (.int .i64 t405) := B.bc BK407 3; have hfz21_0 := blk_frozen BK407.out 0; have hfz21_1 := blk_frozen BK407.out 1; have hfz21_2 := blk_frozen BK407.out 2; have hfz21_3 := blk_frozen BK407.out 3) | ((with_reducible refine gate_callee (f := 9) rfl ?_); refine goesL_ (some 28) rfl rfl Try.func9 (by kernel_rfl) rfl #[.agg #[.int .i64 t396, .int .i64 t397, .int .i64 t398, .slice Ao12 t399.length co12], .agg #[.int .i64 t402, .int .i64 t403, .int .i64 t404, .int .i64 t405]] rfl B.am ?_; (with_reducible refine (spec_CropImage.calls k t396 t397 t398 _ _ t399 t402 t403 t404 t405 t416 t417 t418 t419 t422 _ ?side1 ?side2 A5.out).mono ?_); (case side1 => refine (Kd.Q_reads' (e := 3) (base := w.heap.size) (ok := fun k_ => (True ∧ some k_ ≠ (.slice Ao19 t411.length co19 : Value).ownBlock)) (n := t399.length) (c := co12) ?_).2.2; exact (by (with_reducible repeat (first | apply Kd.Q_alloc | apply Kd.Q_drewN | apply Kd.Q_drew)); exact (Kd.Q_mono (Kd.Q_far (p := ⟨gb415, 3, none⟩) (Kd.Q_far (p := ⟨gb415, 2, none⟩) (Kd.Q_far (p := ⟨gb415, 1, none⟩) (Kd.Q_far (p := ⟨gb415, 0, none⟩) (Kd.Q_types HO401.out BK415.out (by decide)) (fun _ hk => hk.2) (.int .i64 t408)) (fun _ hk => hk.2) (.int .i64 t409)) (fun _ hk => hk.2) (.int .i64 t410)) (fun _ hk => hk.2) (.slice Ao19 t411.length co19)) (fun _ h_ => h_.1)))); (case side2 => exact (Kd.Q_reads' HO401.out).2.1); rintro e w22 ⟨v420, rfl, ho0, hb⟩; refine ⟨_, rfl, ?_⟩; have n0_ := Aside0.mk (Kd.Q_elder' (by (with_reducible repeat (first | apply Kd.Q_alloc | apply Kd.Q_drewN | apply Kd.Q_drew)); exact (Kd.Q_mono (Kd.Q_far (p := ⟨gb415, 3, none⟩) (Kd.Q_far (p := ⟨gb415, 2, none⟩) (Kd.Q_far (p := ⟨gb415, 1, none⟩) (Kd.Q_far (p := ⟨gb415, 0, none⟩) (Kd.Q_types HO401.out BK415.out (by decide)) (fun _ hk => hk.2) (.int .i64 t408)) (fun _ hk => hk.2) (.int .i64 t409)) (fun _ hk => hk.2) (.int .i64 t410)) (fun _ hk => hk.2) (.slice Ao19 t411.length co19)) (fun _ h_ => h_.1))) (Kd.R_base ho0) hb); have n1_ := Aside0.mk (Kd.R_elder' (B.kr0 (B.rs4 HO413 BK415)) (Kd.R_base ho0) hb); have n2_ := Aside0.mk (Kd.R_lower (Kd.R_new' (Kd.R_new' ho0 (Kd.Q_lt (by (with_reducible repeat (first | apply Kd.Q_alloc | apply Kd.Q_drewN | apply Kd.Q_drew)); exact (Kd.Q_mono (Kd.Q_far (p := ⟨gb415, 3, none⟩) (Kd.Q_far (p := ⟨gb415, 2, none⟩) (Kd.Q_far (p := ⟨gb415, 1, none⟩) (Kd.Q_far (p := ⟨gb415, 0, none⟩) (Kd.Q_types HO401.out BK415.out (by decide)) (fun _ hk => hk.2) (.int .i64 t408)) (fun _ hk => hk.2) (.int .i64 t409)) (fun _ hk => hk.2) (.int .i64 t410)) (fun _ hk => hk.2) (.slice Ao19 t411.length co19)) (fun _ h_ => h_.1))))) (Kd.R_lt (B.kr0 (B.rs4 HO413 BK415)))) (below_size (B.bl HB))); have n3_ := Aside0.mk (blk_below (B.kb0 (B.bf4 BK406 NB406_415)) hb); have n4_ := Aside0.mk (blk_below (B.kb0 (B.bf4 BK407 NB407_415)) hb); have n5_ := Aside0.mk (blk_below (g := gb415) (o := .cells #[.int .i64 t408, .int .i64 t409, .int .i64 t410, .slice Ao19 t411.length co19] 28 (0, 0)) (B.kb0 (B.bp4 BK415)) hb); have n6_ := Aside0.mk (below_step (B.bl HB) hb); clear HO401 HO413 BK406 BK407 BK415 HB; have HO401 := n0_; have HO413 := n1_; have HO421 := n2_; have BK406 := n3_; have BK407 := n4_; have BK415 := n5_; have HB := n6_; clear n0_ n1_ n2_ n3_ n4_ n5_ n6_; (try clear hb); (try clear hb2); (try clear hk); (try clear hi); (try clear ho0)) | ((with_reducible refine gate_dst (N := 7) rfl ?_); refine box_event ?hg (N := 7) ?hd (cs := #[.int .i64 0, .int .i64 0, .int .i64 0, .slice none 0 0]) (t := 28) ?hr ?_; (case hd => rfl); (case hg => rfl); (case hr => first | (go_simp; done) | (go_simp; rfl)); intro gb423 hg w23 hbox hb; have n0_ := Aside0.mk (Kd.Q_below (B.kq HO401) hb); have n1_ := Aside0.mk (Kd.R_below (B.kr HO413) hb); have n2_ := Aside0.mk (Kd.R_below (B.kr HO421) hb); have n3_ := Aside0.mk (blk_below (B.kb BK406) hb); have n4_ := Aside0.mk (blk_below (B.kb BK407) hb); have n5_ := Aside0.mk (blk_below (B.kb BK415) hb); have n6_ := Aside0.mk (below_step (B.bl HB) hb); have n7_ := Aside0.mk (hbox); have n8_ := Aside0.mk (B.nle hg (below_size (B.bl HB))); have n9_ := Aside0.mk (B.nle hg (below_size (B.bl HB))); have n10_ := Aside0.mk (B.nlt hg (blk_lt (B.kb BK406))); have n11_ := Aside0.mk (B.ngt hg (blk_lt (B.kb BK406))); have n12_ := Aside0.mk (B.nlt hg (blk_lt (B.kb BK407))); have n13_ := Aside0.mk (B.ngt hg (blk_lt (B.kb BK407))); have n14_ := Aside0.mk (B.nlt hg (blk_lt (B.kb BK415))); have n15_ := Aside0.mk (B.ngt hg (blk_lt (B.kb BK415))); clear HO401 HO413 HO421 BK406 BK407 BK415 HB; have HO401 := n0_; have HO413 := n1_; have HO421 := n2_; have BK406 := n3_; have BK407 := n4_; have BK415 := n5_; have HB := n6_; have BK423 := n7_; have GW423 := n8_; have GE423 := n9_; have NB406_423 := n10_; have NB423_406 := n11_; have NB407_423 := n12_; have NB423_407 := n13_; have NB415_423 := n14_; have NB423_415 := n15_; clear n0_ n1_ n2_ n3_ n4_ n5_ n6_ n7_ n8_ n9_ n10_ n11_ n12_ n13_ n14_ n15_; clear hb hbox hg; have hnb24 := NB423_406.out; have hnc24 := NB406_423.out; have hnb25 := NB423_407.out; have hnc25 := NB407_423.out; have hnb26 := NB423_415.out; have hnc26 := NB415_423.out; have hcz27_0 : w23.cell? ⟨gb423, 0, none⟩ = some (.int .i64 0) := B.bc BK423 0; have hcz27_1 : w23.cell? ⟨gb423, 1, none⟩ = some (.int .i64 0) := B.bc BK423 1; have hcz27_2 : w23.cell? ⟨gb423, 2, none⟩ = some (.int .i64 0) := B.bc BK423 2; have hcz27_3 : w23.cell? ⟨gb423, 3, none⟩ = some (.slice none 0 0) := B.bc BK423 3; have hfz27_0 := blk_frozen BK423.out 0; have hfz27_1 := blk_frozen BK423.out 1; have hfz27_2 := blk_frozen BK423.out 2; have hfz27_3 := blk_frozen BK423.out 3; obtain ⟨Ao28, co28, eo28⟩ := Kd.R_slice HO421.out; subst eo28))
  (try simp only [Act.put, List.setIfInBounds_toArray, List.set_cons_zero, List.set_cons_succ])
  go_cut [43] (fun v43 wc => ∃ (kq : Nat) (x43_5 : Bool), v43 = .bool x43_5 ∧ Aside0 (laws_FnCropImage.j0 kq t414 t422 x43_5 t396 t397 t398 t399 t402 t403 t404 t405 t408 t409 t410 t411 t416 t417 t418 t419 = some r) ∧ Aside0 (kq ≤ k) ∧ Aside0 (Kd.Q (Kd.int .i64) 3 wc w.heap.size (fun k_ => some k_ ≠ ((.slice Ao19 t411.length co19) : Value).ownBlock ∧ some k_ ≠ ((.slice Ao28 t419.length co28) : Value).ownBlock) (.slice Ao12 t399.length co12) t399) ∧ Aside0 (Kd.Q (Kd.int .i64) 3 wc w.heap.size (fun k_ => some k_ ≠ ((.slice Ao12 t399.length co12) : Value).ownBlock ∧ some k_ ≠ ((.slice Ao28 t419.length co28) : Value).ownBlock) (.slice Ao19 t411.length co19) t411) ∧ Aside0 (Kd.Q (Kd.int .i64) 3 wc w.heap.size (fun k_ => some k_ ≠ ((.slice Ao12 t399.length co12) : Value).ownBlock ∧ some k_ ≠ ((.slice Ao19 t411.length co19) : Value).ownBlock) (.slice Ao28 t419.length co28) t419) ∧ Aside0 (wc.heap[gb406]? = some (.cells #[.int .i64 t396, .int .i64 t397, .int .i64 t398, (.slice Ao12 t399.length co12)] 28 (0, 0))) ∧ Aside0 (wc.heap[gb407]? = some (.cells #[.int .i64 t402, .int .i64 t403, .int .i64 t404, .int .i64 t405] 32 (0, 0))) ∧ Aside0 (wc.heap[gb415]? = some (.cells #[.int .i64 t408, .int .i64 t409, .int .i64 t410, (.slice Ao19 t411.length co19)] 28 (0, 0))) ∧ Aside0 (wc.heap[gb423]? = some (.cells #[.int .i64 t416, .int .i64 t417, .int .i64 t418, (.slice Ao28 t419.length co28)] 28 (0, 0))) ∧ Aside0 (Below w.heap.size w wc))
  case first =>
    have H := HC6.out
    clear HC6
    replace H := Option.bind_eq_some_iff.mp H
    obtain ⟨t424, A290, H⟩ := H
    replace H : (if t424 = true then (if (t414 != t422) = true then (laws_FnCropImage.j0 k t414 t422 true t396 t397 t398 t399 t402 t403 t404 t405 t408 t409 t410 t411 t416 t417 t418 t419) else (laws_FnCropImage.j0 k t414 t422 (!t414) t396 t397 t398 t399 t402 t403 t404 t405 t408 t409 t410 t411 t416 t417 t418 t419)) else (laws_FnCropImage.j0 k t414 t422 true t396 t397 t398 t399 t402 t403 t404 t405 t408 t409 t410 t411 t416 t417 t418 t419)) = some r := H
    have A29 := Aside0.mk A290
    clear A290
    by_cases c30 : t424 = true
    · subst c30
      have H1 : (if (t414 != t422) = true then (laws_FnCropImage.j0 k t414 t422 true t396 t397 t398 t399 t402 t403 t404 t405 t408 t409 t410 t411 t416 t417 t418 t419) else (laws_FnCropImage.j0 k t414 t422 (!t414) t396 t397 t398 t399 t402 t403 t404 t405 t408 t409 t410 t411 t416 t417 t418 t419)) = some r := by rw [if_pos rfl] at H; exact H
      clear H
      have H := H1
      clear H1
      by_cases c31 : (t414 != t422) = true
      · rw [if_pos c31] at H
        have c31b0 : (t414 != t422) = true := c31
        (try (have c31b1 : decide (t414 = t422) = false := by simpa using c31))
        (try (have c31b2 : (t414 == t422) = false := by simpa using c31))
        (try (have c31b3 : ¬ (t414 = t422) := by simpa using c31))
        clear c31
        (first | rw [c31b0] | (simp only [i64_w, i32_w]; rw [c31b0]) | skip)
        have H' := Aside0.mk H
        clear H
        have hnb32 := NB415_406.out
        have hnc32 := NB406_415.out
        have hnb33 := NB415_407.out
        have hnc33 := NB407_415.out
        have hnb34 := NB415_423.out
        have hnc34 := NB423_415.out
        have hcz35_0 : w23.cell? ⟨gb415, 0, none⟩ = some (.int .i64 t408) := B.bc BK415 0
        have hcz35_1 : w23.cell? ⟨gb415, 1, none⟩ = some (.int .i64 t409) := B.bc BK415 1
        have hcz35_2 : w23.cell? ⟨gb415, 2, none⟩ = some (.int .i64 t410) := B.bc BK415 2
        have hcz35_3 : w23.cell? ⟨gb415, 3, none⟩ = some (.slice Ao19 t411.length co19) := B.bc BK415 3
        have hfz35_0 := blk_frozen BK415.out 0
        have hfz35_1 := blk_frozen BK415.out 1
        have hfz35_2 := blk_frozen BK415.out 2
        have hfz35_3 := blk_frozen BK415.out 3
        have hnb36 := NB423_406.out
        have hnc36 := NB406_423.out
        have hnb37 := NB423_407.out
        have hnc37 := NB407_423.out
        have hcz38_0 : w23.cell? ⟨gb423, 0, none⟩ = some (.int .i64 0) := B.bc BK423 0
        have hcz38_1 : w23.cell? ⟨gb423, 1, none⟩ = some (.int .i64 0) := B.bc BK423 1
        have hcz38_2 : w23.cell? ⟨gb423, 2, none⟩ = some (.int .i64 0) := B.bc BK423 2
        have hcz38_3 : w23.cell? ⟨gb423, 3, none⟩ = some (.slice none 0 0) := B.bc BK423 3
        have hfz38_0 := blk_frozen BK423.out 0
        have hfz38_1 := blk_frozen BK423.out 1
        have hfz38_2 := blk_frozen BK423.out 2
        have hfz38_3 := blk_frozen BK423.out 3
        go_wp2_with (first | ((with_reducible refine gate_callee (f := 17) rfl ?_); refine goesL_ (some 33) rfl rfl Try.func17 (by kernel_rfl) rfl #[.agg #[.int .i64 t408, .int .i64 t409, .int .i64 t410, .slice Ao19 t411.length co19], .agg #[.int .i64 t416, .int .i64 t417, .int .i64 t418, .slice Ao28 t419.length co28]] rfl B.am ?_; (with_reducible refine (laws_equalImage.calls k t408 t409 t410 _ _ t411 t416 t417 t418 _ _ t419 true _ ?side1 ?side2 ?side3 ?side4 A29.out).mono ?_); (case side1 => refine (Kd.R_reads' (e := 3) (base := w.heap.size) (ok := fun k_ => ((True ∧ some k_ ≠ (.slice Ao12 t399.length co12 : Value).ownBlock) ∧ some k_ ≠ (.slice Ao28 t419.length co28 : Value).ownBlock)) (n := t411.length) (c := co19) ?_).2.2; exact (B.kr0 (B.rs4 HO413 BK423))); (case side2 => exact (Kd.R_reads' HO413.out).2.1); (case side3 => refine (Kd.R_reads' (e := 3) (base := w.heap.size) (ok := fun k_ => ((True ∧ some k_ ≠ (.slice Ao12 t399.length co12 : Value).ownBlock) ∧ some k_ ≠ (.slice Ao19 t411.length co19 : Value).ownBlock)) (n := t419.length) (c := co28) ?_).2.2; exact (B.kr0 (B.rs4 HO421 BK423))); (case side4 => exact (Kd.R_reads' HO421.out).2.1); rintro e w39 ⟨rfl, hb⟩; refine ⟨_, rfl, ?_⟩; have n0_ := Aside0.mk (Kd.Q_below (by (with_reducible repeat (first | apply Kd.Q_alloc | apply Kd.Q_drewN | apply Kd.Q_drew)); exact (Kd.Q_mono (Kd.Q_far (p := ⟨gb423, 3, none⟩) (Kd.Q_far (p := ⟨gb423, 2, none⟩) (Kd.Q_far (p := ⟨gb423, 1, none⟩) (Kd.Q_far (p := ⟨gb423, 0, none⟩) (Kd.Q_types HO401.out BK423.out (by decide)) (fun _ hk => hk.2) (.int .i64 t416)) (fun _ hk => hk.2) (.int .i64 t417)) (fun _ hk => hk.2) (.int .i64 t418)) (fun _ hk => hk.2) (.slice Ao28 t419.length co28)) (fun _ h_ => h_.1))) hb); have n1_ := Aside0.mk (Kd.R_below (B.kr0 (B.rs4 HO413 BK423)) hb); have n2_ := Aside0.mk (Kd.R_below (B.kr0 (B.rs4 HO421 BK423)) hb); have n3_ := Aside0.mk (blk_below (B.kb0 (B.bf4 BK406 NB406_423)) hb); have n4_ := Aside0.mk (blk_below (B.kb0 (B.bf4 BK407 NB407_423)) hb); have n5_ := Aside0.mk (blk_below (B.kb0 (B.bf4 BK415 NB415_423)) hb); have n6_ := Aside0.mk (blk_below (g := gb423) (o := .cells #[.int .i64 t416, .int .i64 t417, .int .i64 t418, .slice Ao28 t419.length co28] 28 (0, 0)) (B.kb0 (B.bp4 BK423)) hb); have n7_ := Aside0.mk (below_step (B.bl HB) hb); clear HO401 HO413 HO421 BK406 BK407 BK415 BK423 HB; have HO401 := n0_; have HO413 := n1_; have HO421 := n2_; have BK406 := n3_; have BK407 := n4_; have BK415 := n5_; have BK423 := n6_; have HB := n7_; clear n0_ n1_ n2_ n3_ n4_ n5_ n6_ n7_; (try clear hb); (try clear hb2); (try clear hk); (try clear hi)))
        go_meet
        case rel => exact ⟨_, (true), (by first | rfl | (simp; done) | (simp [*]; done)), H', ⟨by first | omega | exact Nat.le_refl _⟩, ⟨by (with_reducible repeat (first | apply Kd.Q_alloc | apply Kd.Q_drewN | apply Kd.Q_drew)); exact Kd.Q_mono HO401.out (fun _ hk => ⟨hk.1.2, hk.2⟩)⟩, ⟨Kd.Q_of_R (B.kr0 (Kd.R_mono HO413.out (fun _ hk => ⟨hk.1.2, hk.2⟩)))⟩, ⟨Kd.Q_of_R (B.kr0 (Kd.R_mono HO421.out (fun _ hk => ⟨hk.1.2, hk.2⟩)))⟩, ⟨B.kb BK406⟩, ⟨B.kb BK407⟩, ⟨B.kb BK415⟩, ⟨B.kb BK423⟩, ⟨B.bl HB⟩⟩
      rw [if_neg c31] at H
      have c31b0 : (t414 != t422) = false := by simpa using c31
      (try (have c31b1 : decide (t414 = t422) = true := by simpa using c31))
      (try (have c31b2 : (t414 == t422) = true := by simpa using c31))
      clear c31
      (first | rw [c31b0] | (simp only [i64_w, i32_w]; rw [c31b0]) | skip)
      have H' := Aside0.mk H
      clear H
      have hnb40 := NB415_406.out
      have hnc40 := NB406_415.out
      have hnb41 := NB415_407.out
      have hnc41 := NB407_415.out
      have hnb42 := NB415_423.out
      have hnc42 := NB423_415.out
      have hcz43_0 : w23.cell? ⟨gb415, 0, none⟩ = some (.int .i64 t408) := B.bc BK415 0
      have hcz43_1 : w23.cell? ⟨gb415, 1, none⟩ = some (.int .i64 t409) := B.bc BK415 1
      have hcz43_2 : w23.cell? ⟨gb415, 2, none⟩ = some (.int .i64 t410) := B.bc BK415 2
      have hcz43_3 : w23.cell? ⟨gb415, 3, none⟩ = some (.slice Ao19 t411.length co19) := B.bc BK415 3
      have hfz43_0 := blk_frozen BK415.out 0
      have hfz43_1 := blk_frozen BK415.out 1
      have hfz43_2 := blk_frozen BK415.out 2
      have hfz43_3 := blk_frozen BK415.out 3
      have hnb44 := NB423_406.out
      have hnc44 := NB406_423.out
      have hnb45 := NB423_407.out
      have hnc45 := NB407_423.out
      have hcz46_0 : w23.cell? ⟨gb423, 0, none⟩ = some (.int .i64 0) := B.bc BK423 0
      have hcz46_1 : w23.cell? ⟨gb423, 1, none⟩ = some (.int .i64 0) := B.bc BK423 1
      have hcz46_2 : w23.cell? ⟨gb423, 2, none⟩ = some (.int .i64 0) := B.bc BK423 2
      have hcz46_3 : w23.cell? ⟨gb423, 3, none⟩ = some (.slice none 0 0) := B.bc BK423 3
      have hfz46_0 := blk_frozen BK423.out 0
      have hfz46_1 := blk_frozen BK423.out 1
      have hfz46_2 := blk_frozen BK423.out 2
      have hfz46_3 := blk_frozen BK423.out 3
      go_wp2_with (first | ((with_reducible refine gate_callee (f := 17) rfl ?_); refine goesL_ (some 33) rfl rfl Try.func17 (by kernel_rfl) rfl #[.agg #[.int .i64 t408, .int .i64 t409, .int .i64 t410, .slice Ao19 t411.length co19], .agg #[.int .i64 t416, .int .i64 t417, .int .i64 t418, .slice Ao28 t419.length co28]] rfl B.am ?_; (with_reducible refine (laws_equalImage.calls k t408 t409 t410 _ _ t411 t416 t417 t418 _ _ t419 true _ ?side1 ?side2 ?side3 ?side4 A29.out).mono ?_); (case side1 => refine (Kd.R_reads' (e := 3) (base := w.heap.size) (ok := fun k_ => ((True ∧ some k_ ≠ (.slice Ao12 t399.length co12 : Value).ownBlock) ∧ some k_ ≠ (.slice Ao28 t419.length co28 : Value).ownBlock)) (n := t411.length) (c := co19) ?_).2.2; exact (B.kr0 (B.rs4 HO413 BK423))); (case side2 => exact (Kd.R_reads' HO413.out).2.1); (case side3 => refine (Kd.R_reads' (e := 3) (base := w.heap.size) (ok := fun k_ => ((True ∧ some k_ ≠ (.slice Ao12 t399.length co12 : Value).ownBlock) ∧ some k_ ≠ (.slice Ao19 t411.length co19 : Value).ownBlock)) (n := t419.length) (c := co28) ?_).2.2; exact (B.kr0 (B.rs4 HO421 BK423))); (case side4 => exact (Kd.R_reads' HO421.out).2.1); rintro e w47 ⟨rfl, hb⟩; refine ⟨_, rfl, ?_⟩; have n0_ := Aside0.mk (Kd.Q_below (by (with_reducible repeat (first | apply Kd.Q_alloc | apply Kd.Q_drewN | apply Kd.Q_drew)); exact (Kd.Q_mono (Kd.Q_far (p := ⟨gb423, 3, none⟩) (Kd.Q_far (p := ⟨gb423, 2, none⟩) (Kd.Q_far (p := ⟨gb423, 1, none⟩) (Kd.Q_far (p := ⟨gb423, 0, none⟩) (Kd.Q_types HO401.out BK423.out (by decide)) (fun _ hk => hk.2) (.int .i64 t416)) (fun _ hk => hk.2) (.int .i64 t417)) (fun _ hk => hk.2) (.int .i64 t418)) (fun _ hk => hk.2) (.slice Ao28 t419.length co28)) (fun _ h_ => h_.1))) hb); have n1_ := Aside0.mk (Kd.R_below (B.kr0 (B.rs4 HO413 BK423)) hb); have n2_ := Aside0.mk (Kd.R_below (B.kr0 (B.rs4 HO421 BK423)) hb); have n3_ := Aside0.mk (blk_below (B.kb0 (B.bf4 BK406 NB406_423)) hb); have n4_ := Aside0.mk (blk_below (B.kb0 (B.bf4 BK407 NB407_423)) hb); have n5_ := Aside0.mk (blk_below (B.kb0 (B.bf4 BK415 NB415_423)) hb); have n6_ := Aside0.mk (blk_below (g := gb423) (o := .cells #[.int .i64 t416, .int .i64 t417, .int .i64 t418, .slice Ao28 t419.length co28] 28 (0, 0)) (B.kb0 (B.bp4 BK423)) hb); have n7_ := Aside0.mk (below_step (B.bl HB) hb); clear HO401 HO413 HO421 BK406 BK407 BK415 BK423 HB; have HO401 := n0_; have HO413 := n1_; have HO421 := n2_; have BK406 := n3_; have BK407 := n4_; have BK415 := n5_; have BK423 := n6_; have HB := n7_; clear n0_ n1_ n2_ n3_ n4_ n5_ n6_ n7_; (try clear hb); (try clear hb2); (try clear hk); (try clear hi)))
      go_meet
      case rel => exact ⟨_, (!t414), (by first | rfl | (simp; done) | (simp [*]; done)), H', ⟨by first | omega | exact Nat.le_refl _⟩, ⟨by (with_reducible repeat (first | apply Kd.Q_alloc | apply Kd.Q_drewN | apply Kd.Q_drew)); exact Kd.Q_mono HO401.out (fun _ hk => ⟨hk.1.2, hk.2⟩)⟩, ⟨Kd.Q_of_R (B.kr0 (Kd.R_mono HO413.out (fun _ hk => ⟨hk.1.2, hk.2⟩)))⟩, ⟨Kd.Q_of_R (B.kr0 (Kd.R_mono HO421.out (fun _ hk => ⟨hk.1.2, hk.2⟩)))⟩, ⟨B.kb BK406⟩, ⟨B.kb BK407⟩, ⟨B.kb BK415⟩, ⟨B.kb BK423⟩, ⟨B.bl HB⟩⟩
    replace c30 := Bool.eq_false_iff.mpr c30
    subst c30
    have H1 : (laws_FnCropImage.j0 k t414 t422 true t396 t397 t398 t399 t402 t403 t404 t405 t408 t409 t410 t411 t416 t417 t418 t419) = some r := by rw [if_neg (show ¬ (false = true) by decide)] at H; exact H
    clear H
    have H := H1
    clear H1
    have H' := Aside0.mk H
    clear H
    have hnb48 := NB415_406.out
    have hnc48 := NB406_415.out
    have hnb49 := NB415_407.out
    have hnc49 := NB407_415.out
    have hnb50 := NB415_423.out
    have hnc50 := NB423_415.out
    have hcz51_0 : w23.cell? ⟨gb415, 0, none⟩ = some (.int .i64 t408) := B.bc BK415 0
    have hcz51_1 : w23.cell? ⟨gb415, 1, none⟩ = some (.int .i64 t409) := B.bc BK415 1
    have hcz51_2 : w23.cell? ⟨gb415, 2, none⟩ = some (.int .i64 t410) := B.bc BK415 2
    have hcz51_3 : w23.cell? ⟨gb415, 3, none⟩ = some (.slice Ao19 t411.length co19) := B.bc BK415 3
    have hfz51_0 := blk_frozen BK415.out 0
    have hfz51_1 := blk_frozen BK415.out 1
    have hfz51_2 := blk_frozen BK415.out 2
    have hfz51_3 := blk_frozen BK415.out 3
    have hnb52 := NB423_406.out
    have hnc52 := NB406_423.out
    have hnb53 := NB423_407.out
    have hnc53 := NB407_423.out
    have hcz54_0 : w23.cell? ⟨gb423, 0, none⟩ = some (.int .i64 0) := B.bc BK423 0
    have hcz54_1 : w23.cell? ⟨gb423, 1, none⟩ = some (.int .i64 0) := B.bc BK423 1
    have hcz54_2 : w23.cell? ⟨gb423, 2, none⟩ = some (.int .i64 0) := B.bc BK423 2
    have hcz54_3 : w23.cell? ⟨gb423, 3, none⟩ = some (.slice none 0 0) := B.bc BK423 3
    have hfz54_0 := blk_frozen BK423.out 0
    have hfz54_1 := blk_frozen BK423.out 1
    have hfz54_2 := blk_frozen BK423.out 2
    have hfz54_3 := blk_frozen BK423.out 3
    go_wp2_with (first | ((with_reducible refine gate_callee (f := 17) rfl ?_); refine goesL_ (some 33) rfl rfl Try.func17 (by kernel_rfl) rfl #[.agg #[.int .i64 t408, .int .i64 t409, .int .i64 t410, .slice Ao19 t411.length co19], .agg #[.int .i64 t416, .int .i64 t417, .int .i64 t418, .slice Ao28 t419.length co28]] rfl B.am ?_; (with_reducible refine (laws_equalImage.calls k t408 t409 t410 _ _ t411 t416 t417 t418 _ _ t419 false _ ?side1 ?side2 ?side3 ?side4 A29.out).mono ?_); (case side1 => refine (Kd.R_reads' (e := 3) (base := w.heap.size) (ok := fun k_ => ((True ∧ some k_ ≠ (.slice Ao12 t399.length co12 : Value).ownBlock) ∧ some k_ ≠ (.slice Ao28 t419.length co28 : Value).ownBlock)) (n := t411.length) (c := co19) ?_).2.2; exact (B.kr0 (B.rs4 HO413 BK423))); (case side2 => exact (Kd.R_reads' HO413.out).2.1); (case side3 => refine (Kd.R_reads' (e := 3) (base := w.heap.size) (ok := fun k_ => ((True ∧ some k_ ≠ (.slice Ao12 t399.length co12 : Value).ownBlock) ∧ some k_ ≠ (.slice Ao19 t411.length co19 : Value).ownBlock)) (n := t419.length) (c := co28) ?_).2.2; exact (B.kr0 (B.rs4 HO421 BK423))); (case side4 => exact (Kd.R_reads' HO421.out).2.1); rintro e w55 ⟨rfl, hb⟩; refine ⟨_, rfl, ?_⟩; have n0_ := Aside0.mk (Kd.Q_below (by (with_reducible repeat (first | apply Kd.Q_alloc | apply Kd.Q_drewN | apply Kd.Q_drew)); exact (Kd.Q_mono (Kd.Q_far (p := ⟨gb423, 3, none⟩) (Kd.Q_far (p := ⟨gb423, 2, none⟩) (Kd.Q_far (p := ⟨gb423, 1, none⟩) (Kd.Q_far (p := ⟨gb423, 0, none⟩) (Kd.Q_types HO401.out BK423.out (by decide)) (fun _ hk => hk.2) (.int .i64 t416)) (fun _ hk => hk.2) (.int .i64 t417)) (fun _ hk => hk.2) (.int .i64 t418)) (fun _ hk => hk.2) (.slice Ao28 t419.length co28)) (fun _ h_ => h_.1))) hb); have n1_ := Aside0.mk (Kd.R_below (B.kr0 (B.rs4 HO413 BK423)) hb); have n2_ := Aside0.mk (Kd.R_below (B.kr0 (B.rs4 HO421 BK423)) hb); have n3_ := Aside0.mk (blk_below (B.kb0 (B.bf4 BK406 NB406_423)) hb); have n4_ := Aside0.mk (blk_below (B.kb0 (B.bf4 BK407 NB407_423)) hb); have n5_ := Aside0.mk (blk_below (B.kb0 (B.bf4 BK415 NB415_423)) hb); have n6_ := Aside0.mk (blk_below (g := gb423) (o := .cells #[.int .i64 t416, .int .i64 t417, .int .i64 t418, .slice Ao28 t419.length co28] 28 (0, 0)) (B.kb0 (B.bp4 BK423)) hb); have n7_ := Aside0.mk (below_step (B.bl HB) hb); clear HO401 HO413 HO421 BK406 BK407 BK415 BK423 HB; have HO401 := n0_; have HO413 := n1_; have HO421 := n2_; have BK406 := n3_; have BK407 := n4_; have BK415 := n5_; have BK423 := n6_; have HB := n7_; clear n0_ n1_ n2_ n3_ n4_ n5_ n6_ n7_; (try clear hb); (try clear hb2); (try clear hk); (try clear hi)))
    go_meet
    case rel => exact ⟨_, (true), (by first | rfl | (simp; done) | (simp [*]; done)), H', ⟨by first | omega | exact Nat.le_refl _⟩, ⟨by (with_reducible repeat (first | apply Kd.Q_alloc | apply Kd.Q_drewN | apply Kd.Q_drew)); exact Kd.Q_mono HO401.out (fun _ hk => ⟨hk.1.2, hk.2⟩)⟩, ⟨Kd.Q_of_R (B.kr0 (Kd.R_mono HO413.out (fun _ hk => ⟨hk.1.2, hk.2⟩)))⟩, ⟨Kd.Q_of_R (B.kr0 (Kd.R_mono HO421.out (fun _ hk => ⟨hk.1.2, hk.2⟩)))⟩, ⟨B.kb BK406⟩, ⟨B.kb BK407⟩, ⟨B.kb BK415⟩, ⟨B.kb BK423⟩, ⟨B.bl HB⟩⟩
  case rest =>
    clear HC6
    try clear c1
    try clear c2
    try clear c2b0
    try clear c2b1
    try clear p2
    try clear c3
    try clear c4
    try clear c5
    try clear c9
    try clear c10
    try clear c12
    try clear c16
    try clear c17
    try clear c24
    try clear c25
    try clear c26
    try clear c30
    try clear c31
    try clear c31b0
    try clear c31b1
    try clear c31b2
    try clear c32
    try clear c33
    try clear c34
    try clear c36
    try clear c37
    try clear c40
    try clear c41
    try clear c42
    try clear c44
    try clear c45
    try clear c48
    try clear c49
    try clear c50
    try clear c52
    try clear c53
    try clear hcz11_0
    try clear hcz11_1
    try clear hcz11_2
    try clear hcz11_3
    try clear hcz13_0
    try clear hcz13_1
    try clear hcz13_2
    try clear hcz13_3
    try clear hcz18_0
    try clear hcz18_1
    try clear hcz18_2
    try clear hcz18_3
    try clear hcz20_0
    try clear hcz20_1
    try clear hcz20_2
    try clear hcz20_3
    try clear hcz21_0
    try clear hcz21_1
    try clear hcz21_2
    try clear hcz21_3
    try clear hcz27_0
    try clear hcz27_1
    try clear hcz27_2
    try clear hcz27_3
    try clear hcz35_0
    try clear hcz35_1
    try clear hcz35_2
    try clear hcz35_3
    try clear hcz38_0
    try clear hcz38_1
    try clear hcz38_2
    try clear hcz38_3
    try clear hcz43_0
    try clear hcz43_1
    try clear hcz43_2
    try clear hcz43_3
    try clear hcz46_0
    try clear hcz46_1
    try clear hcz46_2
    try clear hcz46_3
    try clear hcz51_0
    try clear hcz51_1
    try clear hcz51_2
    try clear hcz51_3
    try clear hcz54_0
    try clear hcz54_1
    try clear hcz54_2
    try clear hcz54_3
    try clear hfz11_0
    try clear hfz11_1
    try clear hfz11_2
    try clear hfz11_3
    try clear hfz13_0
    try clear hfz13_1
    try clear hfz13_2
    try clear hfz13_3
    try clear hfz18_0
    try clear hfz18_1
    try clear hfz18_2
    try clear hfz18_3
    try clear hfz20_0
    try clear hfz20_1
    try clear hfz20_2
    try clear hfz20_3
    try clear hfz21_0
    try clear hfz21_1
    try clear hfz21_2
    try clear hfz21_3
    try clear hfz27_0
    try clear hfz27_1
    try clear hfz27_2
    try clear hfz27_3
    try clear hfz35_0
    try clear hfz35_1
    try clear hfz35_2
    try clear hfz35_3
    try clear hfz38_0
    try clear hfz38_1
    try clear hfz38_2
    try clear hfz38_3
    try clear hfz43_0
    try clear hfz43_1
    try clear hfz43_2
    try clear hfz43_3
    try clear hfz46_0
    try clear hfz46_1
    try clear hfz46_2
    try clear hfz46_3
    try clear hfz51_0
    try clear hfz51_1
    try clear hfz51_2
    try clear hfz51_3
    try clear hfz54_0
    try clear hfz54_1
    try clear hfz54_2
    try clear hfz54_3
    obtain ⟨kq, x43_5, rfl, HA, HJ5, HO_407003, HO_416003, HO_424003, BK406, BK407, BK415, BK423, HB⟩ := hcut
    cases kq with
    | zero => exact absurd HA.out (by simp [laws_FnCropImage.j0])
    | succ kj5 =>
      have H := HA.out
      clear HA
      simp only [laws_FnCropImage.j0] at H
      by_cases c56 : x43_5 = true
      · subst c56
        have H1 : ((laws_equalImage.f kj5 t408 t409 t410 t411 t416 t417 t418 t419).bind fun t425 => (if t425 = true then (some (t414 == t422)) else (some false))) = some r := by rw [if_pos rfl] at H; exact H
        clear H
        have H := H1
        clear H1
        replace H := Option.bind_eq_some_iff.mp H
        obtain ⟨t425, A570, H⟩ := H
        replace H : (if t425 = true then (some (t414 == t422)) else (some false)) = some r := H
        have A57 := Aside0.mk A570
        clear A570
        by_cases c58 : t425 = true
        · subst c58
          have H1 : (some (t414 == t422)) = some r := by rw [if_pos rfl] at H; exact H
          clear H
          have H := H1
          clear H1
          obtain rfl := Option.some.inj H
          simp only [Option.some.injEq, Prod.mk.injEq] at H
          obtain ⟨rfl⟩ := H
          have hnb59 := NB415_406.out
          have hnc59 := NB406_415.out
          have hnb60 := NB415_407.out
          have hnc60 := NB407_415.out
          have hnb61 := NB415_423.out
          have hnc61 := NB423_415.out
          have hcz62_0 : wc.cell? ⟨gb415, 0, none⟩ = some (.int .i64 t408) := B.bc BK415 0
          have hcz62_1 : wc.cell? ⟨gb415, 1, none⟩ = some (.int .i64 t409) := B.bc BK415 1
          have hcz62_2 : wc.cell? ⟨gb415, 2, none⟩ = some (.int .i64 t410) := B.bc BK415 2
          have hcz62_3 : wc.cell? ⟨gb415, 3, none⟩ = some (.slice Ao19 t411.length co19) := B.bc BK415 3
          have hfz62_0 := blk_frozen BK415.out 0
          have hfz62_1 := blk_frozen BK415.out 1
          have hfz62_2 := blk_frozen BK415.out 2
          have hfz62_3 := blk_frozen BK415.out 3
          have hnb63 := NB423_406.out
          have hnc63 := NB406_423.out
          have hnb64 := NB423_407.out
          have hnc64 := NB407_423.out
          have hcz65_0 : wc.cell? ⟨gb423, 0, none⟩ = some (.int .i64 t416) := B.bc BK423 0
          have hcz65_1 : wc.cell? ⟨gb423, 1, none⟩ = some (.int .i64 t417) := B.bc BK423 1
          have hcz65_2 : wc.cell? ⟨gb423, 2, none⟩ = some (.int .i64 t418) := B.bc BK423 2
          have hcz65_3 : wc.cell? ⟨gb423, 3, none⟩ = some (.slice Ao28 t419.length co28) := B.bc BK423 3
          have hfz65_0 := blk_frozen BK423.out 0
          have hfz65_1 := blk_frozen BK423.out 1
          have hfz65_2 := blk_frozen BK423.out 2
          have hfz65_3 := blk_frozen BK423.out 3
          go_wp2_with (first | ((with_reducible refine gate_callee (f := 17) rfl ?_); refine goesL_ (some 46) rfl rfl Try.func17 (by kernel_rfl) rfl #[.agg #[.int .i64 t408, .int .i64 t409, .int .i64 t410, .slice Ao19 t411.length co19], .agg #[.int .i64 t416, .int .i64 t417, .int .i64 t418, .slice Ao28 t419.length co28]] rfl B.am ?_; (with_reducible refine (laws_equalImage.calls kj5 t408 t409 t410 _ _ t411 t416 t417 t418 _ _ t419 true _ ?side1 ?side2 ?side3 ?side4 A57.out).mono ?_); (case side1 => exact B.kc ((Kd.Q_reads' HO_416003.out).2.2)); (case side2 => exact (Kd.Q_reads' HO_416003.out).2.1); (case side3 => exact B.kc ((Kd.Q_reads' HO_424003.out).2.2)); (case side4 => exact (Kd.Q_reads' HO_424003.out).2.1); rintro e w66 ⟨rfl, hb⟩; refine ⟨_, rfl, ?_⟩; have n0_ := Aside0.mk (Kd.Q_below (B.kq HO_407003) hb); have n1_ := Aside0.mk (Kd.Q_below (B.kq HO_416003) hb); have n2_ := Aside0.mk (Kd.Q_below (B.kq HO_424003) hb); have n3_ := Aside0.mk (blk_below (B.kb BK406) hb); have n4_ := Aside0.mk (blk_below (B.kb BK407) hb); have n5_ := Aside0.mk (blk_below (B.kb BK415) hb); have n6_ := Aside0.mk (blk_below (B.kb BK423) hb); have n7_ := Aside0.mk (below_step (B.bl HB) hb); clear HO_407003 HO_416003 HO_424003 BK406 BK407 BK415 BK423 HB; have HO_407003 := n0_; have HO_416003 := n1_; have HO_424003 := n2_; have BK406 := n3_; have BK407 := n4_; have BK415 := n5_; have BK423 := n6_; have HB := n7_; clear n0_ n1_ n2_ n3_ n4_ n5_ n6_ n7_; (try clear hb); (try clear hb2); (try clear hk); (try clear hi)))
          go_ret
          exact ⟨by first | rfl | (simp [errW_none, errW_some] <;> rfl) | (simp [*, errW_none, errW_some] <;> rfl), B.bl HB⟩
        replace c58 := Bool.eq_false_iff.mpr c58
        subst c58
        have H1 : (some false) = some r := by rw [if_neg (show ¬ (false = true) by decide)] at H; exact H
        clear H
        have H := H1
        clear H1
        obtain rfl := Option.some.inj H
        exact absurd ht_.out (by decide)
      replace c56 := Bool.eq_false_iff.mpr c56
      subst c56
      have H1 : ((impl_PasteImage.f t396 t397 t398 t399 t402 t403 t408 t409 t410 t411).bind fun bt426 => (if bt426.2.2.2.2 = true then ((laws_equalImage.f kj5 bt426.1 bt426.2.1 bt426.2.2.1 bt426.2.2.2.1 t396 t397 t398 t399).bind fun t434 => (if t434 = true then (if t408 = t404 then (if t409 = t405 then ((impl_PixelAt.f t408 t409 t410 t411 (wrap64 (t404 - 1)) (wrap64 (t405 - 1))).bind fun t435 => ((impl_PixelAt.f t396 t397 t398 t399 (wrap64 ((wrap64 (t402 + t404)) - 1)) (wrap64 ((wrap64 (t403 + t405)) - 1))).bind fun t438 => ((laws_equalInts.f kj5 t435 t438).bind fun t441 => (some t441)))) else (some false)) else (some false)) else (some false))) else (some false))) = some r := by rw [if_neg (show ¬ (false = true) by decide)] at H; exact H
      clear H
      have H := H1
      clear H1
      replace H := Option.bind_eq_some_iff.mp H
      obtain ⟨⟨t426, t427, t428, t429, t432⟩, A670, H⟩ := H
      replace H : (if t432 = true then ((laws_equalImage.f kj5 t426 t427 t428 t429 t396 t397 t398 t399).bind fun t434 => (if t434 = true then (if t408 = t404 then (if t409 = t405 then ((impl_PixelAt.f t408 t409 t410 t411 (wrap64 (t404 - 1)) (wrap64 (t405 - 1))).bind fun t435 => ((impl_PixelAt.f t396 t397 t398 t399 (wrap64 ((wrap64 (t402 + t404)) - 1)) (wrap64 ((wrap64 (t403 + t405)) - 1))).bind fun t438 => ((laws_equalInts.f kj5 t435 t438).bind fun t441 => (some t441)))) else (some false)) else (some false)) else (some false))) else (some false)) = some r := H
      have A67 := Aside0.mk A670
      clear A670
      by_cases c68 : t432 = true
      · subst c68
        have H1 : ((laws_equalImage.f kj5 t426 t427 t428 t429 t396 t397 t398 t399).bind fun t434 => (if t434 = true then (if t408 = t404 then (if t409 = t405 then ((impl_PixelAt.f t408 t409 t410 t411 (wrap64 (t404 - 1)) (wrap64 (t405 - 1))).bind fun t435 => ((impl_PixelAt.f t396 t397 t398 t399 (wrap64 ((wrap64 (t402 + t404)) - 1)) (wrap64 ((wrap64 (t403 + t405)) - 1))).bind fun t438 => ((laws_equalInts.f kj5 t435 t438).bind fun t441 => (some t441)))) else (some false)) else (some false)) else (some false))) = some r := by rw [if_pos rfl] at H; exact H
        clear H
        have H := H1
        clear H1
        replace H := Option.bind_eq_some_iff.mp H
        obtain ⟨t434, A690, H⟩ := H
        replace H : (if t434 = true then (if t408 = t404 then (if t409 = t405 then ((impl_PixelAt.f t408 t409 t410 t411 (wrap64 (t404 - 1)) (wrap64 (t405 - 1))).bind fun t435 => ((impl_PixelAt.f t396 t397 t398 t399 (wrap64 ((wrap64 (t402 + t404)) - 1)) (wrap64 ((wrap64 (t403 + t405)) - 1))).bind fun t438 => ((laws_equalInts.f kj5 t435 t438).bind fun t441 => (some t441)))) else (some false)) else (some false)) else (some false)) = some r := H
        have A69 := Aside0.mk A690
        clear A690
        by_cases c70 : t434 = true
        · subst c70
          have H1 : (if t408 = t404 then (if t409 = t405 then ((impl_PixelAt.f t408 t409 t410 t411 (wrap64 (t404 - 1)) (wrap64 (t405 - 1))).bind fun t435 => ((impl_PixelAt.f t396 t397 t398 t399 (wrap64 ((wrap64 (t402 + t404)) - 1)) (wrap64 ((wrap64 (t403 + t405)) - 1))).bind fun t438 => ((laws_equalInts.f kj5 t435 t438).bind fun t441 => (some t441)))) else (some false)) else (some false)) = some r := by rw [if_pos rfl] at H; exact H
          clear H
          have H := H1
          clear H1
          by_cases c71 : t408 = t404
          · rw [if_pos c71] at H
            have c71b0 : (t408 == t404) = true := beq_iff_eq.mpr c71
            have c71b1 : (t408 != t404) = false := bne_eq_false_iff_eq.mpr c71
            clear c71
            by_cases c72 : t409 = t405
            · rw [if_pos c72] at H
              have c72b0 : (t409 == t405) = true := beq_iff_eq.mpr c72
              have c72b1 : (t409 != t405) = false := bne_eq_false_iff_eq.mpr c72
              clear c72
              replace H := Option.bind_eq_some_iff.mp H
              obtain ⟨t435, A730, H⟩ := H
              replace H : ((impl_PixelAt.f t396 t397 t398 t399 (wrap64 ((wrap64 (t402 + t404)) - 1)) (wrap64 ((wrap64 (t403 + t405)) - 1))).bind fun t438 => ((laws_equalInts.f kj5 t435 t438).bind fun t441 => (some t441))) = some r := H
              have A73 := Aside0.mk A730
              clear A730
              replace H := Option.bind_eq_some_iff.mp H
              obtain ⟨t438, A740, H⟩ := H
              replace H : ((laws_equalInts.f kj5 t435 t438).bind fun t441 => (some t441)) = some r := H
              have A74 := Aside0.mk A740
              clear A740
              replace H := Option.bind_eq_some_iff.mp H
              obtain ⟨t441, A750, H⟩ := H
              replace H : (some t441) = some r := H
              have A75 := Aside0.mk A750
              clear A750
              obtain rfl := Option.some.inj H
              simp only [Option.some.injEq, Prod.mk.injEq] at H
              obtain ⟨rfl⟩ := H
              have hnb76 := NB406_407.out
              have hnc76 := NB407_406.out
              have hnb77 := NB406_415.out
              have hnc77 := NB415_406.out
              have hnb78 := NB406_423.out
              have hnc78 := NB423_406.out
              have hcz79_0 : wc.cell? ⟨gb406, 0, none⟩ = some (.int .i64 t396) := B.bc BK406 0
              have hcz79_1 : wc.cell? ⟨gb406, 1, none⟩ = some (.int .i64 t397) := B.bc BK406 1
              have hcz79_2 : wc.cell? ⟨gb406, 2, none⟩ = some (.int .i64 t398) := B.bc BK406 2
              have hcz79_3 : wc.cell? ⟨gb406, 3, none⟩ = some (.slice Ao12 t399.length co12) := B.bc BK406 3
              have hfz79_0 := blk_frozen BK406.out 0
              have hfz79_1 := blk_frozen BK406.out 1
              have hfz79_2 := blk_frozen BK406.out 2
              have hfz79_3 := blk_frozen BK406.out 3
              have hnb80 := NB407_415.out
              have hnc80 := NB415_407.out
              have hnb81 := NB407_423.out
              have hnc81 := NB423_407.out
              have hcz82_0 : wc.cell? ⟨gb407, 0, none⟩ = some (.int .i64 t402) := B.bc BK407 0
              have hcz82_1 : wc.cell? ⟨gb407, 1, none⟩ = some (.int .i64 t403) := B.bc BK407 1
              have hcz82_2 : wc.cell? ⟨gb407, 2, none⟩ = some (.int .i64 t404) := B.bc BK407 2
              have hcz82_3 : wc.cell? ⟨gb407, 3, none⟩ = some (.int .i64 t405) := B.bc BK407 3
              have hfz82_0 := blk_frozen BK407.out 0
              have hfz82_1 := blk_frozen BK407.out 1
              have hfz82_2 := blk_frozen BK407.out 2
              have hfz82_3 := blk_frozen BK407.out 3
              have hnb83 := NB415_423.out
              have hnc83 := NB423_415.out
              have hcz84_0 : wc.cell? ⟨gb415, 0, none⟩ = some (.int .i64 t408) := B.bc BK415 0
              have hcz84_1 : wc.cell? ⟨gb415, 1, none⟩ = some (.int .i64 t409) := B.bc BK415 1
              have hcz84_2 : wc.cell? ⟨gb415, 2, none⟩ = some (.int .i64 t410) := B.bc BK415 2
              have hcz84_3 : wc.cell? ⟨gb415, 3, none⟩ = some (.slice Ao19 t411.length co19) := B.bc BK415 3
              have hfz84_0 := blk_frozen BK415.out 0
              have hfz84_1 := blk_frozen BK415.out 1
              have hfz84_2 := blk_frozen BK415.out 2
              have hfz84_3 := blk_frozen BK415.out 3
              try go_wp2_with (first | ((with_reducible refine gate_callee (f := 18) rfl ?_); refine goesL_ (some 59) rfl rfl Try.func18 (by kernel_rfl) rfl #[.agg #[.int .i64 t396, .int .i64 t397, .int .i64 t398, .slice Ao12 t399.length co12], .int .i64 t402, .int .i64 t403, .agg #[.int .i64 t408, .int .i64 t409, .int .i64 t410, .slice Ao19 t411.length co19]] rfl B.am ?_; (with_reducible refine (impl_PasteImage.calls t396 t397 t398 _ _ t399 t402 t403 t408 t409 t410 _ _ t411 t426 t427 t428 t429 true _ ?side1 ?side2 ?side3 ?side4 A67.out).mono ?_); (case side1 => exact B.kc ((Kd.Q_reads' HO_407003.out).2.2)); (case side2 => exact (Kd.Q_reads' HO_407003.out).2.1); (case side3 => exact B.kc ((Kd.Q_reads' HO_416003.out).2.2)); (case side4 => exact (Kd.Q_reads' HO_416003.out).2.1); rintro e w85 ⟨v430, rfl, ho0, hb⟩; refine ⟨_, rfl, ?_⟩; have n0_ := Aside0.mk (Kd.Q_elder' (B.kq HO_407003) (Kd.R_base ho0) hb); have n1_ := Aside0.mk (Kd.Q_elder' (B.kq HO_416003) (Kd.R_base ho0) hb); have n2_ := Aside0.mk (Kd.Q_elder' (B.kq HO_424003) (Kd.R_base ho0) hb); have n3_ := Aside0.mk (Kd.R_lower (Kd.R_new' (Kd.R_new' (Kd.R_new' ho0 (Kd.Q_lt (B.kq HO_407003))) (Kd.Q_lt (B.kq HO_416003))) (Kd.Q_lt (B.kq HO_424003))) (below_size (B.bl HB))); have n4_ := Aside0.mk (blk_below (B.kb BK406) hb); have n5_ := Aside0.mk (blk_below (B.kb BK407) hb); have n6_ := Aside0.mk (blk_below (B.kb BK415) hb); have n7_ := Aside0.mk (blk_below (B.kb BK423) hb); have n8_ := Aside0.mk (below_step (B.bl HB) hb); clear HO_407003 HO_416003 HO_424003 BK406 BK407 BK415 BK423 HB; have HO_407003 := n0_; have HO_416003 := n1_; have HO_424003 := n2_; have HO431 := n3_; have BK406 := n4_; have BK407 := n5_; have BK415 := n6_; have BK423 := n7_; have HB := n8_; clear n0_ n1_ n2_ n3_ n4_ n5_ n6_ n7_ n8_; (try clear hb); (try clear hb2); (try clear hk); (try clear hi); (try clear ho0)) | ((with_reducible refine gate_dst (N := 9) rfl ?_); refine box_event ?hg (N := 9) ?hd (cs := #[.int .i64 0, .int .i64 0, .int .i64 0, .slice none 0 0]) (t := 28) ?hr ?_; (case hd => rfl); (case hg => rfl); (case hr => first | (go_simp; done) | (go_simp; rfl)); intro gb433 hg w86 hbox hb; have n0_ := Aside0.mk (Kd.Q_below (B.kq HO_407003) hb); have n1_ := Aside0.mk (Kd.Q_below (B.kq HO_416003) hb); have n2_ := Aside0.mk (Kd.Q_below (B.kq HO_424003) hb); have n3_ := Aside0.mk (Kd.R_below (B.kr HO431) hb); have n4_ := Aside0.mk (blk_below (B.kb BK406) hb); have n5_ := Aside0.mk (blk_below (B.kb BK407) hb); have n6_ := Aside0.mk (blk_below (B.kb BK415) hb); have n7_ := Aside0.mk (blk_below (B.kb BK423) hb); have n8_ := Aside0.mk (below_step (B.bl HB) hb); have n9_ := Aside0.mk (hbox); have n10_ := Aside0.mk (B.nle hg (below_size (B.bl HB))); have n11_ := Aside0.mk (B.nle hg (below_size (B.bl HB))); have n12_ := Aside0.mk (B.nlt hg (blk_lt (B.kb BK406))); have n13_ := Aside0.mk (B.ngt hg (blk_lt (B.kb BK406))); have n14_ := Aside0.mk (B.nlt hg (blk_lt (B.kb BK407))); have n15_ := Aside0.mk (B.ngt hg (blk_lt (B.kb BK407))); have n16_ := Aside0.mk (B.nlt hg (blk_lt (B.kb BK415))); have n17_ := Aside0.mk (B.ngt hg (blk_lt (B.kb BK415))); have n18_ := Aside0.mk (B.nlt hg (blk_lt (B.kb BK423))); have n19_ := Aside0.mk (B.ngt hg (blk_lt (B.kb BK423))); clear HO_407003 HO_416003 HO_424003 HO431 BK406 BK407 BK415 BK423 HB; have HO_407003 := n0_; have HO_416003 := n1_; have HO_424003 := n2_; have HO431 := n3_; have BK406 := n4_; have BK407 := n5_; have BK415 := n6_; have BK423 := n7_; have HB := n8_; have BK433 := n9_; have GW433 := n10_; have GE433 := n11_; have NB406_433 := n12_; have NB433_406 := n13_; have NB407_433 := n14_; have NB433_407 := n15_; have NB415_433 := n16_; have NB433_415 := n17_; have NB423_433 := n18_; have NB433_423 := n19_; clear n0_ n1_ n2_ n3_ n4_ n5_ n6_ n7_ n8_ n9_ n10_ n11_ n12_ n13_ n14_ n15_ n16_ n17_ n18_ n19_; clear hb hbox hg; have hnb87 := NB433_406.out; have hnc87 := NB406_433.out; have hnb88 := NB433_407.out; have hnc88 := NB407_433.out; have hnb89 := NB433_415.out; have hnc89 := NB415_433.out; have hnb90 := NB433_423.out; have hnc90 := NB423_433.out; have hcz91_0 : w86.cell? ⟨gb433, 0, none⟩ = some (.int .i64 0) := B.bc BK433 0; have hcz91_1 : w86.cell? ⟨gb433, 1, none⟩ = some (.int .i64 0) := B.bc BK433 1; have hcz91_2 : w86.cell? ⟨gb433, 2, none⟩ = some (.int .i64 0) := B.bc BK433 2; have hcz91_3 : w86.cell? ⟨gb433, 3, none⟩ = some (.slice none 0 0) := B.bc BK433 3; have hfz91_0 := blk_frozen BK433.out 0; have hfz91_1 := blk_frozen BK433.out 1; have hfz91_2 := blk_frozen BK433.out 2; have hfz91_3 := blk_frozen BK433.out 3; obtain ⟨Ao92, co92, eo92⟩ := Kd.R_slice HO431.out; subst eo92))
              have n0_ : Aside0 (Kd.Q (Kd.int .i64) 3 ((((w86.setCell ⟨gb433, 0, none⟩ (.int .i64 t426)).setCell ⟨gb433, 1, none⟩ (.int .i64 t427)).setCell ⟨gb433, 2, none⟩ (.int .i64 t428)).setCell ⟨gb433, 3, none⟩ (.slice Ao92 t429.length co92)) w.heap.size (fun k_ => some k_ ≠ (.slice Ao19 t411.length co19 : Value).ownBlock ∧ some k_ ≠ (.slice Ao28 t419.length co28 : Value).ownBlock ∧ some k_ ≠ (.slice Ao92 t429.length co92 : Value).ownBlock) (.slice Ao12 t399.length co12) t399) := ⟨by (with_reducible repeat (first | apply Kd.Q_alloc | apply Kd.Q_drewN | apply Kd.Q_drew)); exact Kd.Q_mono (Kd.Q_far (p := ⟨gb433, 3, none⟩) (Kd.Q_far (p := ⟨gb433, 2, none⟩) (Kd.Q_far (p := ⟨gb433, 1, none⟩) (Kd.Q_far (p := ⟨gb433, 0, none⟩) (Kd.Q_types HO_407003.out BK433.out (by decide)) (fun _ hk => hk.2) (.int .i64 t426)) (fun _ hk => hk.2) (.int .i64 t427)) (fun _ hk => hk.2) (.int .i64 t428)) (fun _ hk => hk.2) (.slice Ao92 t429.length co92)) (fun _ hk => ⟨hk.1.1.1, ⟨hk.1.1.2, hk.1.2⟩⟩)⟩
              have n1_ : Aside0 (Kd.Q (Kd.int .i64) 3 ((((w86.setCell ⟨gb433, 0, none⟩ (.int .i64 t426)).setCell ⟨gb433, 1, none⟩ (.int .i64 t427)).setCell ⟨gb433, 2, none⟩ (.int .i64 t428)).setCell ⟨gb433, 3, none⟩ (.slice Ao92 t429.length co92)) w.heap.size (fun k_ => some k_ ≠ (.slice Ao12 t399.length co12 : Value).ownBlock ∧ some k_ ≠ (.slice Ao28 t419.length co28 : Value).ownBlock ∧ some k_ ≠ (.slice Ao92 t429.length co92 : Value).ownBlock) (.slice Ao19 t411.length co19) t411) := ⟨by (with_reducible repeat (first | apply Kd.Q_alloc | apply Kd.Q_drewN | apply Kd.Q_drew)); exact Kd.Q_mono (Kd.Q_far (p := ⟨gb433, 3, none⟩) (Kd.Q_far (p := ⟨gb433, 2, none⟩) (Kd.Q_far (p := ⟨gb433, 1, none⟩) (Kd.Q_far (p := ⟨gb433, 0, none⟩) (Kd.Q_types HO_416003.out BK433.out (by decide)) (fun _ hk => hk.2) (.int .i64 t426)) (fun _ hk => hk.2) (.int .i64 t427)) (fun _ hk => hk.2) (.int .i64 t428)) (fun _ hk => hk.2) (.slice Ao92 t429.length co92)) (fun _ hk => ⟨hk.1.1.1, ⟨hk.1.1.2, hk.1.2⟩⟩)⟩
              have n2_ : Aside0 (Kd.Q (Kd.int .i64) 3 ((((w86.setCell ⟨gb433, 0, none⟩ (.int .i64 t426)).setCell ⟨gb433, 1, none⟩ (.int .i64 t427)).setCell ⟨gb433, 2, none⟩ (.int .i64 t428)).setCell ⟨gb433, 3, none⟩ (.slice Ao92 t429.length co92)) w.heap.size (fun k_ => some k_ ≠ (.slice Ao12 t399.length co12 : Value).ownBlock ∧ some k_ ≠ (.slice Ao19 t411.length co19 : Value).ownBlock ∧ some k_ ≠ (.slice Ao92 t429.length co92 : Value).ownBlock) (.slice Ao28 t419.length co28) t419) := ⟨by (with_reducible repeat (first | apply Kd.Q_alloc | apply Kd.Q_drewN | apply Kd.Q_drew)); exact Kd.Q_mono (Kd.Q_far (p := ⟨gb433, 3, none⟩) (Kd.Q_far (p := ⟨gb433, 2, none⟩) (Kd.Q_far (p := ⟨gb433, 1, none⟩) (Kd.Q_far (p := ⟨gb433, 0, none⟩) (Kd.Q_types HO_424003.out BK433.out (by decide)) (fun _ hk => hk.2) (.int .i64 t426)) (fun _ hk => hk.2) (.int .i64 t427)) (fun _ hk => hk.2) (.int .i64 t428)) (fun _ hk => hk.2) (.slice Ao92 t429.length co92)) (fun _ hk => ⟨hk.1.1.1, ⟨hk.1.1.2, hk.1.2⟩⟩)⟩
              have n3_ : Aside0 (Kd.R (Kd.int .i64) 3 ((((w86.setCell ⟨gb433, 0, none⟩ (.int .i64 t426)).setCell ⟨gb433, 1, none⟩ (.int .i64 t427)).setCell ⟨gb433, 2, none⟩ (.int .i64 t428)).setCell ⟨gb433, 3, none⟩ (.slice Ao92 t429.length co92)) w.heap.size (fun k_ => some k_ ≠ (.slice Ao12 t399.length co12 : Value).ownBlock ∧ some k_ ≠ (.slice Ao19 t411.length co19 : Value).ownBlock ∧ some k_ ≠ (.slice Ao28 t419.length co28 : Value).ownBlock) (.slice Ao92 t429.length co92) t429) := ⟨B.kr0 (Kd.R_mono (B.rf4 HO431 BK433) (fun _ hk => ⟨hk.1.1.1.2, ⟨hk.1.1.2, hk.1.2⟩⟩))⟩
              have n4_ : Aside0 (((((w86.setCell ⟨gb433, 0, none⟩ (.int .i64 t426)).setCell ⟨gb433, 1, none⟩ (.int .i64 t427)).setCell ⟨gb433, 2, none⟩ (.int .i64 t428)).setCell ⟨gb433, 3, none⟩ (.slice Ao92 t429.length co92)).heap[gb406]? = some (.cells #[.int .i64 t396, .int .i64 t397, .int .i64 t398, .slice Ao12 t399.length co12] 28 (0, 0))) := ⟨B.kb0 (B.bf4 BK406 NB406_433)⟩
              have n5_ : Aside0 (((((w86.setCell ⟨gb433, 0, none⟩ (.int .i64 t426)).setCell ⟨gb433, 1, none⟩ (.int .i64 t427)).setCell ⟨gb433, 2, none⟩ (.int .i64 t428)).setCell ⟨gb433, 3, none⟩ (.slice Ao92 t429.length co92)).heap[gb407]? = some (.cells #[.int .i64 t402, .int .i64 t403, .int .i64 t404, .int .i64 t405] 32 (0, 0))) := ⟨B.kb0 (B.bf4 BK407 NB407_433)⟩
              have n6_ : Aside0 (((((w86.setCell ⟨gb433, 0, none⟩ (.int .i64 t426)).setCell ⟨gb433, 1, none⟩ (.int .i64 t427)).setCell ⟨gb433, 2, none⟩ (.int .i64 t428)).setCell ⟨gb433, 3, none⟩ (.slice Ao92 t429.length co92)).heap[gb415]? = some (.cells #[.int .i64 t408, .int .i64 t409, .int .i64 t410, .slice Ao19 t411.length co19] 28 (0, 0))) := ⟨B.kb0 (B.bf4 BK415 NB415_433)⟩
              have n7_ : Aside0 (((((w86.setCell ⟨gb433, 0, none⟩ (.int .i64 t426)).setCell ⟨gb433, 1, none⟩ (.int .i64 t427)).setCell ⟨gb433, 2, none⟩ (.int .i64 t428)).setCell ⟨gb433, 3, none⟩ (.slice Ao92 t429.length co92)).heap[gb423]? = some (.cells #[.int .i64 t416, .int .i64 t417, .int .i64 t418, .slice Ao28 t419.length co28] 28 (0, 0))) := ⟨B.kb0 (B.bf4 BK423 NB423_433)⟩
              have n8_ : Aside0 (((((w86.setCell ⟨gb433, 0, none⟩ (.int .i64 t426)).setCell ⟨gb433, 1, none⟩ (.int .i64 t427)).setCell ⟨gb433, 2, none⟩ (.int .i64 t428)).setCell ⟨gb433, 3, none⟩ (.slice Ao92 t429.length co92)).heap[gb433]? = some (.cells #[.int .i64 t426, .int .i64 t427, .int .i64 t428, .slice Ao92 t429.length co92] 28 (0, 0))) := ⟨B.kb0 (B.bp4 BK433)⟩
              have n9_ : Aside0 (Below w.heap.size w ((((w86.setCell ⟨gb433, 0, none⟩ (.int .i64 t426)).setCell ⟨gb433, 1, none⟩ (.int .i64 t427)).setCell ⟨gb433, 2, none⟩ (.int .i64 t428)).setCell ⟨gb433, 3, none⟩ (.slice Ao92 t429.length co92))) := ⟨B.bl HB⟩
              (try clear HO_407003)
              (try clear HO_416003)
              (try clear HO_424003)
              (try clear HO431)
              (try clear BK406)
              (try clear BK407)
              (try clear BK415)
              (try clear BK423)
              (try clear BK433)
              (try clear HB)
              generalize ((((w86.setCell ⟨gb433, 0, none⟩ (.int .i64 t426)).setCell ⟨gb433, 1, none⟩ (.int .i64 t427)).setCell ⟨gb433, 2, none⟩ (.int .i64 t428)).setCell ⟨gb433, 3, none⟩ (.slice Ao92 t429.length co92)) = w93 at n0_ n1_ n2_ n3_ n4_ n5_ n6_ n7_ n8_ n9_ ⊢
              have HO_407003 := n0_
              have HO_416003 := n1_
              have HO_424003 := n2_
              have HO431 := n3_
              have BK406 := n4_
              have BK407 := n5_
              have BK415 := n6_
              have BK423 := n7_
              have BK433 := n8_
              have HB := n9_
              clear n0_ n1_ n2_ n3_ n4_ n5_ n6_ n7_ n8_ n9_
              have n0_ := Aside0.mk (Kd.Q_drew HO_407003.out)
              have n1_ := Aside0.mk (Kd.Q_drew HO_416003.out)
              have n2_ := Aside0.mk (Kd.Q_drew HO_424003.out)
              have n3_ := Aside0.mk (Kd.R_drew HO431.out)
              have n4_ := Aside0.mk (blk_drew BK406.out)
              have n5_ := Aside0.mk (blk_drew BK407.out)
              have n6_ := Aside0.mk (blk_drew BK415.out)
              have n7_ := Aside0.mk (blk_drew BK423.out)
              have n8_ := Aside0.mk (blk_drew BK433.out)
              have n9_ := Aside0.mk (below_drew1 HB.out)
              clear HO_407003 HO_416003 HO_424003 HO431 BK406 BK407 BK415 BK423 BK433 HB
              have HO_407003 := n0_
              have HO_416003 := n1_
              have HO_424003 := n2_
              have HO431 := n3_
              have BK406 := n4_
              have BK407 := n5_
              have BK415 := n6_
              have BK423 := n7_
              have BK433 := n8_
              have HB := n9_
              clear n0_ n1_ n2_ n3_ n4_ n5_ n6_ n7_ n8_ n9_
              refine start_ (n := 46) (S := fun w' => w'.cell? ⟨gb433, 0, none⟩ = some (.int .i64 t426) ∧ w'.cell? ⟨gb433, 1, none⟩ = some (.int .i64 t427) ∧ w'.cell? ⟨gb433, 2, none⟩ = some (.int .i64 t428) ∧ w'.cell? ⟨gb433, 3, none⟩ = some (.slice Ao92 t429.length co92) ∧ w'.cell? ⟨gb406, 0, none⟩ = some (.int .i64 t396) ∧ w'.cell? ⟨gb406, 1, none⟩ = some (.int .i64 t397) ∧ w'.cell? ⟨gb406, 2, none⟩ = some (.int .i64 t398) ∧ w'.cell? ⟨gb406, 3, none⟩ = some (.slice Ao12 t399.length co12) ∧ w'.cell? ⟨gb415, 0, none⟩ = some (.int .i64 t408) ∧ w'.cell? ⟨gb415, 1, none⟩ = some (.int .i64 t409) ∧ w'.cell? ⟨gb415, 2, none⟩ = some (.int .i64 t410) ∧ w'.cell? ⟨gb415, 3, none⟩ = some (.slice Ao19 t411.length co19) ∧ w'.cell? ⟨gb407, 0, none⟩ = some (.int .i64 t402) ∧ w'.cell? ⟨gb407, 1, none⟩ = some (.int .i64 t403) ∧ w'.cell? ⟨gb407, 2, none⟩ = some (.int .i64 t404) ∧ w'.cell? ⟨gb407, 3, none⟩ = some (.int .i64 t405)) (ds := []) #[false, false, false, false, false, false, false, false, false, false, false, false, false, false, false, false, false, false, false, false, false, false, false, false, false, false, false, false, false, false, false, false, false, false, false, false, false, false, false, false, false, false, false, false, false, false] (by kernel_rfl) rfl rfl ⟨B.bc BK433 0, B.bc BK433 1, B.bc BK433 2, B.bc BK433 3, B.bc BK406 0, B.bc BK406 1, B.bc BK406 2, B.bc BK406 3, B.bc BK415 0, B.bc BK415 1, B.bc BK415 2, B.bc BK415 3, B.bc BK407 0, B.bc BK407 1, B.bc BK407 2, B.bc BK407 3⟩ (fun hHeld => ?_); refine with_tabW laws_FnCropImage.tab9 laws_FnCropImage.bits9 (fun HT_ HW_ => ?_)
              generalize w93.drew = w94 at HO_407003 HO_416003 HO_424003 HO431 BK406 BK407 BK415 BK423 BK433 HB hHeld ⊢
              refine pure_ (i := 0) (N := some 62) (v := ?_) (a' := ?_) #[true, false, false, false, false, false, false, false, false, false, false, false, false, false, false, false, false, false, false, false, false, false, false, false, false, false, false, false, false, false, false, false, false, false, false, false, false, false, false, false, false, false, false, false, false, false] rfl rfl (any_of HT_.out (by kernel_rfl)) (fun _ _ _ h => h) (Or.inl ⟨by rfl, ?_⟩) ?_ ?_
              rotate_left
              · intro w'
                go_simp
                with_reducible rfl
              rotate_left
              · simp only [Act.put, List.setIfInBounds_toArray, List.set_cons_zero, List.set_cons_succ, i64_w, i32_w]
                rfl
              refine pure_ (i := 1) (N := some 63) (v := ?_) (a' := ?_) #[true, true, false, false, false, false, false, false, false, false, false, false, false, false, false, false, false, false, false, false, false, false, false, false, false, false, false, false, false, false, false, false, false, false, false, false, false, false, false, false, false, false, false, false, false, false] rfl rfl (any_of HT_.out (by kernel_rfl)) (fun _ _ _ h => h) (Or.inl ⟨by rfl, ?_⟩) ?_ ?_
              rotate_left
              · intro w'
                go_simp
                with_reducible rfl
              rotate_left
              · simp only [Act.put, List.setIfInBounds_toArray, List.set_cons_zero, List.set_cons_succ, i64_w, i32_w]
                rfl
              refine take_ (i := 2) (N := some 64) (v := ?_) (a' := ?_) #[true, true, true, false, false, false, false, false, false, false, false, false, false, false, false, false, false, false, false, false, false, false, false, false, false, false, false, false, false, false, false, false, false, false, false, false, false, false, false, false, false, false, false, false, false, false] rfl rfl (take_ofW HT_.out HW_.out (by kernel_rfl)) (fun _ _ _ h => h) (Or.inl ⟨by rfl, ?_⟩) hHeld ?_ ?_
              rotate_left
              · rintro w' ⟨s0, s1, s2, s3, s4, s5, s6, s7, s8, s9, s10, s11, s12, s13, s14, s15⟩
                go_simp
                with_reducible rfl
              rotate_left
              · simp only [Act.put, List.setIfInBounds_toArray, List.set_cons_zero, List.set_cons_succ, i64_w, i32_w]
                rfl
              refine take_ (i := 3) (N := some 65) (v := ?_) (a' := ?_) #[true, true, true, true, false, false, false, false, false, false, false, false, false, false, false, false, false, false, false, false, false, false, false, false, false, false, false, false, false, false, false, false, false, false, false, false, false, false, false, false, false, false, false, false, false, false] rfl rfl (take_ofW HT_.out HW_.out (by kernel_rfl)) (fun _ _ _ h => h) (Or.inl ⟨by rfl, ?_⟩) hHeld ?_ ?_
              rotate_left
              · rintro w' ⟨s0, s1, s2, s3, s4, s5, s6, s7, s8, s9, s10, s11, s12, s13, s14, s15⟩
                go_simp
                with_reducible rfl
              rotate_left
              · simp only [Act.put, List.setIfInBounds_toArray, List.set_cons_zero, List.set_cons_succ, i64_w, i32_w]
                rfl
              refine one_ (i := 4) (N := some 66) #[true, true, true, true, true, false, false, false, false, false, false, false, false, false, false, false, false, false, false, false, false, false, false, false, false, false, false, false, false, false, false, false, false, false, false, false, false, false, false, false, false, false, false, false, false, false] rfl rfl (one_of HT_.out (by kernel_rfl)) (by decide) (fun K hK => ?_)
              refine goes_ Try.func17 (by kernel_rfl) rfl #[.agg #[.int .i64 t426, .int .i64 t427, .int .i64 t428, .slice Ao92 t429.length co92], .agg #[.int .i64 t396, .int .i64 t397, .int .i64 t398, .slice Ao12 t399.length co12]] (by rfl) rfl rfl B.am ?_
              with_reducible refine (laws_equalImage.calls kj5 t426 t427 t428 _ _ t429 t396 t397 t398 _ _ t399 true _ ?side1 ?side2 ?side3 ?side4 A69.out).mono ?_
              (case side1 => exact B.kc ((Kd.R_reads' HO431.out).2.2))
              (case side2 => exact (Kd.R_reads' HO431.out).2.1)
              (case side3 => exact B.kc ((Kd.Q_reads' HO_407003.out).2.2))
              (case side4 => exact (Kd.Q_reads' HO_407003.out).2.1)
              rintro e w95 ⟨rfl, hb⟩
              refine ⟨_, rfl, ?_⟩
              have n0_ := Aside0.mk (Kd.Q_below (B.kq HO_407003) hb)
              have n1_ := Aside0.mk (Kd.Q_below (B.kq HO_416003) hb)
              have n2_ := Aside0.mk (Kd.Q_below (B.kq HO_424003) hb)
              have n3_ := Aside0.mk (Kd.R_below (B.kr HO431) hb)
              have n4_ := Aside0.mk (blk_below (B.kb BK406) hb)
              have n5_ := Aside0.mk (blk_below (B.kb BK407) hb)
              have n6_ := Aside0.mk (blk_below (B.kb BK415) hb)
              have n7_ := Aside0.mk (blk_below (B.kb BK423) hb)
              have n8_ := Aside0.mk (blk_below (B.kb BK433) hb)
              have n9_ := Aside0.mk (below_step (B.bl HB) hb)
              clear HO_407003 HO_416003 HO_424003 HO431 BK406 BK407 BK415 BK423 BK433 HB
              have HO_407003 := n0_
              have HO_416003 := n1_
              have HO_424003 := n2_
              have HO431 := n3_
              have BK406 := n4_
              have BK407 := n5_
              have BK415 := n6_
              have BK423 := n7_
              have BK433 := n8_
              have HB := n9_
              clear n0_ n1_ n2_ n3_ n4_ n5_ n6_ n7_ n8_ n9_
              (try clear hb)
              (try clear hb2)
              (try clear hk)
              (try clear hi)
              refine hK.out _ _ ⟨B.bc BK433 0, B.bc BK433 1, B.bc BK433 2, B.bc BK433 3, B.bc BK406 0, B.bc BK406 1, B.bc BK406 2, B.bc BK406 3, B.bc BK415 0, B.bc BK415 1, B.bc BK415 2, B.bc BK415 3, B.bc BK407 0, B.bc BK407 1, B.bc BK407 2, B.bc BK407 3⟩ (fun hHeld => ?_)
              clear hK K
              refine norm_ (a' := ?_) ?_ ?_
              rotate_left
              · show Act.put _ (some 66) _ = _
                simp only [Act.put, List.setIfInBounds_toArray, List.set_cons_zero, List.set_cons_succ, i64_w, i32_w]
                rfl
              refine pure_ (i := 5) (N := some 67) (v := ?_) (a' := ?_) #[true, true, true, true, true, true, false, false, false, false, false, false, false, false, false, false, false, false, false, false, false, false, false, false, false, false, false, false, false, false, false, false, false, false, false, false, false, false, false, false, false, false, false, false, false, false] rfl rfl (any_of HT_.out (by kernel_rfl)) (fun _ _ _ h => h) (Or.inl ⟨by rfl, ?_⟩) ?_ ?_
              rotate_left
              · intro w'
                go_simp
                with_reducible rfl
              rotate_left
              · simp only [Act.put, List.setIfInBounds_toArray, List.set_cons_zero, List.set_cons_succ, i64_w, i32_w]
                rfl
              refine pure_ (i := 6) (N := some 68) (v := ?_) (a' := ?_) #[true, true, true, true, true, true, true, false, false, false, false, false, false, false, false, false, false, false, false, false, false, false, false, false, false, false, false, false, false, false, false, false, false, false, false, false, false, false, false, false, false, false, false, false, false, false] rfl rfl (any_of HT_.out (by kernel_rfl)) (fun _ _ _ h => h) (Or.inl ⟨by rfl, ?_⟩) ?_ ?_
              rotate_left
              · intro w'
                go_simp
                with_reducible rfl
              rotate_left
              · simp only [Act.put, List.setIfInBounds_toArray, List.set_cons_zero, List.set_cons_succ, i64_w, i32_w]
                rfl
              refine pure_ (i := 7) (N := some 69) (v := ?_) (a' := ?_) #[true, true, true, true, true, true, true, true, false, false, false, false, false, false, false, false, false, false, false, false, false, false, false, false, false, false, false, false, false, false, false, false, false, false, false, false, false, false, false, false, false, false, false, false, false, false] rfl rfl (any_of HT_.out (by kernel_rfl)) (fun _ _ _ h => h) (Or.inl ⟨by rfl, ?_⟩) ?_ ?_
              rotate_left
              · intro w'
                go_simp
                with_reducible rfl
              rotate_left
              · simp only [Act.put, List.setIfInBounds_toArray, List.set_cons_zero, List.set_cons_succ, i64_w, i32_w]
                rfl
              refine pure_ (i := 9) (N := some 71) (v := ?_) (a' := ?_) #[true, true, true, true, true, true, true, true, false, true, false, false, false, false, false, false, false, false, false, false, false, false, false, false, false, false, false, false, false, false, false, false, false, false, false, false, false, false, false, false, false, false, false, false, false, false] rfl rfl (any_of HT_.out (by kernel_rfl)) (fun _ _ _ h => h) (Or.inl ⟨by rfl, ?_⟩) ?_ ?_
              rotate_left
              · intro w'
                go_simp
                with_reducible rfl
              rotate_left
              · simp only [Act.put, List.setIfInBounds_toArray, List.set_cons_zero, List.set_cons_succ, i64_w, i32_w]
                rfl
              refine take_ (i := 8) (N := some 70) (v := ?_) (a' := ?_) #[true, true, true, true, true, true, true, true, true, true, false, false, false, false, false, false, false, false, false, false, false, false, false, false, false, false, false, false, false, false, false, false, false, false, false, false, false, false, false, false, false, false, false, false, false, false] rfl rfl (take_ofW HT_.out HW_.out (by kernel_rfl)) (fun _ _ _ h => h) (Or.inl ⟨by rfl, ?_⟩) hHeld ?_ ?_
              rotate_left
              · rintro w' ⟨s0, s1, s2, s3, s4, s5, s6, s7, s8, s9, s10, s11, s12, s13, s14, s15⟩
                go_simp
                with_reducible rfl
              rotate_left
              · simp only [Act.put, List.setIfInBounds_toArray, List.set_cons_zero, List.set_cons_succ, i64_w, i32_w]
                rfl
              refine take_ (i := 10) (N := some 72) (v := ?_) (a' := ?_) #[true, true, true, true, true, true, true, true, true, true, true, false, false, false, false, false, false, false, false, false, false, false, false, false, false, false, false, false, false, false, false, false, false, false, false, false, false, false, false, false, false, false, false, false, false, false] rfl rfl (take_ofW HT_.out HW_.out (by kernel_rfl)) (fun _ _ _ h => h) (Or.inl ⟨by rfl, ?_⟩) hHeld ?_ ?_
              rotate_left
              · rintro w' ⟨s0, s1, s2, s3, s4, s5, s6, s7, s8, s9, s10, s11, s12, s13, s14, s15⟩
                go_simp
                with_reducible rfl
              rotate_left
              · simp only [Act.put, List.setIfInBounds_toArray, List.set_cons_zero, List.set_cons_succ, i64_w, i32_w]
                rfl
              refine pure_ (i := 11) (N := some 73) (v := ?_) (a' := ?_) #[true, true, true, true, true, true, true, true, true, true, true, true, false, false, false, false, false, false, false, false, false, false, false, false, false, false, false, false, false, false, false, false, false, false, false, false, false, false, false, false, false, false, false, false, false, false] rfl rfl (any_of HT_.out (by kernel_rfl)) (fun _ _ _ h => h) (Or.inl ⟨by rfl, ?_⟩) ?_ ?_
              rotate_left
              · intro w'
                go_simp
                with_reducible rfl
              rotate_left
              · simp only [Act.put, List.setIfInBounds_toArray, List.set_cons_zero, List.set_cons_succ, i64_w, i32_w]
                rfl
              refine pure_ (i := 12) (N := some 74) (v := ?_) (a' := ?_) #[true, true, true, true, true, true, true, true, true, true, true, true, true, false, false, false, false, false, false, false, false, false, false, false, false, false, false, false, false, false, false, false, false, false, false, false, false, false, false, false, false, false, false, false, false, false] rfl rfl (any_of HT_.out (by kernel_rfl)) (fun _ _ _ h => h) (Or.inl ⟨by rfl, ?_⟩) ?_ ?_
              rotate_left
              · intro w'
                go_simp
                with_reducible rfl
              rotate_left
              · simp only [Act.put, List.setIfInBounds_toArray, List.set_cons_zero, List.set_cons_succ, i64_w, i32_w]
                rfl
              refine pure_ (i := 13) (N := some 75) (v := ?_) (a' := ?_) #[true, true, true, true, true, true, true, true, true, true, true, true, true, true, false, false, false, false, false, false, false, false, false, false, false, false, false, false, false, false, false, false, false, false, false, false, false, false, false, false, false, false, false, false, false, false] rfl rfl (any_of HT_.out (by kernel_rfl)) (fun _ _ _ h => h) (Or.inl ⟨by rfl, ?_⟩) ?_ ?_
              rotate_left
              · intro w'
                go_simp
                with_reducible rfl
              rotate_left
              · simp only [Act.put, List.setIfInBounds_toArray, List.set_cons_zero, List.set_cons_succ, i64_w, i32_w]
                rfl
              refine pure_ (i := 14) (N := some 76) (v := ?_) (a' := ?_) #[true, true, true, true, true, true, true, true, true, true, true, true, true, true, true, false, false, false, false, false, false, false, false, false, false, false, false, false, false, false, false, false, false, false, false, false, false, false, false, false, false, false, false, false, false, false] rfl rfl (any_of HT_.out (by kernel_rfl)) (fun _ _ _ h => h) (Or.inl ⟨by rfl, ?_⟩) ?_ ?_
              rotate_left
              · intro w'
                go_simp
                with_reducible rfl
              rotate_left
              · simp only [Act.put, List.setIfInBounds_toArray, List.set_cons_zero, List.set_cons_succ, i64_w, i32_w]
                rfl
              refine pure_ (i := 16) (N := some 78) (v := ?_) (a' := ?_) #[true, true, true, true, true, true, true, true, true, true, true, true, true, true, true, false, true, false, false, false, false, false, false, false, false, false, false, false, false, false, false, false, false, false, false, false, false, false, false, false, false, false, false, false, false, false] rfl rfl (any_of HT_.out (by kernel_rfl)) (fun _ _ _ h => h) (Or.inl ⟨by rfl, ?_⟩) ?_ ?_
              rotate_left
              · intro w'
                go_simp
                with_reducible rfl
              rotate_left
              · simp only [Act.put, List.setIfInBounds_toArray, List.set_cons_zero, List.set_cons_succ, i64_w, i32_w]
                rfl
              refine take_ (i := 15) (N := some 77) (v := ?_) (a' := ?_) #[true, true, true, true, true, true, true, true, true, true, true, true, true, true, true, true, true, false, false, false, false, false, false, false, false, false, false, false, false, false, false, false, false, false, false, false, false, false, false, false, false, false, false, false, false, false] rfl rfl (take_ofW HT_.out HW_.out (by kernel_rfl)) (fun _ _ _ h => h) (Or.inl ⟨by rfl, ?_⟩) hHeld ?_ ?_
              rotate_left
              · rintro w' ⟨s0, s1, s2, s3, s4, s5, s6, s7, s8, s9, s10, s11, s12, s13, s14, s15⟩
                go_simp
                with_reducible rfl
              rotate_left
              · simp only [Act.put, List.setIfInBounds_toArray, List.set_cons_zero, List.set_cons_succ, i64_w, i32_w]
                rfl
              refine take_ (i := 17) (N := some 79) (v := ?_) (a' := ?_) #[true, true, true, true, true, true, true, true, true, true, true, true, true, true, true, true, true, true, false, false, false, false, false, false, false, false, false, false, false, false, false, false, false, false, false, false, false, false, false, false, false, false, false, false, false, false] rfl rfl (take_ofW HT_.out HW_.out (by kernel_rfl)) (fun _ _ _ h => h) (Or.inl ⟨by rfl, ?_⟩) hHeld ?_ ?_
              rotate_left
              · rintro w' ⟨s0, s1, s2, s3, s4, s5, s6, s7, s8, s9, s10, s11, s12, s13, s14, s15⟩
                go_simp
                with_reducible rfl
              rotate_left
              · simp only [Act.put, List.setIfInBounds_toArray, List.set_cons_zero, List.set_cons_succ, i64_w, i32_w]
                rfl
              refine pure_ (i := 18) (N := some 80) (v := ?_) (a' := ?_) #[true, true, true, true, true, true, true, true, true, true, true, true, true, true, true, true, true, true, true, false, false, false, false, false, false, false, false, false, false, false, false, false, false, false, false, false, false, false, false, false, false, false, false, false, false, false] rfl rfl (any_of HT_.out (by kernel_rfl)) (fun _ _ _ h => h) (Or.inl ⟨by rfl, ?_⟩) ?_ ?_
              rotate_left
              · intro w'
                go_simp
                with_reducible rfl
              rotate_left
              · simp only [Act.put, List.setIfInBounds_toArray, List.set_cons_zero, List.set_cons_succ, i64_w, i32_w]
                rfl
              refine pure_ (i := 19) (N := some 81) (v := ?_) (a' := ?_) #[true, true, true, true, true, true, true, true, true, true, true, true, true, true, true, true, true, true, true, true, false, false, false, false, false, false, false, false, false, false, false, false, false, false, false, false, false, false, false, false, false, false, false, false, false, false] rfl rfl (any_of HT_.out (by kernel_rfl)) (fun _ _ _ h => h) (Or.inl ⟨by rfl, ?_⟩) ?_ ?_
              rotate_left
              · intro w'
                go_simp
                with_reducible rfl
              rotate_left
              · simp only [Act.put, List.setIfInBounds_toArray, List.set_cons_zero, List.set_cons_succ, i64_w, i32_w]
                rfl
              refine pure_ (i := 20) (N := some 82) (v := ?_) (a' := ?_) #[true, true, true, true, true, true, true, true, true, true, true, true, true, true, true, true, true, true, true, true, true, false, false, false, false, false, false, false, false, false, false, false, false, false, false, false, false, false, false, false, false, false, false, false, false, false] rfl rfl (any_of HT_.out (by kernel_rfl)) (fun _ _ _ h => h) (Or.inl ⟨by rfl, ?_⟩) ?_ ?_
              rotate_left
              · intro w'
                go_simp
                with_reducible rfl
              rotate_left
              · simp only [Act.put, List.setIfInBounds_toArray, List.set_cons_zero, List.set_cons_succ, i64_w, i32_w]
                rfl
              refine pure_ (i := 22) (N := some 84) (v := ?_) (a' := ?_) #[true, true, true, true, true, true, true, true, true, true, true, true, true, true, true, true, true, true, true, true, true, false, true, false, false, false, false, false, false, false, false, false, false, false, false, false, false, false, false, false, false, false, false, false, false, false] rfl rfl (any_of HT_.out (by kernel_rfl)) (fun _ _ _ h => h) (Or.inl ⟨by rfl, ?_⟩) ?_ ?_
              rotate_left
              · intro w'
                go_simp
                with_reducible rfl
              rotate_left
              · simp only [Act.put, List.setIfInBounds_toArray, List.set_cons_zero, List.set_cons_succ, i64_w, i32_w]
                rfl
              refine pure_ (i := 25) (N := some 87) (v := ?_) (a' := ?_) #[true, true, true, true, true, true, true, true, true, true, true, true, true, true, true, true, true, true, true, true, true, false, true, false, false, true, false, false, false, false, false, false, false, false, false, false, false, false, false, false, false, false, false, false, false, false] rfl rfl (any_of HT_.out (by kernel_rfl)) (fun _ _ _ h => h) (Or.inl ⟨by rfl, ?_⟩) ?_ ?_
              rotate_left
              · intro w'
                go_simp
                with_reducible rfl
              rotate_left
              · simp only [Act.put, List.setIfInBounds_toArray, List.set_cons_zero, List.set_cons_succ, i64_w, i32_w]
                rfl
              refine pure_ (i := 30) (N := some 92) (v := ?_) (a' := ?_) #[true, true, true, true, true, true, true, true, true, true, true, true, true, true, true, true, true, true, true, true, true, false, true, false, false, true, false, false, false, false, true, false, false, false, false, false, false, false, false, false, false, false, false, false, false, false] rfl rfl (any_of HT_.out (by kernel_rfl)) (fun _ _ _ h => h) (Or.inl ⟨by rfl, ?_⟩) ?_ ?_
              rotate_left
              · intro w'
                go_simp
                with_reducible rfl
              rotate_left
              · simp only [Act.put, List.setIfInBounds_toArray, List.set_cons_zero, List.set_cons_succ, i64_w, i32_w]
                rfl
              refine pure_ (i := 32) (N := some 94) (v := ?_) (a' := ?_) #[true, true, true, true, true, true, true, true, true, true, true, true, true, true, true, true, true, true, true, true, true, false, true, false, false, true, false, false, false, false, true, false, true, false, false, false, false, false, false, false, false, false, false, false, false, false] rfl rfl (any_of HT_.out (by kernel_rfl)) (fun _ _ _ h => h) (Or.inl ⟨by rfl, ?_⟩) ?_ ?_
              rotate_left
              · intro w'
                go_simp
                with_reducible rfl
              rotate_left
              · simp only [Act.put, List.setIfInBounds_toArray, List.set_cons_zero, List.set_cons_succ, i64_w, i32_w]
                rfl
              refine pure_ (i := 36) (N := some 98) (v := ?_) (a' := ?_) #[true, true, true, true, true, true, true, true, true, true, true, true, true, true, true, true, true, true, true, true, true, false, true, false, false, true, false, false, false, false, true, false, true, false, false, false, true, false, false, false, false, false, false, false, false, false] rfl rfl (any_of HT_.out (by kernel_rfl)) (fun _ _ _ h => h) (Or.inl ⟨by rfl, ?_⟩) ?_ ?_
              rotate_left
              · intro w'
                go_simp
                with_reducible rfl
              rotate_left
              · simp only [Act.put, List.setIfInBounds_toArray, List.set_cons_zero, List.set_cons_succ, i64_w, i32_w]
                rfl
              refine pure_ (i := 38) (N := some 100) (v := ?_) (a' := ?_) #[true, true, true, true, true, true, true, true, true, true, true, true, true, true, true, true, true, true, true, true, true, false, true, false, false, true, false, false, false, false, true, false, true, false, false, false, true, false, true, false, false, false, false, false, false, false] rfl rfl (any_of HT_.out (by kernel_rfl)) (fun _ _ _ h => h) (Or.inl ⟨by rfl, ?_⟩) ?_ ?_
              rotate_left
              · intro w'
                go_simp
                with_reducible rfl
              rotate_left
              · simp only [Act.put, List.setIfInBounds_toArray, List.set_cons_zero, List.set_cons_succ, i64_w, i32_w]
                rfl
              refine take_ (i := 21) (N := some 83) (v := ?_) (a' := ?_) #[true, true, true, true, true, true, true, true, true, true, true, true, true, true, true, true, true, true, true, true, true, true, true, false, false, true, false, false, false, false, true, false, true, false, false, false, true, false, true, false, false, false, false, false, false, false] rfl rfl (take_ofW HT_.out HW_.out (by kernel_rfl)) (fun _ _ _ h => h) (Or.inl ⟨by rfl, ?_⟩) hHeld ?_ ?_
              rotate_left
              · rintro w' ⟨s0, s1, s2, s3, s4, s5, s6, s7, s8, s9, s10, s11, s12, s13, s14, s15⟩
                go_simp
                with_reducible rfl
              rotate_left
              · simp only [Act.put, List.setIfInBounds_toArray, List.set_cons_zero, List.set_cons_succ, i64_w, i32_w]
                rfl
              refine take_ (i := 23) (N := some 85) (v := ?_) (a' := ?_) #[true, true, true, true, true, true, true, true, true, true, true, true, true, true, true, true, true, true, true, true, true, true, true, true, false, true, false, false, false, false, true, false, true, false, false, false, true, false, true, false, false, false, false, false, false, false] rfl rfl (take_ofW HT_.out HW_.out (by kernel_rfl)) (fun _ _ _ h => h) (Or.inl ⟨by rfl, ?_⟩) hHeld ?_ ?_
              rotate_left
              · rintro w' ⟨s0, s1, s2, s3, s4, s5, s6, s7, s8, s9, s10, s11, s12, s13, s14, s15⟩
                go_simp
                with_reducible rfl
              rotate_left
              · simp only [Act.put, List.setIfInBounds_toArray, List.set_cons_zero, List.set_cons_succ, i64_w, i32_w]
                rfl
              refine pure_ (i := 24) (N := some 86) (v := ?_) (a' := ?_) #[true, true, true, true, true, true, true, true, true, true, true, true, true, true, true, true, true, true, true, true, true, true, true, true, true, true, false, false, false, false, true, false, true, false, false, false, true, false, true, false, false, false, false, false, false, false] rfl rfl (any_of HT_.out (by kernel_rfl)) (fun _ _ _ h => h) (Or.inl ⟨by rfl, ?_⟩) ?_ ?_
              rotate_left
              · intro w'
                go_simp
                with_reducible rfl
              rotate_left
              · simp only [Act.put, List.setIfInBounds_toArray, List.set_cons_zero, List.set_cons_succ, i64_w, i32_w]
                rfl
              refine take_ (i := 26) (N := some 88) (v := ?_) (a' := ?_) #[true, true, true, true, true, true, true, true, true, true, true, true, true, true, true, true, true, true, true, true, true, true, true, true, true, true, true, false, false, false, true, false, true, false, false, false, true, false, true, false, false, false, false, false, false, false] rfl rfl (take_ofW HT_.out HW_.out (by kernel_rfl)) (fun _ _ _ h => h) (Or.inl ⟨by rfl, ?_⟩) hHeld ?_ ?_
              rotate_left
              · rintro w' ⟨s0, s1, s2, s3, s4, s5, s6, s7, s8, s9, s10, s11, s12, s13, s14, s15⟩
                go_simp
                with_reducible rfl
              rotate_left
              · simp only [Act.put, List.setIfInBounds_toArray, List.set_cons_zero, List.set_cons_succ, i64_w, i32_w]
                rfl
              refine pure_ (i := 27) (N := some 89) (v := ?_) (a' := ?_) #[true, true, true, true, true, true, true, true, true, true, true, true, true, true, true, true, true, true, true, true, true, true, true, true, true, true, true, true, false, false, true, false, true, false, false, false, true, false, true, false, false, false, false, false, false, false] rfl rfl (any_of HT_.out (by kernel_rfl)) (fun _ _ _ h => h) (Or.inl ⟨by rfl, ?_⟩) ?_ ?_
              rotate_left
              · intro w'
                go_simp
                with_reducible rfl
              rotate_left
              · simp only [Act.put, List.setIfInBounds_toArray, List.set_cons_zero, List.set_cons_succ, i64_w, i32_w]
                rfl
              refine take_ (i := 29) (N := some 91) (v := ?_) (a' := ?_) #[true, true, true, true, true, true, true, true, true, true, true, true, true, true, true, true, true, true, true, true, true, true, true, true, true, true, true, true, false, true, true, false, true, false, false, false, true, false, true, false, false, false, false, false, false, false] rfl rfl (take_ofW HT_.out HW_.out (by kernel_rfl)) (fun _ _ _ h => h) (Or.inl ⟨by rfl, ?_⟩) hHeld ?_ ?_
              rotate_left
              · rintro w' ⟨s0, s1, s2, s3, s4, s5, s6, s7, s8, s9, s10, s11, s12, s13, s14, s15⟩
                go_simp
                with_reducible rfl
              rotate_left
              · simp only [Act.put, List.setIfInBounds_toArray, List.set_cons_zero, List.set_cons_succ, i64_w, i32_w]
                rfl
              refine take_ (i := 31) (N := some 93) (v := ?_) (a' := ?_) #[true, true, true, true, true, true, true, true, true, true, true, true, true, true, true, true, true, true, true, true, true, true, true, true, true, true, true, true, false, true, true, true, true, false, false, false, true, false, true, false, false, false, false, false, false, false] rfl rfl (take_ofW HT_.out HW_.out (by kernel_rfl)) (fun _ _ _ h => h) (Or.inl ⟨by rfl, ?_⟩) hHeld ?_ ?_
              rotate_left
              · rintro w' ⟨s0, s1, s2, s3, s4, s5, s6, s7, s8, s9, s10, s11, s12, s13, s14, s15⟩
                go_simp
                with_reducible rfl
              rotate_left
              · simp only [Act.put, List.setIfInBounds_toArray, List.set_cons_zero, List.set_cons_succ, i64_w, i32_w]
                rfl
              refine take_ (i := 33) (N := some 95) (v := ?_) (a' := ?_) #[true, true, true, true, true, true, true, true, true, true, true, true, true, true, true, true, true, true, true, true, true, true, true, true, true, true, true, true, false, true, true, true, true, true, false, false, true, false, true, false, false, false, false, false, false, false] rfl rfl (take_ofW HT_.out HW_.out (by kernel_rfl)) (fun _ _ _ h => h) (Or.inl ⟨by rfl, ?_⟩) hHeld ?_ ?_
              rotate_left
              · rintro w' ⟨s0, s1, s2, s3, s4, s5, s6, s7, s8, s9, s10, s11, s12, s13, s14, s15⟩
                go_simp
                with_reducible rfl
              rotate_left
              · simp only [Act.put, List.setIfInBounds_toArray, List.set_cons_zero, List.set_cons_succ, i64_w, i32_w]
                rfl
              refine pure_ (i := 34) (N := some 96) (v := ?_) (a' := ?_) #[true, true, true, true, true, true, true, true, true, true, true, true, true, true, true, true, true, true, true, true, true, true, true, true, true, true, true, true, false, true, true, true, true, true, true, false, true, false, true, false, false, false, false, false, false, false] rfl rfl (any_of HT_.out (by kernel_rfl)) (fun _ _ _ h => h) (Or.inl ⟨by rfl, ?_⟩) ?_ ?_
              rotate_left
              · intro w'
                go_simp
                with_reducible rfl
              rotate_left
              · simp only [Act.put, List.setIfInBounds_toArray, List.set_cons_zero, List.set_cons_succ, i64_w, i32_w]
                rfl
              refine pure_ (i := 35) (N := some 97) (v := ?_) (a' := ?_) #[true, true, true, true, true, true, true, true, true, true, true, true, true, true, true, true, true, true, true, true, true, true, true, true, true, true, true, true, false, true, true, true, true, true, true, true, true, false, true, false, false, false, false, false, false, false] rfl rfl (any_of HT_.out (by kernel_rfl)) (fun _ _ _ h => h) (Or.inl ⟨by rfl, ?_⟩) ?_ ?_
              rotate_left
              · intro w'
                go_simp
                with_reducible rfl
              rotate_left
              · simp only [Act.put, List.setIfInBounds_toArray, List.set_cons_zero, List.set_cons_succ, i64_w, i32_w]
                rfl
              refine take_ (i := 37) (N := some 99) (v := ?_) (a' := ?_) #[true, true, true, true, true, true, true, true, true, true, true, true, true, true, true, true, true, true, true, true, true, true, true, true, true, true, true, true, false, true, true, true, true, true, true, true, true, true, true, false, false, false, false, false, false, false] rfl rfl (take_ofW HT_.out HW_.out (by kernel_rfl)) (fun _ _ _ h => h) (Or.inl ⟨by rfl, ?_⟩) hHeld ?_ ?_
              rotate_left
              · rintro w' ⟨s0, s1, s2, s3, s4, s5, s6, s7, s8, s9, s10, s11, s12, s13, s14, s15⟩
                go_simp
                with_reducible rfl
              rotate_left
              · simp only [Act.put, List.setIfInBounds_toArray, List.set_cons_zero, List.set_cons_succ, i64_w, i32_w]
                rfl
              refine take_ (i := 39) (N := some 101) (v := ?_) (a' := ?_) #[true, true, true, true, true, true, true, true, true, true, true, true, true, true, true, true, true, true, true, true, true, true, true, true, true, true, true, true, false, true, true, true, true, true, true, true, true, true, true, true, false, false, false, false, false, false] rfl rfl (take_ofW HT_.out HW_.out (by kernel_rfl)) (fun _ _ _ h => h) (Or.inl ⟨by rfl, ?_⟩) hHeld ?_ ?_
              rotate_left
              · rintro w' ⟨s0, s1, s2, s3, s4, s5, s6, s7, s8, s9, s10, s11, s12, s13, s14, s15⟩
                go_simp
                with_reducible rfl
              rotate_left
              · simp only [Act.put, List.setIfInBounds_toArray, List.set_cons_zero, List.set_cons_succ, i64_w, i32_w]
                rfl
              refine pure_ (i := 40) (N := some 102) (v := ?_) (a' := ?_) #[true, true, true, true, true, true, true, true, true, true, true, true, true, true, true, true, true, true, true, true, true, true, true, true, true, true, true, true, false, true, true, true, true, true, true, true, true, true, true, true, true, false, false, false, false, false] rfl rfl (any_of HT_.out (by kernel_rfl)) (fun _ _ _ h => h) (Or.inl ⟨by rfl, ?_⟩) ?_ ?_
              rotate_left
              · intro w'
                go_simp
                with_reducible rfl
              rotate_left
              · simp only [Act.put, List.setIfInBounds_toArray, List.set_cons_zero, List.set_cons_succ, i64_w, i32_w]
                rfl
              refine pure_ (i := 41) (N := some 103) (v := ?_) (a' := ?_) #[true, true, true, true, true, true, true, true, true, true, true, true, true, true, true, true, true, true, true, true, true, true, true, true, true, true, true, true, false, true, true, true, true, true, true, true, true, true, true, true, true, true, false, false, false, false] rfl rfl (any_of HT_.out (by kernel_rfl)) (fun _ _ _ h => h) (Or.inl ⟨by rfl, ?_⟩) ?_ ?_
              rotate_left
              · intro w'
                go_simp
                with_reducible rfl
              rotate_left
              · simp only [Act.put, List.setIfInBounds_toArray, List.set_cons_zero, List.set_cons_succ, i64_w, i32_w]
                rfl
              refine one_ (i := 28) (N := some 90) #[true, true, true, true, true, true, true, true, true, true, true, true, true, true, true, true, true, true, true, true, true, true, true, true, true, true, true, true, true, true, true, true, true, true, true, true, true, true, true, true, true, true, false, false, false, false] rfl rfl (one_of HT_.out (by kernel_rfl)) (by decide) (fun K hK => ?_)
              refine goes_ Try.func20 (by kernel_rfl) rfl #[.agg #[.int .i64 t408, .int .i64 t409, .int .i64 t410, .slice Ao19 t411.length co19], .int .i64 (wrap64 (t404 - 1)), .int .i64 (wrap64 (t405 - 1))] (by rfl) rfl rfl B.am ?_
              with_reducible refine (impl_PixelAt.calls t408 t409 t410 _ _ t411 (wrap64 (t404 - 1)) (wrap64 (t405 - 1)) t435 _ ?side1 ?side2 A73.out).mono ?_
              (case side1 => exact B.kc ((Kd.Q_reads' HO_416003.out).2.2))
              (case side2 => exact (Kd.Q_reads' HO_416003.out).2.1)
              rintro e w96 ⟨v436, rfl, ho0, hb⟩
              refine ⟨_, rfl, ?_⟩
              have n0_ := Aside0.mk (Kd.Q_elder' (B.kq HO_407003) (Kd.R_base ho0) hb)
              have n1_ := Aside0.mk (Kd.Q_elder' (B.kq HO_416003) (Kd.R_base ho0) hb)
              have n2_ := Aside0.mk (Kd.Q_elder' (B.kq HO_424003) (Kd.R_base ho0) hb)
              have n3_ := Aside0.mk (Kd.R_elder' (B.kr HO431) (Kd.R_base ho0) hb)
              have n4_ := Aside0.mk (Kd.R_lower (Kd.R_new' (Kd.R_new' (Kd.R_new' (Kd.R_new' ho0 (Kd.Q_lt (B.kq HO_407003))) (Kd.Q_lt (B.kq HO_416003))) (Kd.Q_lt (B.kq HO_424003))) (Kd.R_lt (B.kr HO431))) (below_size (B.bl HB)))
              have n5_ := Aside0.mk (blk_below (B.kb BK406) hb)
              have n6_ := Aside0.mk (blk_below (B.kb BK407) hb)
              have n7_ := Aside0.mk (blk_below (B.kb BK415) hb)
              have n8_ := Aside0.mk (blk_below (B.kb BK423) hb)
              have n9_ := Aside0.mk (blk_below (B.kb BK433) hb)
              have n10_ := Aside0.mk (below_step (B.bl HB) hb)
              clear HO_407003 HO_416003 HO_424003 HO431 BK406 BK407 BK415 BK423 BK433 HB
              have HO_407003 := n0_
              have HO_416003 := n1_
              have HO_424003 := n2_
              have HO431 := n3_
              have HO437 := n4_
              have BK406 := n5_
              have BK407 := n6_
              have BK415 := n7_
              have BK423 := n8_
              have BK433 := n9_
              have HB := n10_
              clear n0_ n1_ n2_ n3_ n4_ n5_ n6_ n7_ n8_ n9_ n10_
              (try clear hb)
              (try clear hb2)
              (try clear hk)
              (try clear hi)
              (try clear ho0)
              refine hK.out _ _ ⟨B.bc BK433 0, B.bc BK433 1, B.bc BK433 2, B.bc BK433 3, B.bc BK406 0, B.bc BK406 1, B.bc BK406 2, B.bc BK406 3, B.bc BK415 0, B.bc BK415 1, B.bc BK415 2, B.bc BK415 3, B.bc BK407 0, B.bc BK407 1, B.bc BK407 2, B.bc BK407 3⟩ (fun hHeld => ?_)
              clear hK K
              refine norm_ (a' := ?_) ?_ ?_
              rotate_left
              · show Act.put _ (some 90) _ = _
                simp only [Act.put, List.setIfInBounds_toArray, List.set_cons_zero, List.set_cons_succ, i64_w, i32_w]
                rfl
              refine one_ (i := 42) (N := some 104) #[true, true, true, true, true, true, true, true, true, true, true, true, true, true, true, true, true, true, true, true, true, true, true, true, true, true, true, true, true, true, true, true, true, true, true, true, true, true, true, true, true, true, true, false, false, false] rfl rfl (one_of HT_.out (by kernel_rfl)) (by decide) (fun K hK => ?_)
              refine goes_ Try.func20 (by kernel_rfl) rfl #[.agg #[.int .i64 t396, .int .i64 t397, .int .i64 t398, .slice Ao12 t399.length co12], .int .i64 (wrap64 ((wrap64 (t402 + t404)) - 1)), .int .i64 (wrap64 ((wrap64 (t403 + t405)) - 1))] (by rfl) rfl rfl B.am ?_
              with_reducible refine (impl_PixelAt.calls t396 t397 t398 _ _ t399 (wrap64 ((wrap64 (t402 + t404)) - 1)) (wrap64 ((wrap64 (t403 + t405)) - 1)) t438 _ ?side1 ?side2 A74.out).mono ?_
              (case side1 => exact B.kc ((Kd.Q_reads' HO_407003.out).2.2))
              (case side2 => exact (Kd.Q_reads' HO_407003.out).2.1)
              rintro e w97 ⟨v439, rfl, ho0, hb⟩
              refine ⟨_, rfl, ?_⟩
              have n0_ := Aside0.mk (Kd.Q_elder' (B.kq HO_407003) (Kd.R_base ho0) hb)
              have n1_ := Aside0.mk (Kd.Q_elder' (B.kq HO_416003) (Kd.R_base ho0) hb)
              have n2_ := Aside0.mk (Kd.Q_elder' (B.kq HO_424003) (Kd.R_base ho0) hb)
              have n3_ := Aside0.mk (Kd.R_elder' (B.kr HO431) (Kd.R_base ho0) hb)
              have n4_ := Aside0.mk (Kd.R_elder' (B.kr HO437) (Kd.R_base ho0) hb)
              have n5_ := Aside0.mk (Kd.R_lower (Kd.R_new' (Kd.R_new' (Kd.R_new' (Kd.R_new' (Kd.R_new' ho0 (Kd.Q_lt (B.kq HO_407003))) (Kd.Q_lt (B.kq HO_416003))) (Kd.Q_lt (B.kq HO_424003))) (Kd.R_lt (B.kr HO431))) (Kd.R_lt (B.kr HO437))) (below_size (B.bl HB)))
              have n6_ := Aside0.mk (blk_below (B.kb BK406) hb)
              have n7_ := Aside0.mk (blk_below (B.kb BK407) hb)
              have n8_ := Aside0.mk (blk_below (B.kb BK415) hb)
              have n9_ := Aside0.mk (blk_below (B.kb BK423) hb)
              have n10_ := Aside0.mk (blk_below (B.kb BK433) hb)
              have n11_ := Aside0.mk (below_step (B.bl HB) hb)
              clear HO_407003 HO_416003 HO_424003 HO431 HO437 BK406 BK407 BK415 BK423 BK433 HB
              have HO_407003 := n0_
              have HO_416003 := n1_
              have HO_424003 := n2_
              have HO431 := n3_
              have HO437 := n4_
              have HO440 := n5_
              have BK406 := n6_
              have BK407 := n7_
              have BK415 := n8_
              have BK423 := n9_
              have BK433 := n10_
              have HB := n11_
              clear n0_ n1_ n2_ n3_ n4_ n5_ n6_ n7_ n8_ n9_ n10_ n11_
              (try clear hb)
              (try clear hb2)
              (try clear hk)
              (try clear hi)
              (try clear ho0)
              obtain ⟨Ao98, co98, eo98⟩ := Kd.R_slice HO437.out
              (first | subst eo98 | (injection eo98 with f1_ f2_ f3_; have f4_ := f1_.symm; have f5_ := f3_.symm; clear f1_ f2_ f3_; subst f4_; subst f5_))
              obtain ⟨Ao99, co99, eo99⟩ := Kd.R_slice HO440.out
              (first | subst eo99 | (injection eo99 with f1_ f2_ f3_; have f4_ := f1_.symm; have f5_ := f3_.symm; clear f1_ f2_ f3_; subst f4_; subst f5_))
              refine hK.out _ _ ⟨B.bc BK433 0, B.bc BK433 1, B.bc BK433 2, B.bc BK433 3, B.bc BK406 0, B.bc BK406 1, B.bc BK406 2, B.bc BK406 3, B.bc BK415 0, B.bc BK415 1, B.bc BK415 2, B.bc BK415 3, B.bc BK407 0, B.bc BK407 1, B.bc BK407 2, B.bc BK407 3⟩ (fun hHeld => ?_)
              clear hK K
              refine norm_ (a' := ?_) ?_ ?_
              rotate_left
              · show Act.put _ (some 104) _ = _
                simp only [Act.put, List.setIfInBounds_toArray, List.set_cons_zero, List.set_cons_succ, i64_w, i32_w]
                rfl
              refine one_ (i := 43) (N := some 105) #[true, true, true, true, true, true, true, true, true, true, true, true, true, true, true, true, true, true, true, true, true, true, true, true, true, true, true, true, true, true, true, true, true, true, true, true, true, true, true, true, true, true, true, true, false, false] rfl rfl (one_of HT_.out (by kernel_rfl)) (by decide) (fun K hK => ?_)
              refine goes_ Try.func19 (by kernel_rfl) rfl #[.slice Ao98 t435.length co98, .slice Ao99 t438.length co99] (by rfl) rfl rfl B.am ?_
              with_reducible refine (laws_equalInts.calls kj5 _ _ t435 _ _ t438 t441 _ ?side1 ?side2 ?side3 ?side4 A75.out).mono ?_
              (case side1 => exact B.kc ((Kd.R_reads' HO437.out).2.2))
              (case side2 => exact (Kd.R_reads' HO437.out).2.1)
              (case side3 => exact B.kc ((Kd.R_reads' HO440.out).2.2))
              (case side4 => exact (Kd.R_reads' HO440.out).2.1)
              rintro e w' ⟨rfl, ⟨nd, rfl⟩⟩
              refine ⟨_, rfl, ?_⟩
              refine hK.out _ _ ⟨B.bc BK433 0, B.bc BK433 1, B.bc BK433 2, B.bc BK433 3, B.bc BK406 0, B.bc BK406 1, B.bc BK406 2, B.bc BK406 3, B.bc BK415 0, B.bc BK415 1, B.bc BK415 2, B.bc BK415 3, B.bc BK407 0, B.bc BK407 1, B.bc BK407 2, B.bc BK407 3⟩ (fun hHeld => ?_)
              clear hK K
              refine norm_ (a' := ?_) ?_ ?_
              rotate_left
              · show Act.put _ (some 105) _ = _
                simp only [Act.put, List.setIfInBounds_toArray, List.set_cons_zero, List.set_cons_succ, i64_w, i32_w]
                rfl
              refine pure_ (i := 44) (N := some 106) (v := ?_) (a' := ?_) #[true, true, true, true, true, true, true, true, true, true, true, true, true, true, true, true, true, true, true, true, true, true, true, true, true, true, true, true, true, true, true, true, true, true, true, true, true, true, true, true, true, true, true, true, true, false] rfl rfl (any_of HT_.out (by kernel_rfl)) (fun _ _ _ h => h) (Or.inl ⟨by rfl, ?_⟩) ?_ ?_
              rotate_left
              · intro w'
                go_simp
                with_reducible rfl
              rotate_left
              · simp only [Act.put, List.setIfInBounds_toArray, List.set_cons_zero, List.set_cons_succ, i64_w, i32_w]
                rfl
              refine pure_ (i := 45) (N := some 2) (v := ?_) (a' := ?_) #[true, true, true, true, true, true, true, true, true, true, true, true, true, true, true, true, true, true, true, true, true, true, true, true, true, true, true, true, true, true, true, true, true, true, true, true, true, true, true, true, true, true, true, true, true, true] rfl rfl (any_of HT_.out (by kernel_rfl)) (fun _ _ _ h => h) (Or.inl ⟨by rfl, ?_⟩) ?_ ?_
              rotate_left
              · intro w'
                go_simp
                with_reducible rfl
              rotate_left
              · simp only [Act.put, List.setIfInBounds_toArray, List.set_cons_zero, List.set_cons_succ, i64_w, i32_w]
                rfl
              refine done_ (done_of HT_.out (by kernel_rfl)) ?_
              try go_wp2
              go_ret
              exact ⟨by first | rfl | (simp [errW_none, errW_some] <;> rfl) | (simp [*, errW_none, errW_some] <;> rfl), B.bl HB⟩
            rw [if_neg c72] at H
            have c72b0 : (t409 == t405) = false := beq_eq_false_iff_ne.mpr c72
            have c72b1 : (t409 != t405) = true := bne_iff_ne.mpr c72
            obtain rfl := Option.some.inj H
            exact absurd ht_.out (by decide)
          rw [if_neg c71] at H
          have c71b0 : (t408 == t404) = false := beq_eq_false_iff_ne.mpr c71
          have c71b1 : (t408 != t404) = true := bne_iff_ne.mpr c71
          obtain rfl := Option.some.inj H
          exact absurd ht_.out (by decide)
        replace c70 := Bool.eq_false_iff.mpr c70
        subst c70
        have H1 : (some false) = some r := by rw [if_neg (show ¬ (false = true) by decide)] at H; exact H
        clear H
        have H := H1
        clear H1
        obtain rfl := Option.some.inj H
        exact absurd ht_.out (by decide)
      replace c68 := Bool.eq_false_iff.mpr c68
      subst c68
      have H1 : (some false) = some r := by rw [if_neg (show ¬ (false = true) by decide)] at H; exact H
      clear H
      have H := H1
      clear H1
      obtain rfl := Option.some.inj H
      exact absurd ht_.out (by decide)

/-- THE ONE PURE STATEMENT of laws_FnCropImage: yours. -/
def laws_FnCropImage.Pure : Prop := ∀ (l0 : List Int), l0.length ≤ maxLen → l0.length * 1 ≤ 140737488351232 → (∀ x ∈ l0, (Lit.int .u8 x).wf = true) → ∃ k, laws_FnCropImage.f k l0 = some true
theorem laws_FnCropImage.walk (P : laws_FnCropImage.Pure) (a0 : Option Addr) (len0 cap0 : Nat) (z0 : List Int) (w : World) (w0 : (a0 = none ∧ len0 = 0 ∧ cap0 = 0 ∧ z0 = []) ∨ ∃ x, a0 = some x ∧ len0 ≤ cap0 ∧ cap0 ≤ maxLen ∧ z0.length = cap0 ∧ (∀ i, i < z0.length → w.cell? (x.add i) = some (.int .u8 (z0.getD i 0))) ∧ ∀ n ∈ z0, (Lit.int .u8 n).wf = true) (y0 : len0 * 1 ≤ 140737488351232) :
    Calls Try.prog 4 #[.slice a0 len0 cap0] w fun e w' => e = .returned (.bool true) ∧ Below w.heap.size w w' := by
  obtain ⟨l0, rfl, hr0, hm0, hw0, hc0⟩ := ReadsInt.ofRowC w0
  obtain ⟨k, h⟩ := P l0 hm0 y0 hw0
  refine (laws_FnCropImage.calls k _ _ l0 true w (Kd.C_of_reads (d := (0 : Int)) (h1 := fun _ => rfl) hr0) hc0 h ⟨rfl⟩).mono ?_
  rintro e w' ⟨rfl, hd⟩
  exact ⟨rfl, hd⟩

end Go.Proofs.Ytmljcnhecjlinaa.Q
