-- Written by a program of this session (the kit's printer, with hand-proved contracts for the functions that it does not take).
import Derived.Test.YtmljcnhecjlinaaQ0
import Derived.Test.YtmljcnhecjlinaaQ3
import Derived.Test.YtmljcnhecjlinaaQ4
import Derived.Test.YtmljcnhecjlinaaQ10
import Derived.Test.YtmljcnhecjlinaaQ14
namespace Go.Proofs.Ytmljcnhecjlinaa.Q
open Go.RowKit Go.Proofs.YtmljcnhecjlinaaW.PrintWords Go.Proofs.YtmljcnhecjlinaaW.PrintLast Go.Proofs.YtmljcnhecjlinaaW.PrintMore
attribute [local go_sem] max2_int min2_int max_two min_two max_three min_three max_four min_four   -- for this text's walks alone
set_option linter.unusedVariables false
set_option linter.unusedSimpArgs false

/-! ### laws_FnExactCropImage: function 3 -/
mutual
def laws_FnExactCropImage.j0 : Nat → Bool → Bool → Bool → Int → Int → Int → List Int → Int → Int → Int → Int → Int → Int → Int → List Int → Int → Int → Int → List Int → Int → Int → Int → List Int → Option (Bool)
  | 0, _, _, _, _, _, _, _, _, _, _, _, _, _, _, _, _, _, _, _, _, _, _, _ => none
  | k + 1, x7, x10, x46, x193000, x193001, x193002, x193003, x194000, x194001, x194002, x194003, x213000, x213001, x213002, x213003, x220000, x220001, x220002, x220003, x232000, x232001, x232002, x232003 => if x46 = true then (some false) else ((laws_toImage.f k x193000 x193001 x193002 x193003).bind fun bt233 => ((laws_eqImage.f k x220000 x220001 x220002 x220003 bt233.1 bt233.2.1 bt233.2.2.1 bt233.2.2.2).bind fun t239 => (if t239 = true then ((laws_markImage.f k x220000 x220001 x220002 x220003 1).bind fun bt240 => (if bt240.1 < 0 then (laws_FnExactCropImage.j1 k x7 true x193000 x193001 x193002 x193003 x194000 x194001 x194002 x194003 x213000 x213001 x213002 x213003 x232000 x232001 x232002 x232003) else ((laws_eqImage.f k x232000 x232001 x232002 x232003 x213000 x213001 x213002 x213003).bind fun t242 => (if t242 = true then (laws_FnExactCropImage.j1 k x7 (x10 != x7) x193000 x193001 x193002 x193003 x194000 x194001 x194002 x194003 x213000 x213001 x213002 x213003 x232000 x232001 x232002 x232003) else (laws_FnExactCropImage.j1 k x7 true x193000 x193001 x193002 x193003 x194000 x194001 x194002 x194003 x213000 x213001 x213002 x213003 x232000 x232001 x232002 x232003))))) else (some false))))
def laws_FnExactCropImage.j1 : Nat → Bool → Bool → Int → Int → Int → List Int → Int → Int → Int → Int → Int → Int → Int → List Int → Int → Int → Int → List Int → Option (Bool)
  | 0, _, _, _, _, _, _, _, _, _, _, _, _, _, _, _, _, _, _ => none
  | k + 1, x7, x67, x193000, x193001, x193002, x193003, x194000, x194001, x194002, x194003, x213000, x213001, x213002, x213003, x232000, x232001, x232002, x232003 => if x67 = true then (some false) else ((laws_markImage.f k x232000 x232001 x232002 x232003 1).bind fun bt243 => ((laws_heldImage.f k x232000 x232001 x232002 bt243.2 1).bind fun t245 => (if t245 < 0 then (some false) else (if t245 = bt243.1 then ((laws_toImage.f k x193000 x193001 x193002 x193003).bind fun bt246 => ((laws_toBox.f x194000 x194001 x194002 x194003).bind fun bt252 => ((impl_CropImage.f bt246.1 bt246.2.1 bt246.2.2.1 bt246.2.2.2 bt252.1 bt252.2.1 bt252.2.2.1 bt252.2.2.2).bind fun bt256 => ((laws_eqImage.f k bt256.1 bt256.2.1 bt256.2.2.1 bt256.2.2.2.1 x213000 x213001 x213002 x213003).bind fun t264 => (if t264 = true then (laws_FnExactCropImage.j2 k bt243.1 (bt256.2.2.2.2 != x7) x232000 x232001 x232002 bt243.2) else (laws_FnExactCropImage.j2 k bt243.1 true x232000 x232001 x232002 bt243.2)))))) else (some false)))))
def laws_FnExactCropImage.j2 : Nat → Int → Bool → Int → Int → Int → List Int → Option (Bool)
  | 0, _, _, _, _, _, _ => none
  | k + 1, x12, x95, x232000, x232001, x232002, x232003 => if x95 = true then (some false) else ((laws_heldImage.f k x232000 x232001 x232002 x232003 1).bind fun t265 => (if t265 < 0 then (some false) else (if t265 = x12 then (some true) else (some false))))
end
def laws_FnExactCropImage.f (k : Nat) (a0_0 : Int) (a0_1 : Int) (a0_2 : Int) (l0_3 : List Int) (a1_0 : Int) (a1_1 : Int) (a1_2 : Int) (a1_3 : Int) : Option (Bool) := (laws_szImage.f a0_0 a0_1 a0_2 l0_3 1048576).bind fun t194 => (if t194 < 0 then (some true) else ((laws_toImage.f k a0_0 a0_1 a0_2 l0_3).bind fun bt195 => ((laws_toBox.f a1_0 a1_1 a1_2 a1_3).bind fun bt201 => ((spec_CropImage.f k bt195.1 bt195.2.1 bt195.2.2.1 bt195.2.2.2 bt201.1 bt201.2.1 bt201.2.2.1 bt201.2.2.2).bind fun bt205 => ((laws_toImage.f k a0_0 a0_1 a0_2 l0_3).bind fun bt213 => ((laws_toBox.f a1_0 a1_1 a1_2 a1_3).bind fun bt220 => ((impl_CropImage.f bt213.1 bt213.2.1 bt213.2.2.1 bt213.2.2.2 bt220.1 bt220.2.1 bt220.2.2.1 bt220.2.2.2).bind fun bt224 => ((laws_eqImage.f k bt224.1 bt224.2.1 bt224.2.2.1 bt224.2.2.2.1 bt205.1 bt205.2.1 bt205.2.2.1 bt205.2.2.2.1).bind fun t232 => (if t232 = true then (laws_FnExactCropImage.j0 k bt205.2.2.2.2 bt224.2.2.2.2 (bt224.2.2.2.2 != bt205.2.2.2.2) a0_0 a0_1 a0_2 l0_3 a1_0 a1_1 a1_2 a1_3 bt205.1 bt205.2.1 bt205.2.2.1 bt205.2.2.2.1 bt213.1 bt213.2.1 bt213.2.2.1 bt213.2.2.2 bt224.1 bt224.2.1 bt224.2.2.1 bt224.2.2.2.1) else (laws_FnExactCropImage.j0 k bt205.2.2.2.2 bt224.2.2.2.2 true a0_0 a0_1 a0_2 l0_3 a1_0 a1_1 a1_2 a1_3 bt205.1 bt205.2.1 bt205.2.2.1 bt205.2.2.2.1 bt213.1 bt213.2.1 bt213.2.2.1 bt213.2.2.2 bt224.1 bt224.2.1 bt224.2.2.1 bt224.2.2.2.1))))))))))
theorem laws_FnExactCropImage.mono_l : ∀ k, (∀ y0 y1 y2 y3 y4 y5 y6 y7 y8 y9 y10 y11 y12 y13 y14 y15 y16 y17 y18 y19 y20 y21 y22, LeO (laws_FnExactCropImage.j0 k y0 y1 y2 y3 y4 y5 y6 y7 y8 y9 y10 y11 y12 y13 y14 y15 y16 y17 y18 y19 y20 y21 y22) (laws_FnExactCropImage.j0 (k + 1) y0 y1 y2 y3 y4 y5 y6 y7 y8 y9 y10 y11 y12 y13 y14 y15 y16 y17 y18 y19 y20 y21 y22)) ∧ (∀ y0 y1 y2 y3 y4 y5 y6 y7 y8 y9 y10 y11 y12 y13 y14 y15 y16 y17, LeO (laws_FnExactCropImage.j1 k y0 y1 y2 y3 y4 y5 y6 y7 y8 y9 y10 y11 y12 y13 y14 y15 y16 y17) (laws_FnExactCropImage.j1 (k + 1) y0 y1 y2 y3 y4 y5 y6 y7 y8 y9 y10 y11 y12 y13 y14 y15 y16 y17)) ∧ (∀ y0 y1 y2 y3 y4 y5, LeO (laws_FnExactCropImage.j2 k y0 y1 y2 y3 y4 y5) (laws_FnExactCropImage.j2 (k + 1) y0 y1 y2 y3 y4 y5))
  | 0 => ⟨fun _ _ _ _ _ _ _ _ _ _ _ _ _ _ _ _ _ _ _ _ _ _ _ r h => by simp [laws_FnExactCropImage.j0] at h, fun _ _ _ _ _ _ _ _ _ _ _ _ _ _ _ _ _ _ r h => by simp [laws_FnExactCropImage.j1] at h, fun _ _ _ _ _ _ r h => by simp [laws_FnExactCropImage.j2] at h⟩
  | k + 1 => by
    obtain ⟨ih0, ih1, ih2⟩ := laws_FnExactCropImage.mono_l k
    refine ⟨?_, ?_, ?_⟩
    · intro y0 y1 y2 y3 y4 y5 y6 y7 y8 y9 y10 y11 y12 y13 y14 y15 y16 y17 y18 y19 y20 y21 y22
      unfold laws_FnExactCropImage.j0
      repeat' first
      | (with_reducible exact ih0 _ _ _ _ _ _ _ _ _ _ _ _ _ _ _ _ _ _ _ _ _ _ _)
      | (with_reducible exact ih1 _ _ _ _ _ _ _ _ _ _ _ _ _ _ _ _ _ _)
      | (with_reducible exact ih2 _ _ _ _ _ _)
      | (with_reducible exact laws_eqImage.mono _ _ _ _ _ _ _ _ _)
      | (with_reducible exact laws_heldImage.mono _ _ _ _ _ _)
      | (with_reducible exact laws_markImage.mono _ _ _ _ _ _)
      | (with_reducible exact laws_toImage.mono _ _ _ _ _)
      | (with_reducible exact spec_CropImage.mono _ _ _ _ _ _ _ _ _)
      | (with_reducible exact LeO.refl _)
      | (with_reducible exact LeO.none _)
      | (with_reducible refine LeO.ite ?_ ?_)
      | (with_reducible refine LeO.bind ?_ (fun _ => ?_))
      | exact ih0 _ _ _ _ _ _ _ _ _ _ _ _ _ _ _ _ _ _ _ _ _ _ _
      | exact ih1 _ _ _ _ _ _ _ _ _ _ _ _ _ _ _ _ _ _
      | exact ih2 _ _ _ _ _ _
      | exact laws_eqImage.mono _ _ _ _ _ _ _ _ _
      | exact laws_heldImage.mono _ _ _ _ _ _
      | exact laws_markImage.mono _ _ _ _ _ _
      | exact laws_toImage.mono _ _ _ _ _
      | exact spec_CropImage.mono _ _ _ _ _ _ _ _ _
      | exact LeO.none _
      | refine LeO.ite ?_ ?_
      | refine LeO.bind ?_ (fun _ => ?_)
    · intro y0 y1 y2 y3 y4 y5 y6 y7 y8 y9 y10 y11 y12 y13 y14 y15 y16 y17
      unfold laws_FnExactCropImage.j1
      repeat' first
      | (with_reducible exact ih0 _ _ _ _ _ _ _ _ _ _ _ _ _ _ _ _ _ _ _ _ _ _ _)
      | (with_reducible exact ih1 _ _ _ _ _ _ _ _ _ _ _ _ _ _ _ _ _ _)
      | (with_reducible exact ih2 _ _ _ _ _ _)
      | (with_reducible exact laws_eqImage.mono _ _ _ _ _ _ _ _ _)
      | (with_reducible exact laws_heldImage.mono _ _ _ _ _ _)
      | (with_reducible exact laws_markImage.mono _ _ _ _ _ _)
      | (with_reducible exact laws_toImage.mono _ _ _ _ _)
      | (with_reducible exact spec_CropImage.mono _ _ _ _ _ _ _ _ _)
      | (with_reducible exact LeO.refl _)
      | (with_reducible exact LeO.none _)
      | (with_reducible refine LeO.ite ?_ ?_)
      | (with_reducible refine LeO.bind ?_ (fun _ => ?_))
      | exact ih0 _ _ _ _ _ _ _ _ _ _ _ _ _ _ _ _ _ _ _ _ _ _ _
      | exact ih1 _ _ _ _ _ _ _ _ _ _ _ _ _ _ _ _ _ _
      | exact ih2 _ _ _ _ _ _
      | exact laws_eqImage.mono _ _ _ _ _ _ _ _ _
      | exact laws_heldImage.mono _ _ _ _ _ _
      | exact laws_markImage.mono _ _ _ _ _ _
      | exact laws_toImage.mono _ _ _ _ _
      | exact spec_CropImage.mono _ _ _ _ _ _ _ _ _
      | exact LeO.none _
      | refine LeO.ite ?_ ?_
      | refine LeO.bind ?_ (fun _ => ?_)
    intro y0 y1 y2 y3 y4 y5
    unfold laws_FnExactCropImage.j2
    repeat' first
    | (with_reducible exact ih0 _ _ _ _ _ _ _ _ _ _ _ _ _ _ _ _ _ _ _ _ _ _ _)
    | (with_reducible exact ih1 _ _ _ _ _ _ _ _ _ _ _ _ _ _ _ _ _ _)
    | (with_reducible exact ih2 _ _ _ _ _ _)
    | (with_reducible exact laws_eqImage.mono _ _ _ _ _ _ _ _ _)
    | (with_reducible exact laws_heldImage.mono _ _ _ _ _ _)
    | (with_reducible exact laws_markImage.mono _ _ _ _ _ _)
    | (with_reducible exact laws_toImage.mono _ _ _ _ _)
    | (with_reducible exact spec_CropImage.mono _ _ _ _ _ _ _ _ _)
    | (with_reducible exact LeO.refl _)
    | (with_reducible exact LeO.none _)
    | (with_reducible refine LeO.ite ?_ ?_)
    | (with_reducible refine LeO.bind ?_ (fun _ => ?_))
    | exact ih0 _ _ _ _ _ _ _ _ _ _ _ _ _ _ _ _ _ _ _ _ _ _ _
    | exact ih1 _ _ _ _ _ _ _ _ _ _ _ _ _ _ _ _ _ _
    | exact ih2 _ _ _ _ _ _
    | exact laws_eqImage.mono _ _ _ _ _ _ _ _ _
    | exact laws_heldImage.mono _ _ _ _ _ _
    | exact laws_markImage.mono _ _ _ _ _ _
    | exact laws_toImage.mono _ _ _ _ _
    | exact spec_CropImage.mono _ _ _ _ _ _ _ _ _
    | exact LeO.none _
    | refine LeO.ite ?_ ?_
    | refine LeO.bind ?_ (fun _ => ?_)
theorem laws_FnExactCropImage.mono : ∀ a0 a1 a2 a3 a4 a5 a6 a7 k, LeO (laws_FnExactCropImage.f k a0 a1 a2 a3 a4 a5 a6 a7) (laws_FnExactCropImage.f (k + 1) a0 a1 a2 a3 a4 a5 a6 a7) := by
  intro a0 a1 a2 a3 a4 a5 a6 a7 k
  obtain ⟨ih0, ih1, ih2⟩ := laws_FnExactCropImage.mono_l k
  unfold laws_FnExactCropImage.f
  repeat' first
      | (with_reducible exact ih0 _ _ _ _ _ _ _ _ _ _ _ _ _ _ _ _ _ _ _ _ _ _ _)
      | (with_reducible exact ih1 _ _ _ _ _ _ _ _ _ _ _ _ _ _ _ _ _ _)
      | (with_reducible exact ih2 _ _ _ _ _ _)
      | (with_reducible exact laws_eqImage.mono _ _ _ _ _ _ _ _ _)
      | (with_reducible exact laws_heldImage.mono _ _ _ _ _ _)
      | (with_reducible exact laws_markImage.mono _ _ _ _ _ _)
      | (with_reducible exact laws_toImage.mono _ _ _ _ _)
      | (with_reducible exact spec_CropImage.mono _ _ _ _ _ _ _ _ _)
      | (with_reducible exact LeO.refl _)
      | (with_reducible exact LeO.none _)
      | (with_reducible refine LeO.ite ?_ ?_)
      | (with_reducible refine LeO.bind ?_ (fun _ => ?_))
      | exact ih0 _ _ _ _ _ _ _ _ _ _ _ _ _ _ _ _ _ _ _ _ _ _ _
      | exact ih1 _ _ _ _ _ _ _ _ _ _ _ _ _ _ _ _ _ _
      | exact ih2 _ _ _ _ _ _
      | exact laws_eqImage.mono _ _ _ _ _ _ _ _ _
      | exact laws_heldImage.mono _ _ _ _ _ _
      | exact laws_markImage.mono _ _ _ _ _ _
      | exact laws_toImage.mono _ _ _ _ _
      | exact spec_CropImage.mono _ _ _ _ _ _ _ _ _
      | exact LeO.none _
      | refine LeO.ite ?_ ?_
      | refine LeO.bind ?_ (fun _ => ?_)
def laws_FnExactCropImage.T5 : Bool × List (List Nat × List Nat) := (true, [([], []), ([0], [0]), ([], []), ([2, 1], [2]), ([1, 3, 3], [1, 3]), ([4], [4]), ([5], [5]), ([5], [5]), ([], []), ([8, 6, 4, 0, 1, 2, 3, 4, 5, 6, 8], [6, 8]), ([7, 9, 0, 1, 2, 3, 4, 5, 6, 7, 8, 9], [7])])
def laws_FnExactCropImage.B5 : List Nat := [0, 1, 0, 7, 15, 31, 63, 63, 0, 383, 1023]
theorem laws_FnExactCropImage.tab5 : rtab .any (opsOf Try.f3 5) = laws_FnExactCropImage.T5 := by kernel_rfl
theorem laws_FnExactCropImage.bits5 : waitsOk laws_FnExactCropImage.T5.2 laws_FnExactCropImage.B5 = true := by kernel_rfl
def laws_FnExactCropImage.T7 : Bool × List (List Nat × List Nat) := (true, [([], []), ([], []), ([1], [1]), ([0, 2, 2], [0, 2]), ([3], [3]), ([4], [4]), ([4], [4]), ([], []), ([7, 5, 3, 0, 1, 2, 3, 4, 5, 7], [5, 7]), ([6, 8, 0, 1, 2, 3, 4, 5, 6, 7, 8], [6])])
def laws_FnExactCropImage.B7 : List Nat := [0, 0, 2, 7, 15, 31, 31, 0, 191, 511]
theorem laws_FnExactCropImage.tab7 : rtab .any (opsOf Try.f3 7) = laws_FnExactCropImage.T7 := by kernel_rfl
theorem laws_FnExactCropImage.bits7 : waitsOk laws_FnExactCropImage.T7.2 laws_FnExactCropImage.B7 = true := by kernel_rfl
def laws_FnExactCropImage.T24 : Bool × List (List Nat × List Nat) := (true, [([], []), ([0], [0]), ([], []), ([2, 1], [2]), ([1, 3, 3], [1, 3]), ([4], [4]), ([5], [5]), ([5], [5]), ([], []), ([8, 6, 4, 0, 1, 2, 3, 4, 5, 6, 8], [6, 8]), ([7, 9, 0, 1, 2, 3, 4, 5, 6, 7, 8, 9], [7])])
def laws_FnExactCropImage.B24 : List Nat := [0, 1, 0, 7, 15, 31, 63, 63, 0, 383, 1023]
theorem laws_FnExactCropImage.tab24 : rtab .any (opsOf Try.f3 24) = laws_FnExactCropImage.T24 := by kernel_rfl
theorem laws_FnExactCropImage.bits24 : waitsOk laws_FnExactCropImage.T24.2 laws_FnExactCropImage.B24 = true := by kernel_rfl
set_option maxHeartbeats 8000000 in
set_option maxRecDepth 100000 in
theorem laws_FnExactCropImage.calls (k : Nat) (a0_0 : Int) (a0_1 : Int) (a0_2 : Int) (A0_3 : Option Addr) (c0_3 : Nat) (l0_3 : List Int) (a1_0 : Int) (a1_1 : Int) (a1_2 : Int) (a1_3 : Int) (r : Bool) (w : World) (hr0_3 : Kd.C (Kd.int .i64) w A0_3 l0_3.length l0_3) (hc0_3 : l0_3.length ≤ c0_3) (h : laws_FnExactCropImage.f k a0_0 a0_1 a0_2 l0_3 a1_0 a1_1 a1_2 a1_3 = some r) (ht_ : Aside0 (r = true)) :
    Calls Try.prog 3 #[.agg #[.int .i64 a0_0, .int .i64 a0_1, .int .i64 a0_2, .slice A0_3 l0_3.length c0_3], .agg #[.int .i64 a1_0, .int .i64 a1_1, .int .i64 a1_2, .int .i64 a1_3]] w fun e w' => e = .returned (.bool r) ∧ Below w.heap.size w w' := by
  have hu24 := Try.underlying24
  have hu26 := Try.underlying26
  have hu28 := Try.underlying28
  have HR0_3 := Aside0.mk hr0_3
  have HC0_3 := Aside0.mk hc0_3
  clear hr0_3 hc0_3
  have HB := Aside0.mk (Below.refl w.heap.size w)
  have H : ((laws_szImage.f a0_0 a0_1 a0_2 l0_3 1048576).bind fun t194 => (if t194 < 0 then (some true) else ((laws_toImage.f k a0_0 a0_1 a0_2 l0_3).bind fun bt195 => ((laws_toBox.f a1_0 a1_1 a1_2 a1_3).bind fun bt201 => ((spec_CropImage.f k bt195.1 bt195.2.1 bt195.2.2.1 bt195.2.2.2 bt201.1 bt201.2.1 bt201.2.2.1 bt201.2.2.2).bind fun bt205 => ((laws_toImage.f k a0_0 a0_1 a0_2 l0_3).bind fun bt213 => ((laws_toBox.f a1_0 a1_1 a1_2 a1_3).bind fun bt220 => ((impl_CropImage.f bt213.1 bt213.2.1 bt213.2.2.1 bt213.2.2.2 bt220.1 bt220.2.1 bt220.2.2.1 bt220.2.2.2).bind fun bt224 => ((laws_eqImage.f k bt224.1 bt224.2.1 bt224.2.2.1 bt224.2.2.2.1 bt205.1 bt205.2.1 bt205.2.2.1 bt205.2.2.2.1).bind fun t232 => (if t232 = true then (laws_FnExactCropImage.j0 k bt205.2.2.2.2 bt224.2.2.2.2 (bt224.2.2.2.2 != bt205.2.2.2.2) a0_0 a0_1 a0_2 l0_3 a1_0 a1_1 a1_2 a1_3 bt205.1 bt205.2.1 bt205.2.2.1 bt205.2.2.2.1 bt213.1 bt213.2.1 bt213.2.2.1 bt213.2.2.2 bt224.1 bt224.2.1 bt224.2.2.1 bt224.2.2.2.1) else (laws_FnExactCropImage.j0 k bt205.2.2.2.2 bt224.2.2.2.2 true a0_0 a0_1 a0_2 l0_3 a1_0 a1_1 a1_2 a1_3 bt205.1 bt205.2.1 bt205.2.2.1 bt205.2.2.2.1 bt213.1 bt213.2.1 bt213.2.2.1 bt213.2.2.2 bt224.1 bt224.2.1 bt224.2.2.1 bt224.2.2.2.1))))))))))) = some r := h
  clear h
  replace H := Option.bind_eq_some_iff.mp H
  obtain ⟨t194, A30, H⟩ := H
  replace H : (if t194 < 0 then (some true) else ((laws_toImage.f k a0_0 a0_1 a0_2 l0_3).bind fun bt195 => ((laws_toBox.f a1_0 a1_1 a1_2 a1_3).bind fun bt201 => ((spec_CropImage.f k bt195.1 bt195.2.1 bt195.2.2.1 bt195.2.2.2 bt201.1 bt201.2.1 bt201.2.2.1 bt201.2.2.2).bind fun bt205 => ((laws_toImage.f k a0_0 a0_1 a0_2 l0_3).bind fun bt213 => ((laws_toBox.f a1_0 a1_1 a1_2 a1_3).bind fun bt220 => ((impl_CropImage.f bt213.1 bt213.2.1 bt213.2.2.1 bt213.2.2.2 bt220.1 bt220.2.1 bt220.2.2.1 bt220.2.2.2).bind fun bt224 => ((laws_eqImage.f k bt224.1 bt224.2.1 bt224.2.2.1 bt224.2.2.2.1 bt205.1 bt205.2.1 bt205.2.2.1 bt205.2.2.2.1).bind fun t232 => (if t232 = true then (laws_FnExactCropImage.j0 k bt205.2.2.2.2 bt224.2.2.2.2 (bt224.2.2.2.2 != bt205.2.2.2.2) a0_0 a0_1 a0_2 l0_3 a1_0 a1_1 a1_2 a1_3 bt205.1 bt205.2.1 bt205.2.2.1 bt205.2.2.2.1 bt213.1 bt213.2.1 bt213.2.2.1 bt213.2.2.2 bt224.1 bt224.2.1 bt224.2.2.1 bt224.2.2.2.1) else (laws_FnExactCropImage.j0 k bt205.2.2.2.2 bt224.2.2.2.2 true a0_0 a0_1 a0_2 l0_3 a1_0 a1_1 a1_2 a1_3 bt205.1 bt205.2.1 bt205.2.2.1 bt205.2.2.2.1 bt213.1 bt213.2.1 bt213.2.2.1 bt213.2.2.2 bt224.1 bt224.2.1 bt224.2.2.1 bt224.2.2.2.1)))))))))) = some r := H
  have A3 := Aside0.mk A30
  clear A30
  by_cases c4 : t194 < 0
  · rw [if_pos c4] at H
    have c4b0 : decide (t194 < 0) = true := decide_eq_true c4
    clear c4
    obtain rfl := Option.some.inj H
    simp only [Option.some.injEq, Prod.mk.injEq] at H
    obtain ⟨rfl⟩ := H
    go_enter Try.func3, Try.ntmps3
    go_wp2_with (first | ((with_reducible refine gate_dst (N := 2) rfl ?_); refine box_event ?hg (N := 2) ?hd (cs := #[.int .i64 a0_0, .int .i64 a0_1, .int .i64 a0_2, .slice A0_3 l0_3.length c0_3]) (t := 24) ?hr ?_; (case hd => rfl); (case hg => rfl); (case hr => first | (go_simp; done) | (go_simp; rfl)); intro gb192 hg w5 hbox hb; have n0_ := Aside0.mk (below_step (B.bl HB) hb); have n1_ := Aside0.mk (hbox); have n2_ := Aside0.mk (B.nle hg (below_size (B.bl HB))); have n3_ := Aside0.mk (B.nle hg (below_size (B.bl HB))); clear HB; have HB := n0_; have BK192 := n1_; have GW192 := n2_; have GE192 := n3_; clear n0_ n1_ n2_ n3_; clear hb hbox hg) | ((with_reducible refine gate_dst (N := 3) rfl ?_); refine box_event ?hg (N := 3) ?hd (cs := #[.int .i64 a1_0, .int .i64 a1_1, .int .i64 a1_2, .int .i64 a1_3]) (t := 26) ?hr ?_; (case hd => rfl); (case hg => rfl); (case hr => first | (go_simp; done) | (go_simp; rfl)); intro gb193 hg w6 hbox hb; have n0_ := Aside0.mk (blk_below (B.kb BK192) hb); have n1_ := Aside0.mk (below_step (B.bl HB) hb); have n2_ := Aside0.mk (hbox); have n3_ := Aside0.mk (B.nle hg (below_size (B.bl HB))); have n4_ := Aside0.mk (B.nle hg (below_size (B.bl HB))); have n5_ := Aside0.mk (B.nlt hg (blk_lt (B.kb BK192))); have n6_ := Aside0.mk (B.ngt hg (blk_lt (B.kb BK192))); clear BK192 HB; have BK192 := n0_; have HB := n1_; have BK193 := n2_; have GW193 := n3_; have GE193 := n4_; have NB192_193 := n5_; have NB193_192 := n6_; clear n0_ n1_ n2_ n3_ n4_ n5_ n6_; clear hb hbox hg; have hnb7 := NB192_193.out; have hnc7 := NB193_192.out; have hcz8_0 : w6.cell? ⟨gb192, 0, none⟩ = some (.int .i64 a0_0) := B.bc BK192 0; have hcz8_1 : w6.cell? ⟨gb192, 1, none⟩ = some (.int .i64 a0_1) := B.bc BK192 1; have hcz8_2 : w6.cell? ⟨gb192, 2, none⟩ = some (.int .i64 a0_2) := B.bc BK192 2; have hcz8_3 : w6.cell? ⟨gb192, 3, none⟩ = some (.slice A0_3 l0_3.length c0_3) := B.bc BK192 3; have hfz8_0 := blk_frozen BK192.out 0; have hfz8_1 := blk_frozen BK192.out 1; have hfz8_2 := blk_frozen BK192.out 2; have hfz8_3 := blk_frozen BK192.out 3) | ((with_reducible refine gate_callee (f := 8) rfl ?_); refine goesL_ (some 18) rfl rfl Try.func8 (by kernel_rfl) rfl #[.agg #[.int .i64 a0_0, .int .i64 a0_1, .int .i64 a0_2, .slice A0_3 l0_3.length c0_3], .int .i64 1048576] rfl B.am ?_; (with_reducible refine (laws_szImage.calls a0_0 a0_1 a0_2 _ _ l0_3 1048576 t194 _ ?side1 ?side2 A3.out).mono ?_); (case side1 => exact B.kc (Kd.C_below HR0_3.out HB.out)); (case side2 => exact HC0_3.out); rintro e w9 ⟨rfl, hb⟩; refine ⟨_, rfl, ?_⟩; have n0_ := Aside0.mk (blk_below (B.kb BK192) hb); have n1_ := Aside0.mk (blk_below (B.kb BK193) hb); have n2_ := Aside0.mk (below_step (B.bl HB) hb); clear BK192 BK193 HB; have BK192 := n0_; have BK193 := n1_; have HB := n2_; clear n0_ n1_ n2_; (try clear hb); (try clear hb2); (try clear hk); (try clear hi)))
    go_ret
    exact ⟨by first | rfl | (simp [errW_none, errW_some] <;> rfl) | (simp [*, errW_none, errW_some] <;> rfl), B.bl HB⟩
  rw [if_neg c4] at H
  have c4b0 : decide (t194 < 0) = false := decide_eq_false c4
  clear c4
  replace H := Option.bind_eq_some_iff.mp H
  obtain ⟨⟨t195, t196, t197, t198⟩, A100, H⟩ := H
  replace H : ((laws_toBox.f a1_0 a1_1 a1_2 a1_3).bind fun bt201 => ((spec_CropImage.f k t195 t196 t197 t198 bt201.1 bt201.2.1 bt201.2.2.1 bt201.2.2.2).bind fun bt205 => ((laws_toImage.f k a0_0 a0_1 a0_2 l0_3).bind fun bt213 => ((laws_toBox.f a1_0 a1_1 a1_2 a1_3).bind fun bt220 => ((impl_CropImage.f bt213.1 bt213.2.1 bt213.2.2.1 bt213.2.2.2 bt220.1 bt220.2.1 bt220.2.2.1 bt220.2.2.2).bind fun bt224 => ((laws_eqImage.f k bt224.1 bt224.2.1 bt224.2.2.1 bt224.2.2.2.1 bt205.1 bt205.2.1 bt205.2.2.1 bt205.2.2.2.1).bind fun t232 => (if t232 = true then (laws_FnExactCropImage.j0 k bt205.2.2.2.2 bt224.2.2.2.2 (bt224.2.2.2.2 != bt205.2.2.2.2) a0_0 a0_1 a0_2 l0_3 a1_0 a1_1 a1_2 a1_3 bt205.1 bt205.2.1 bt205.2.2.1 bt205.2.2.2.1 bt213.1 bt213.2.1 bt213.2.2.1 bt213.2.2.2 bt224.1 bt224.2.1 bt224.2.2.1 bt224.2.2.2.1) else (laws_FnExactCropImage.j0 k bt205.2.2.2.2 bt224.2.2.2.2 true a0_0 a0_1 a0_2 l0_3 a1_0 a1_1 a1_2 a1_3 bt205.1 bt205.2.1 bt205.2.2.1 bt205.2.2.2.1 bt213.1 bt213.2.1 bt213.2.2.1 bt213.2.2.2 bt224.1 bt224.2.1 bt224.2.2.1 bt224.2.2.2.1)))))))) = some r := H
  have A10 := Aside0.mk A100
  clear A100
  replace H := Option.bind_eq_some_iff.mp H
  obtain ⟨⟨t201, t202, t203, t204⟩, A110, H⟩ := H
  replace H : ((spec_CropImage.f k t195 t196 t197 t198 t201 t202 t203 t204).bind fun bt205 => ((laws_toImage.f k a0_0 a0_1 a0_2 l0_3).bind fun bt213 => ((laws_toBox.f a1_0 a1_1 a1_2 a1_3).bind fun bt220 => ((impl_CropImage.f bt213.1 bt213.2.1 bt213.2.2.1 bt213.2.2.2 bt220.1 bt220.2.1 bt220.2.2.1 bt220.2.2.2).bind fun bt224 => ((laws_eqImage.f k bt224.1 bt224.2.1 bt224.2.2.1 bt224.2.2.2.1 bt205.1 bt205.2.1 bt205.2.2.1 bt205.2.2.2.1).bind fun t232 => (if t232 = true then (laws_FnExactCropImage.j0 k bt205.2.2.2.2 bt224.2.2.2.2 (bt224.2.2.2.2 != bt205.2.2.2.2) a0_0 a0_1 a0_2 l0_3 a1_0 a1_1 a1_2 a1_3 bt205.1 bt205.2.1 bt205.2.2.1 bt205.2.2.2.1 bt213.1 bt213.2.1 bt213.2.2.1 bt213.2.2.2 bt224.1 bt224.2.1 bt224.2.2.1 bt224.2.2.2.1) else (laws_FnExactCropImage.j0 k bt205.2.2.2.2 bt224.2.2.2.2 true a0_0 a0_1 a0_2 l0_3 a1_0 a1_1 a1_2 a1_3 bt205.1 bt205.2.1 bt205.2.2.1 bt205.2.2.2.1 bt213.1 bt213.2.1 bt213.2.2.1 bt213.2.2.2 bt224.1 bt224.2.1 bt224.2.2.1 bt224.2.2.2.1))))))) = some r := H
  have A11 := Aside0.mk A110
  clear A110
  replace H := Option.bind_eq_some_iff.mp H
  obtain ⟨⟨t205, t206, t207, t208, t211⟩, A120, H⟩ := H
  replace H : ((laws_toImage.f k a0_0 a0_1 a0_2 l0_3).bind fun bt213 => ((laws_toBox.f a1_0 a1_1 a1_2 a1_3).bind fun bt220 => ((impl_CropImage.f bt213.1 bt213.2.1 bt213.2.2.1 bt213.2.2.2 bt220.1 bt220.2.1 bt220.2.2.1 bt220.2.2.2).bind fun bt224 => ((laws_eqImage.f k bt224.1 bt224.2.1 bt224.2.2.1 bt224.2.2.2.1 t205 t206 t207 t208).bind fun t232 => (if t232 = true then (laws_FnExactCropImage.j0 k t211 bt224.2.2.2.2 (bt224.2.2.2.2 != t211) a0_0 a0_1 a0_2 l0_3 a1_0 a1_1 a1_2 a1_3 t205 t206 t207 t208 bt213.1 bt213.2.1 bt213.2.2.1 bt213.2.2.2 bt224.1 bt224.2.1 bt224.2.2.1 bt224.2.2.2.1) else (laws_FnExactCropImage.j0 k t211 bt224.2.2.2.2 true a0_0 a0_1 a0_2 l0_3 a1_0 a1_1 a1_2 a1_3 t205 t206 t207 t208 bt213.1 bt213.2.1 bt213.2.2.1 bt213.2.2.2 bt224.1 bt224.2.1 bt224.2.2.1 bt224.2.2.2.1)))))) = some r := H
  have A12 := Aside0.mk A120
  clear A120
  replace H := Option.bind_eq_some_iff.mp H
  obtain ⟨⟨t213, t214, t215, t216⟩, A130, H⟩ := H
  replace H : ((laws_toBox.f a1_0 a1_1 a1_2 a1_3).bind fun bt220 => ((impl_CropImage.f t213 t214 t215 t216 bt220.1 bt220.2.1 bt220.2.2.1 bt220.2.2.2).bind fun bt224 => ((laws_eqImage.f k bt224.1 bt224.2.1 bt224.2.2.1 bt224.2.2.2.1 t205 t206 t207 t208).bind fun t232 => (if t232 = true then (laws_FnExactCropImage.j0 k t211 bt224.2.2.2.2 (bt224.2.2.2.2 != t211) a0_0 a0_1 a0_2 l0_3 a1_0 a1_1 a1_2 a1_3 t205 t206 t207 t208 t213 t214 t215 t216 bt224.1 bt224.2.1 bt224.2.2.1 bt224.2.2.2.1) else (laws_FnExactCropImage.j0 k t211 bt224.2.2.2.2 true a0_0 a0_1 a0_2 l0_3 a1_0 a1_1 a1_2 a1_3 t205 t206 t207 t208 t213 t214 t215 t216 bt224.1 bt224.2.1 bt224.2.2.1 bt224.2.2.2.1))))) = some r := H
  have A13 := Aside0.mk A130
  clear A130
  replace H := Option.bind_eq_some_iff.mp H
  obtain ⟨⟨t220, t221, t222, t223⟩, A140, H⟩ := H
  replace H : ((impl_CropImage.f t213 t214 t215 t216 t220 t221 t222 t223).bind fun bt224 => ((laws_eqImage.f k bt224.1 bt224.2.1 bt224.2.2.1 bt224.2.2.2.1 t205 t206 t207 t208).bind fun t232 => (if t232 = true then (laws_FnExactCropImage.j0 k t211 bt224.2.2.2.2 (bt224.2.2.2.2 != t211) a0_0 a0_1 a0_2 l0_3 a1_0 a1_1 a1_2 a1_3 t205 t206 t207 t208 t213 t214 t215 t216 bt224.1 bt224.2.1 bt224.2.2.1 bt224.2.2.2.1) else (laws_FnExactCropImage.j0 k t211 bt224.2.2.2.2 true a0_0 a0_1 a0_2 l0_3 a1_0 a1_1 a1_2 a1_3 t205 t206 t207 t208 t213 t214 t215 t216 bt224.1 bt224.2.1 bt224.2.2.1 bt224.2.2.2.1)))) = some r := H
  have A14 := Aside0.mk A140
  clear A140
  replace H := Option.bind_eq_some_iff.mp H
  obtain ⟨⟨t224, t225, t226, t227, t230⟩, A150, H⟩ := H
  replace H : ((laws_eqImage.f k t224 t225 t226 t227 t205 t206 t207 t208).bind fun t232 => (if t232 = true then (laws_FnExactCropImage.j0 k t211 t230 (t230 != t211) a0_0 a0_1 a0_2 l0_3 a1_0 a1_1 a1_2 a1_3 t205 t206 t207 t208 t213 t214 t215 t216 t224 t225 t226 t227) else (laws_FnExactCropImage.j0 k t211 t230 true a0_0 a0_1 a0_2 l0_3 a1_0 a1_1 a1_2 a1_3 t205 t206 t207 t208 t213 t214 t215 t216 t224 t225 t226 t227))) = some r := H
  have A15 := Aside0.mk A150
  clear A150
  have HC16 := Aside0.mk H
  clear H
  go_enter Try.func3, Try.ntmps3
  try go_wp2_with (first | ((with_reducible refine gate_dst (N := 2) rfl ?_); refine box_event ?hg (N := 2) ?hd (cs := #[.int .i64 a0_0, .int .i64 a0_1, .int .i64 a0_2, .slice A0_3 l0_3.length c0_3]) (t := 24) ?hr ?_; (case hd => rfl); (case hg => rfl); (case hr => first | (go_simp; done) | (go_simp; rfl)); intro gb192 hg w17 hbox hb; have n0_ := Aside0.mk (below_step (B.bl HB) hb); have n1_ := Aside0.mk (hbox); have n2_ := Aside0.mk (B.nle hg (below_size (B.bl HB))); have n3_ := Aside0.mk (B.nle hg (below_size (B.bl HB))); clear HB; have HB := n0_; have BK192 := n1_; have GW192 := n2_; have GE192 := n3_; clear n0_ n1_ n2_ n3_; clear hb hbox hg) | ((with_reducible refine gate_dst (N := 3) rfl ?_); refine box_event ?hg (N := 3) ?hd (cs := #[.int .i64 a1_0, .int .i64 a1_1, .int .i64 a1_2, .int .i64 a1_3]) (t := 26) ?hr ?_; (case hd => rfl); (case hg => rfl); (case hr => first | (go_simp; done) | (go_simp; rfl)); intro gb193 hg w18 hbox hb; have n0_ := Aside0.mk (blk_below (B.kb BK192) hb); have n1_ := Aside0.mk (below_step (B.bl HB) hb); have n2_ := Aside0.mk (hbox); have n3_ := Aside0.mk (B.nle hg (below_size (B.bl HB))); have n4_ := Aside0.mk (B.nle hg (below_size (B.bl HB))); have n5_ := Aside0.mk (B.nlt hg (blk_lt (B.kb BK192))); have n6_ := Aside0.mk (B.ngt hg (blk_lt (B.kb BK192))); clear BK192 HB; have BK192 := n0_; have HB := n1_; have BK193 := n2_; have GW193 := n3_; have GE193 := n4_; have NB192_193 := n5_; have NB193_192 := n6_; clear n0_ n1_ n2_ n3_ n4_ n5_ n6_; clear hb hbox hg; have hnb19 := NB192_193.out; have hnc19 := NB193_192.out; have hcz20_0 : w18.cell? ⟨gb192, 0, none⟩ = some (.int .i64 a0_0) := B.bc BK192 0; have hcz20_1 : w18.cell? ⟨gb192, 1, none⟩ = some (.int .i64 a0_1) := B.bc BK192 1; have hcz20_2 : w18.cell? ⟨gb192, 2, none⟩ = some (.int .i64 a0_2) := B.bc BK192 2; have hcz20_3 : w18.cell? ⟨gb192, 3, none⟩ = some (.slice A0_3 l0_3.length c0_3) := B.bc BK192 3; have hfz20_0 := blk_frozen BK192.out 0; have hfz20_1 := blk_frozen BK192.out 1; have hfz20_2 := blk_frozen BK192.out 2; have hfz20_3 := blk_frozen BK192.out 3) | ((with_reducible refine gate_callee (f := 8) rfl ?_); refine goesL_ (some 18) rfl rfl Try.func8 (by kernel_rfl) rfl #[.agg #[.int .i64 a0_0, .int .i64 a0_1, .int .i64 a0_2, .slice A0_3 l0_3.length c0_3], .int .i64 1048576] rfl B.am ?_; (with_reducible refine (laws_szImage.calls a0_0 a0_1 a0_2 _ _ l0_3 1048576 t194 _ ?side1 ?side2 A3.out).mono ?_); (case side1 => exact B.kc (Kd.C_below HR0_3.out HB.out)); (case side2 => exact HC0_3.out); rintro e w21 ⟨rfl, hb⟩; refine ⟨_, rfl, ?_⟩; have n0_ := Aside0.mk (blk_below (B.kb BK192) hb); have n1_ := Aside0.mk (blk_below (B.kb BK193) hb); have n2_ := Aside0.mk (below_step (B.bl HB) hb); clear BK192 BK193 HB; have BK192 := n0_; have BK193 := n1_; have HB := n2_; clear n0_ n1_ n2_; (try clear hb); (try clear hb2); (try clear hk); (try clear hi)))
  have n0_ := Aside0.mk (blk_drew BK192.out)
  have n1_ := Aside0.mk (blk_drew BK193.out)
  have n2_ := Aside0.mk (below_drew1 HB.out)
  clear BK192 BK193 HB
  have BK192 := n0_
  have BK193 := n1_
  have HB := n2_
  clear n0_ n1_ n2_
  refine start_ (n := 11) (S := fun w' => w'.cell? ⟨gb192, 0, none⟩ = some (.int .i64 a0_0) ∧ w'.cell? ⟨gb192, 1, none⟩ = some (.int .i64 a0_1) ∧ w'.cell? ⟨gb192, 2, none⟩ = some (.int .i64 a0_2) ∧ w'.cell? ⟨gb192, 3, none⟩ = some (.slice A0_3 l0_3.length c0_3) ∧ w'.cell? ⟨gb193, 0, none⟩ = some (.int .i64 a1_0) ∧ w'.cell? ⟨gb193, 1, none⟩ = some (.int .i64 a1_1) ∧ w'.cell? ⟨gb193, 2, none⟩ = some (.int .i64 a1_2) ∧ w'.cell? ⟨gb193, 3, none⟩ = some (.int .i64 a1_3)) (ds := []) #[false, false, false, false, false, false, false, false, false, false, false] (by kernel_rfl) rfl rfl ⟨B.bc BK192 0, B.bc BK192 1, B.bc BK192 2, B.bc BK192 3, B.bc BK193 0, B.bc BK193 1, B.bc BK193 2, B.bc BK193 3⟩ (fun hHeld => ?_); refine with_tabW laws_FnExactCropImage.tab5 laws_FnExactCropImage.bits5 (fun HT_ HW_ => ?_)
  generalize w21.drew = w22 at BK192 BK193 HB hHeld ⊢
  refine take_ (i := 0) (N := some 22) (v := ?_) (a' := ?_) #[true, false, false, false, false, false, false, false, false, false, false] rfl rfl (take_ofW HT_.out HW_.out (by kernel_rfl)) (fun _ _ _ h => h) (Or.inl ⟨by rfl, ?_⟩) hHeld ?_ ?_
  rotate_left
  · rintro w' ⟨s0, s1, s2, s3, s4, s5, s6, s7⟩
    go_simp
    with_reducible rfl
  rotate_left
  · simp only [Act.put, List.setIfInBounds_toArray, List.set_cons_zero, List.set_cons_succ, i64_w, i32_w]
    rfl
  refine take_ (i := 2) (N := some 24) (v := ?_) (a' := ?_) #[true, false, true, false, false, false, false, false, false, false, false] rfl rfl (take_ofW HT_.out HW_.out (by kernel_rfl)) (fun _ _ _ h => h) (Or.inl ⟨by rfl, ?_⟩) hHeld ?_ ?_
  rotate_left
  · rintro w' ⟨s0, s1, s2, s3, s4, s5, s6, s7⟩
    go_simp
    with_reducible rfl
  rotate_left
  · simp only [Act.put, List.setIfInBounds_toArray, List.set_cons_zero, List.set_cons_succ, i64_w, i32_w]
    rfl
  refine join_ (σ := Value × Value × Nat) 2 #[true, true, true, true, true, true, true, true, true, false, false] (fun s_ => [(23, .agg #[.int .i64 t195, .int .i64 t196, .int .i64 t197, s_.1]), (25, .agg #[.int .i64 t201, .int .i64 t202, .int .i64 t203, .int .i64 t204]), (26, .tuple #[.agg #[.int .i64 t205, .int .i64 t206, .int .i64 t207, s_.2.1], .bool t211]), (6, .pointer (some ⟨s_.2.2, 0, none⟩)), (21, .tuple #[.agg #[.int .i64 t205, .int .i64 t206, .int .i64 t207, s_.2.1], .bool t211]), (27, .agg #[.int .i64 t205, .int .i64 t206, .int .i64 t207, s_.2.1]), (28, .bool t211)]) (fun s_ w' => (w'.cell? ⟨gb192, 0, none⟩ = some (.int .i64 a0_0) ∧ w'.cell? ⟨gb192, 1, none⟩ = some (.int .i64 a0_1) ∧ w'.cell? ⟨gb192, 2, none⟩ = some (.int .i64 a0_2) ∧ w'.cell? ⟨gb192, 3, none⟩ = some (.slice A0_3 l0_3.length c0_3) ∧ w'.cell? ⟨gb193, 0, none⟩ = some (.int .i64 a1_0) ∧ w'.cell? ⟨gb193, 1, none⟩ = some (.int .i64 a1_1) ∧ w'.cell? ⟨gb193, 2, none⟩ = some (.int .i64 a1_2) ∧ w'.cell? ⟨gb193, 3, none⟩ = some (.int .i64 a1_3)) ∧ (Kd.R (Kd.int .i64) 3 w' w.heap.size (fun k_ => some k_ ≠ (s_.2.1 : Value).ownBlock) s_.1 t198) ∧ (Kd.R (Kd.int .i64) 3 w' w.heap.size (fun k_ => some k_ ≠ (s_.1 : Value).ownBlock) s_.2.1 t208) ∧ (w'.heap[gb192]? = some (.cells #[.int .i64 a0_0, .int .i64 a0_1, .int .i64 a0_2, .slice A0_3 l0_3.length c0_3] 24 (0, 0))) ∧ (w'.heap[gb193]? = some (.cells #[.int .i64 a1_0, .int .i64 a1_1, .int .i64 a1_2, .int .i64 a1_3] 26 (0, 0))) ∧ (w'.heap[s_.2.2]? = some (.cells #[.int .i64 0, .int .i64 0, .int .i64 0, .slice none 0 0] 28 (0, 0))) ∧ (w.heap.size ≤ s_.2.2) ∧ (w.heap.size ≤ s_.2.2) ∧ (gb192 ≠ s_.2.2) ∧ (s_.2.2 ≠ gb192) ∧ (gb193 ≠ s_.2.2) ∧ (s_.2.2 ≠ gb193) ∧ (Below w.heap.size w w')) ?_ ?_
  rotate_left
  · intro hCont
    refine two_ (i := 1) (j := 8) (Ni := some 23) (Nj := some 6) #[true, true, true, false, false, false, false, false, false, false, false] #[true, false, true, false, false, false, false, false, true, false, false] rfl rfl rfl rfl (two_of HT_.out (by kernel_rfl)) (by decide) (by decide) (fun K hK => ?_) (fun K hK => ?_)
    · skip
      refine goes_ Try.func10 (by kernel_rfl) rfl #[.agg #[.int .i64 a0_0, .int .i64 a0_1, .int .i64 a0_2, .slice A0_3 l0_3.length c0_3]] (by rfl) rfl rfl B.am ?_
      with_reducible refine (laws_toImage.calls k a0_0 a0_1 a0_2 _ _ l0_3 t195 t196 t197 t198 _ ?side1 ?side2 A10.out).mono ?_
      (case side1 => exact B.kc (Kd.C_below HR0_3.out HB.out))
      (case side2 => exact HC0_3.out)
      rintro e w23 ⟨v199, rfl, ho0, hb⟩
      refine ⟨_, rfl, ?_⟩
      have n0_ := Aside0.mk (Kd.R_lower ho0 (below_size (B.bl HB)))
      have n1_ := Aside0.mk (blk_below (B.kb BK192) hb)
      have n2_ := Aside0.mk (blk_below (B.kb BK193) hb)
      have n3_ := Aside0.mk (below_step (B.bl HB) hb)
      clear BK192 BK193 HB
      have HO200 := n0_
      have BK192 := n1_
      have BK193 := n2_
      have HB := n3_
      clear n0_ n1_ n2_ n3_
      (try clear hb)
      (try clear hb2)
      (try clear hk)
      (try clear hi)
      (try clear ho0)
      refine hK.out _ _ ⟨B.bc BK192 0, B.bc BK192 1, B.bc BK192 2, B.bc BK192 3, B.bc BK193 0, B.bc BK193 1, B.bc BK193 2, B.bc BK193 3⟩ (fun hHeld => ?_)
      clear hK K
      refine norm_ (a' := ?_) ?_ ?_
      rotate_left
      · show Act.put _ (some 23) _ = _
        simp only [Act.put, List.setIfInBounds_toArray, List.set_cons_zero, List.set_cons_succ, i64_w, i32_w]
        rfl
      refine two_ (i := 3) (j := 8) (Ni := some 25) (Nj := some 6) #[true, true, true, true, false, false, false, false, false, false, false] #[true, true, true, false, false, false, false, false, true, false, false] rfl rfl rfl rfl (two_of HT_.out (by kernel_rfl)) (by decide) (by decide) (fun K hK => ?_) (fun K hK => ?_)
      · skip
        refine goes_ Try.func11 (by kernel_rfl) rfl #[.agg #[.int .i64 a1_0, .int .i64 a1_1, .int .i64 a1_2, .int .i64 a1_3]] (by rfl) rfl rfl B.am ?_
        with_reducible refine (laws_toBox.calls a1_0 a1_1 a1_2 a1_3 t201 t202 t203 t204 _ A11.out).mono ?_
        rintro e w24 ⟨rfl, hb⟩
        refine ⟨_, rfl, ?_⟩
        have n0_ := Aside0.mk (Kd.R_below (B.kr HO200) hb)
        have n1_ := Aside0.mk (blk_below (B.kb BK192) hb)
        have n2_ := Aside0.mk (blk_below (B.kb BK193) hb)
        have n3_ := Aside0.mk (below_step (B.bl HB) hb)
        clear HO200 BK192 BK193 HB
        have HO200 := n0_
        have BK192 := n1_
        have BK193 := n2_
        have HB := n3_
        clear n0_ n1_ n2_ n3_
        (try clear hb)
        (try clear hb2)
        (try clear hk)
        (try clear hi)
        obtain ⟨Ao25, co25, eo25⟩ := Kd.R_slice HO200.out
        (first | subst eo25 | (injection eo25 with f1_ f2_ f3_; have f4_ := f1_.symm; have f5_ := f3_.symm; clear f1_ f2_ f3_; subst f4_; subst f5_))
        refine hK.out _ _ ⟨B.bc BK192 0, B.bc BK192 1, B.bc BK192 2, B.bc BK192 3, B.bc BK193 0, B.bc BK193 1, B.bc BK193 2, B.bc BK193 3⟩ (fun hHeld => ?_)
        clear hK K
        refine norm_ (a' := ?_) ?_ ?_
        rotate_left
        · show Act.put _ (some 25) _ = _
          simp only [Act.put, List.setIfInBounds_toArray, List.set_cons_zero, List.set_cons_succ, i64_w, i32_w]
          rfl
        refine two_ (i := 4) (j := 8) (Ni := some 26) (Nj := some 6) #[true, true, true, true, true, false, false, false, false, false, false] #[true, true, true, true, false, false, false, false, true, false, false] rfl rfl rfl rfl (two_of HT_.out (by kernel_rfl)) (by decide) (by decide) (fun K hK => ?_) (fun K hK => ?_)
        · skip
          refine goes_ Try.func9 (by kernel_rfl) rfl #[.agg #[.int .i64 t195, .int .i64 t196, .int .i64 t197, .slice Ao25 t198.length co25], .agg #[.int .i64 t201, .int .i64 t202, .int .i64 t203, .int .i64 t204]] (by rfl) rfl rfl B.am ?_
          with_reducible refine (spec_CropImage.calls k t195 t196 t197 _ _ t198 t201 t202 t203 t204 t205 t206 t207 t208 t211 _ ?side1 ?side2 A12.out).mono ?_
          (case side1 => exact B.kc ((Kd.R_reads' HO200.out).2.2))
          (case side2 => exact (Kd.R_reads' HO200.out).2.1)
          rintro e w26 ⟨v209, rfl, ho0, hb⟩
          refine ⟨_, rfl, ?_⟩
          have n0_ := Aside0.mk (Kd.R_elder' (B.kr HO200) (Kd.R_base ho0) hb)
          have n1_ := Aside0.mk (Kd.R_lower (Kd.R_new' ho0 (Kd.R_lt (B.kr HO200))) (below_size (B.bl HB)))
          have n2_ := Aside0.mk (blk_below (B.kb BK192) hb)
          have n3_ := Aside0.mk (blk_below (B.kb BK193) hb)
          have n4_ := Aside0.mk (below_step (B.bl HB) hb)
          clear HO200 BK192 BK193 HB
          have HO200 := n0_
          have HO210 := n1_
          have BK192 := n2_
          have BK193 := n3_
          have HB := n4_
          clear n0_ n1_ n2_ n3_ n4_
          (try clear hb)
          (try clear hb2)
          (try clear hk)
          (try clear hi)
          (try clear ho0)
          refine hK.out _ _ ⟨B.bc BK192 0, B.bc BK192 1, B.bc BK192 2, B.bc BK192 3, B.bc BK193 0, B.bc BK193 1, B.bc BK193 2, B.bc BK193 3⟩ (fun hHeld => ?_)
          clear hK K
          refine norm_ (a' := ?_) ?_ ?_
          rotate_left
          · show Act.put _ (some 26) _ = _
            simp only [Act.put, List.setIfInBounds_toArray, List.set_cons_zero, List.set_cons_succ, i64_w, i32_w]
            rfl
          refine pure_ (i := 5) (N := some 21) (v := ?_) (a' := ?_) #[true, true, true, true, true, true, false, false, false, false, false] rfl rfl (any_of HT_.out (by kernel_rfl)) (fun _ _ _ h => h) (Or.inl ⟨by rfl, ?_⟩) ?_ ?_
          rotate_left
          · intro w'
            go_simp
            with_reducible rfl
          rotate_left
          · simp only [Act.put, List.setIfInBounds_toArray, List.set_cons_zero, List.set_cons_succ, i64_w, i32_w]
            rfl
          refine pure_ (i := 6) (N := some 27) (v := ?_) (a' := ?_) #[true, true, true, true, true, true, true, false, false, false, false] rfl rfl (any_of HT_.out (by kernel_rfl)) (fun _ _ _ h => h) (Or.inl ⟨by rfl, ?_⟩) ?_ ?_
          rotate_left
          · intro w'
            go_simp
            with_reducible rfl
          rotate_left
          · simp only [Act.put, List.setIfInBounds_toArray, List.set_cons_zero, List.set_cons_succ, i64_w, i32_w]
            rfl
          refine pure_ (i := 7) (N := some 28) (v := ?_) (a' := ?_) #[true, true, true, true, true, true, true, true, false, false, false] rfl rfl (any_of HT_.out (by kernel_rfl)) (fun _ _ _ h => h) (Or.inl ⟨by rfl, ?_⟩) ?_ ?_
          rotate_left
          · intro w'
            go_simp
            with_reducible rfl
          rotate_left
          · simp only [Act.put, List.setIfInBounds_toArray, List.set_cons_zero, List.set_cons_succ, i64_w, i32_w]
            rfl
          refine one_ (i := 8) (N := some 6) #[true, true, true, true, true, true, true, true, true, false, false] rfl rfl (one_of HT_.out (by kernel_rfl)) (by decide) (fun K hK => ?_)
          refine box_step ?hg (N := 6) ?hd (cs := #[.int .i64 0, .int .i64 0, .int .i64 0, .slice none 0 0]) (t := 28) ?hr ?_; (case hd => rfl); (case hg => rfl); (case hr => first | (go_simp; done) | (go_simp; rfl))
          intro gb212 hg w27 hbox hb
          have n0_ := Aside0.mk (Kd.R_below (B.kr HO200) hb)
          have n1_ := Aside0.mk (Kd.R_below (B.kr HO210) hb)
          have n2_ := Aside0.mk (blk_below (B.kb BK192) hb)
          have n3_ := Aside0.mk (blk_below (B.kb BK193) hb)
          have n4_ := Aside0.mk (below_step (B.bl HB) hb)
          have n5_ := Aside0.mk (hbox)
          have n6_ := Aside0.mk (B.nle hg (below_size (B.bl HB)))
          have n7_ := Aside0.mk (B.nle hg (below_size (B.bl HB)))
          have n8_ := Aside0.mk (B.nlt hg (blk_lt (B.kb BK192)))
          have n9_ := Aside0.mk (B.ngt hg (blk_lt (B.kb BK192)))
          have n10_ := Aside0.mk (B.nlt hg (blk_lt (B.kb BK193)))
          have n11_ := Aside0.mk (B.ngt hg (blk_lt (B.kb BK193)))
          clear HO200 HO210 BK192 BK193 HB
          have HO200 := n0_
          have HO210 := n1_
          have BK192 := n2_
          have BK193 := n3_
          have HB := n4_
          have BK212 := n5_
          have GW212 := n6_
          have GE212 := n7_
          have NB192_212 := n8_
          have NB212_192 := n9_
          have NB193_212 := n10_
          have NB212_193 := n11_
          clear n0_ n1_ n2_ n3_ n4_ n5_ n6_ n7_ n8_ n9_ n10_ n11_
          clear hb hbox hg
          refine hK.out _ _ ⟨B.bc BK192 0, B.bc BK192 1, B.bc BK192 2, B.bc BK192 3, B.bc BK193 0, B.bc BK193 1, B.bc BK193 2, B.bc BK193 3⟩ (fun hHeld => ?_)
          clear hK K
          refine norm_ (a' := ?_) ?_ ?_
          rotate_left
          · show Act.put _ (some 6) _ = _
            simp only [Act.put, List.setIfInBounds_toArray, List.set_cons_zero, List.set_cons_succ, i64_w, i32_w]
            rfl
          exact norm_ (by simp only [putAll, Act.put, List.setIfInBounds_toArray, List.set_cons_zero, List.set_cons_succ]) (hCont (.slice Ao25 t198.length co25, v209, gb212) _ ⟨hHeld, (B.kr0 (Kd.R_mono HO200.out (fun _ hk => hk.2))), (B.kr0 (Kd.R_mono HO210.out (fun _ hk => hk.2))), (B.kb BK192), (B.kb BK193), (B.kb BK212), GW212.out, GE212.out, NB192_212.out, NB212_192.out, NB193_212.out, NB212_193.out, (B.bl HB)⟩)
        skip
        refine box_step ?hg (N := 6) ?hd (cs := #[.int .i64 0, .int .i64 0, .int .i64 0, .slice none 0 0]) (t := 28) ?hr ?_; (case hd => rfl); (case hg => rfl); (case hr => first | (go_simp; done) | (go_simp; rfl))
        intro gb212 hg w25 hbox hb
        have n0_ := Aside0.mk (Kd.R_below (B.kr HO200) hb)
        have n1_ := Aside0.mk (blk_below (B.kb BK192) hb)
        have n2_ := Aside0.mk (blk_below (B.kb BK193) hb)
        have n3_ := Aside0.mk (below_step (B.bl HB) hb)
        have n4_ := Aside0.mk (hbox)
        have n5_ := Aside0.mk (B.nle hg (below_size (B.bl HB)))
        have n6_ := Aside0.mk (B.nle hg (below_size (B.bl HB)))
        have n7_ := Aside0.mk (B.nlt hg (blk_lt (B.kb BK192)))
        have n8_ := Aside0.mk (B.ngt hg (blk_lt (B.kb BK192)))
        have n9_ := Aside0.mk (B.nlt hg (blk_lt (B.kb BK193)))
        have n10_ := Aside0.mk (B.ngt hg (blk_lt (B.kb BK193)))
        clear HO200 BK192 BK193 HB
        have HO200 := n0_
        have BK192 := n1_
        have BK193 := n2_
        have HB := n3_
        have BK212 := n4_
        have GW212 := n5_
        have GE212 := n6_
        have NB192_212 := n7_
        have NB212_192 := n8_
        have NB193_212 := n9_
        have NB212_193 := n10_
        clear n0_ n1_ n2_ n3_ n4_ n5_ n6_ n7_ n8_ n9_ n10_
        clear hb hbox hg
        obtain ⟨Ao26, co26, eo26⟩ := Kd.R_slice HO200.out
        (first | subst eo26 | (injection eo26 with f1_ f2_ f3_; have f4_ := f1_.symm; have f5_ := f3_.symm; clear f1_ f2_ f3_; subst f4_; subst f5_))
        refine hK.out _ _ ⟨B.bc BK192 0, B.bc BK192 1, B.bc BK192 2, B.bc BK192 3, B.bc BK193 0, B.bc BK193 1, B.bc BK193 2, B.bc BK193 3⟩ (fun hHeld => ?_)
        clear hK K
        refine norm_ (a' := ?_) ?_ ?_
        rotate_left
        · show Act.put _ (some 6) _ = _
          simp only [Act.put, List.setIfInBounds_toArray, List.set_cons_zero, List.set_cons_succ, i64_w, i32_w]
          rfl
        refine one_ (i := 4) (N := some 26) #[true, true, true, true, true, false, false, false, true, false, false] rfl rfl (one_of HT_.out (by kernel_rfl)) (by decide) (fun K hK => ?_)
        refine goes_ Try.func9 (by kernel_rfl) rfl #[.agg #[.int .i64 t195, .int .i64 t196, .int .i64 t197, .slice Ao26 t198.length co26], .agg #[.int .i64 t201, .int .i64 t202, .int .i64 t203, .int .i64 t204]] (by rfl) rfl rfl B.am ?_
        with_reducible refine (spec_CropImage.calls k t195 t196 t197 _ _ t198 t201 t202 t203 t204 t205 t206 t207 t208 t211 _ ?side1 ?side2 A12.out).mono ?_
        (case side1 => exact B.kc ((Kd.R_reads' HO200.out).2.2))
        (case side2 => exact (Kd.R_reads' HO200.out).2.1)
        rintro e w27 ⟨v209, rfl, ho0, hb⟩
        refine ⟨_, rfl, ?_⟩
        have n0_ := Aside0.mk (Kd.R_elder' (B.kr HO200) (Kd.R_base ho0) hb)
        have n1_ := Aside0.mk (Kd.R_lower (Kd.R_new' ho0 (Kd.R_lt (B.kr HO200))) (below_size (B.bl HB)))
        have n2_ := Aside0.mk (blk_below (B.kb BK192) hb)
        have n3_ := Aside0.mk (blk_below (B.kb BK193) hb)
        have n4_ := Aside0.mk (blk_below (B.kb BK212) hb)
        have n5_ := Aside0.mk (below_step (B.bl HB) hb)
        clear HO200 BK192 BK193 BK212 HB
        have HO200 := n0_
        have HO210 := n1_
        have BK192 := n2_
        have BK193 := n3_
        have BK212 := n4_
        have HB := n5_
        clear n0_ n1_ n2_ n3_ n4_ n5_
        (try clear hb)
        (try clear hb2)
        (try clear hk)
        (try clear hi)
        (try clear ho0)
        refine hK.out _ _ ⟨B.bc BK192 0, B.bc BK192 1, B.bc BK192 2, B.bc BK192 3, B.bc BK193 0, B.bc BK193 1, B.bc BK193 2, B.bc BK193 3⟩ (fun hHeld => ?_)
        clear hK K
        refine norm_ (a' := ?_) ?_ ?_
        rotate_left
        · show Act.put _ (some 26) _ = _
          simp only [Act.put, List.setIfInBounds_toArray, List.set_cons_zero, List.set_cons_succ, i64_w, i32_w]
          rfl
        refine pure_ (i := 5) (N := some 21) (v := ?_) (a' := ?_) #[true, true, true, true, true, true, false, false, true, false, false] rfl rfl (any_of HT_.out (by kernel_rfl)) (fun _ _ _ h => h) (Or.inl ⟨by rfl, ?_⟩) ?_ ?_
        rotate_left
        · intro w'
          go_simp
          with_reducible rfl
        rotate_left
        · simp only [Act.put, List.setIfInBounds_toArray, List.set_cons_zero, List.set_cons_succ, i64_w, i32_w]
          rfl
        refine pure_ (i := 6) (N := some 27) (v := ?_) (a' := ?_) #[true, true, true, true, true, true, true, false, true, false, false] rfl rfl (any_of HT_.out (by kernel_rfl)) (fun _ _ _ h => h) (Or.inl ⟨by rfl, ?_⟩) ?_ ?_
        rotate_left
        · intro w'
          go_simp
          with_reducible rfl
        rotate_left
        · simp only [Act.put, List.setIfInBounds_toArray, List.set_cons_zero, List.set_cons_succ, i64_w, i32_w]
          rfl
        refine pure_ (i := 7) (N := some 28) (v := ?_) (a' := ?_) #[true, true, true, true, true, true, true, true, true, false, false] rfl rfl (any_of HT_.out (by kernel_rfl)) (fun _ _ _ h => h) (Or.inl ⟨by rfl, ?_⟩) ?_ ?_
        rotate_left
        · intro w'
          go_simp
          with_reducible rfl
        rotate_left
        · simp only [Act.put, List.setIfInBounds_toArray, List.set_cons_zero, List.set_cons_succ, i64_w, i32_w]
          rfl
        exact norm_ (by simp only [putAll, Act.put, List.setIfInBounds_toArray, List.set_cons_zero, List.set_cons_succ]) (hCont (.slice Ao26 t198.length co26, v209, gb212) _ ⟨hHeld, (B.kr0 (Kd.R_mono HO200.out (fun _ hk => hk.2))), (B.kr0 (Kd.R_mono HO210.out (fun _ hk => hk.2))), (B.kb BK192), (B.kb BK193), (B.kb BK212), GW212.out, GE212.out, NB192_212.out, NB212_192.out, NB193_212.out, NB212_193.out, (B.bl HB)⟩)
      skip
      refine box_step ?hg (N := 6) ?hd (cs := #[.int .i64 0, .int .i64 0, .int .i64 0, .slice none 0 0]) (t := 28) ?hr ?_; (case hd => rfl); (case hg => rfl); (case hr => first | (go_simp; done) | (go_simp; rfl))
      intro gb212 hg w24 hbox hb
      have n0_ := Aside0.mk (Kd.R_below (B.kr HO200) hb)
      have n1_ := Aside0.mk (blk_below (B.kb BK192) hb)
      have n2_ := Aside0.mk (blk_below (B.kb BK193) hb)
      have n3_ := Aside0.mk (below_step (B.bl HB) hb)
      have n4_ := Aside0.mk (hbox)
      have n5_ := Aside0.mk (B.nle hg (below_size (B.bl HB)))
      have n6_ := Aside0.mk (B.nle hg (below_size (B.bl HB)))
      have n7_ := Aside0.mk (B.nlt hg (blk_lt (B.kb BK192)))
      have n8_ := Aside0.mk (B.ngt hg (blk_lt (B.kb BK192)))
      have n9_ := Aside0.mk (B.nlt hg (blk_lt (B.kb BK193)))
      have n10_ := Aside0.mk (B.ngt hg (blk_lt (B.kb BK193)))
      clear HO200 BK192 BK193 HB
      have HO200 := n0_
      have BK192 := n1_
      have BK193 := n2_
      have HB := n3_
      have BK212 := n4_
      have GW212 := n5_
      have GE212 := n6_
      have NB192_212 := n7_
      have NB212_192 := n8_
      have NB193_212 := n9_
      have NB212_193 := n10_
      clear n0_ n1_ n2_ n3_ n4_ n5_ n6_ n7_ n8_ n9_ n10_
      clear hb hbox hg
      refine hK.out _ _ ⟨B.bc BK192 0, B.bc BK192 1, B.bc BK192 2, B.bc BK192 3, B.bc BK193 0, B.bc BK193 1, B.bc BK193 2, B.bc BK193 3⟩ (fun hHeld => ?_)
      clear hK K
      refine norm_ (a' := ?_) ?_ ?_
      rotate_left
      · show Act.put _ (some 6) _ = _
        simp only [Act.put, List.setIfInBounds_toArray, List.set_cons_zero, List.set_cons_succ, i64_w, i32_w]
        rfl
      refine one_ (i := 3) (N := some 25) #[true, true, true, true, false, false, false, false, true, false, false] rfl rfl (one_of HT_.out (by kernel_rfl)) (by decide) (fun K hK => ?_)
      refine goes_ Try.func11 (by kernel_rfl) rfl #[.agg #[.int .i64 a1_0, .int .i64 a1_1, .int .i64 a1_2, .int .i64 a1_3]] (by rfl) rfl rfl B.am ?_
      with_reducible refine (laws_toBox.calls a1_0 a1_1 a1_2 a1_3 t201 t202 t203 t204 _ A11.out).mono ?_
      rintro e w25 ⟨rfl, hb⟩
      refine ⟨_, rfl, ?_⟩
      have n0_ := Aside0.mk (Kd.R_below (B.kr HO200) hb)
      have n1_ := Aside0.mk (blk_below (B.kb BK192) hb)
      have n2_ := Aside0.mk (blk_below (B.kb BK193) hb)
      have n3_ := Aside0.mk (blk_below (B.kb BK212) hb)
      have n4_ := Aside0.mk (below_step (B.bl HB) hb)
      clear HO200 BK192 BK193 BK212 HB
      have HO200 := n0_
      have BK192 := n1_
      have BK193 := n2_
      have BK212 := n3_
      have HB := n4_
      clear n0_ n1_ n2_ n3_ n4_
      (try clear hb)
      (try clear hb2)
      (try clear hk)
      (try clear hi)
      obtain ⟨Ao26, co26, eo26⟩ := Kd.R_slice HO200.out
      (first | subst eo26 | (injection eo26 with f1_ f2_ f3_; have f4_ := f1_.symm; have f5_ := f3_.symm; clear f1_ f2_ f3_; subst f4_; subst f5_))
      refine hK.out _ _ ⟨B.bc BK192 0, B.bc BK192 1, B.bc BK192 2, B.bc BK192 3, B.bc BK193 0, B.bc BK193 1, B.bc BK193 2, B.bc BK193 3⟩ (fun hHeld => ?_)
      clear hK K
      refine norm_ (a' := ?_) ?_ ?_
      rotate_left
      · show Act.put _ (some 25) _ = _
        simp only [Act.put, List.setIfInBounds_toArray, List.set_cons_zero, List.set_cons_succ, i64_w, i32_w]
        rfl
      refine one_ (i := 4) (N := some 26) #[true, true, true, true, true, false, false, false, true, false, false] rfl rfl (one_of HT_.out (by kernel_rfl)) (by decide) (fun K hK => ?_)
      refine goes_ Try.func9 (by kernel_rfl) rfl #[.agg #[.int .i64 t195, .int .i64 t196, .int .i64 t197, .slice Ao26 t198.length co26], .agg #[.int .i64 t201, .int .i64 t202, .int .i64 t203, .int .i64 t204]] (by rfl) rfl rfl B.am ?_
      with_reducible refine (spec_CropImage.calls k t195 t196 t197 _ _ t198 t201 t202 t203 t204 t205 t206 t207 t208 t211 _ ?side1 ?side2 A12.out).mono ?_
      (case side1 => exact B.kc ((Kd.R_reads' HO200.out).2.2))
      (case side2 => exact (Kd.R_reads' HO200.out).2.1)
      rintro e w27 ⟨v209, rfl, ho0, hb⟩
      refine ⟨_, rfl, ?_⟩
      have n0_ := Aside0.mk (Kd.R_elder' (B.kr HO200) (Kd.R_base ho0) hb)
      have n1_ := Aside0.mk (Kd.R_lower (Kd.R_new' ho0 (Kd.R_lt (B.kr HO200))) (below_size (B.bl HB)))
      have n2_ := Aside0.mk (blk_below (B.kb BK192) hb)
      have n3_ := Aside0.mk (blk_below (B.kb BK193) hb)
      have n4_ := Aside0.mk (blk_below (B.kb BK212) hb)
      have n5_ := Aside0.mk (below_step (B.bl HB) hb)
      clear HO200 BK192 BK193 BK212 HB
      have HO200 := n0_
      have HO210 := n1_
      have BK192 := n2_
      have BK193 := n3_
      have BK212 := n4_
      have HB := n5_
      clear n0_ n1_ n2_ n3_ n4_ n5_
      (try clear hb)
      (try clear hb2)
      (try clear hk)
      (try clear hi)
      (try clear ho0)
      refine hK.out _ _ ⟨B.bc BK192 0, B.bc BK192 1, B.bc BK192 2, B.bc BK192 3, B.bc BK193 0, B.bc BK193 1, B.bc BK193 2, B.bc BK193 3⟩ (fun hHeld => ?_)
      clear hK K
      refine norm_ (a' := ?_) ?_ ?_
      rotate_left
      · show Act.put _ (some 26) _ = _
        simp only [Act.put, List.setIfInBounds_toArray, List.set_cons_zero, List.set_cons_succ, i64_w, i32_w]
        rfl
      refine pure_ (i := 5) (N := some 21) (v := ?_) (a' := ?_) #[true, true, true, true, true, true, false, false, true, false, false] rfl rfl (any_of HT_.out (by kernel_rfl)) (fun _ _ _ h => h) (Or.inl ⟨by rfl, ?_⟩) ?_ ?_
      rotate_left
      · intro w'
        go_simp
        with_reducible rfl
      rotate_left
      · simp only [Act.put, List.setIfInBounds_toArray, List.set_cons_zero, List.set_cons_succ, i64_w, i32_w]
        rfl
      refine pure_ (i := 6) (N := some 27) (v := ?_) (a' := ?_) #[true, true, true, true, true, true, true, false, true, false, false] rfl rfl (any_of HT_.out (by kernel_rfl)) (fun _ _ _ h => h) (Or.inl ⟨by rfl, ?_⟩) ?_ ?_
      rotate_left
      · intro w'
        go_simp
        with_reducible rfl
      rotate_left
      · simp only [Act.put, List.setIfInBounds_toArray, List.set_cons_zero, List.set_cons_succ, i64_w, i32_w]
        rfl
      refine pure_ (i := 7) (N := some 28) (v := ?_) (a' := ?_) #[true, true, true, true, true, true, true, true, true, false, false] rfl rfl (any_of HT_.out (by kernel_rfl)) (fun _ _ _ h => h) (Or.inl ⟨by rfl, ?_⟩) ?_ ?_
      rotate_left
      · intro w'
        go_simp
        with_reducible rfl
      rotate_left
      · simp only [Act.put, List.setIfInBounds_toArray, List.set_cons_zero, List.set_cons_succ, i64_w, i32_w]
        rfl
      exact norm_ (by simp only [putAll, Act.put, List.setIfInBounds_toArray, List.set_cons_zero, List.set_cons_succ]) (hCont (.slice Ao26 t198.length co26, v209, gb212) _ ⟨hHeld, (B.kr0 (Kd.R_mono HO200.out (fun _ hk => hk.2))), (B.kr0 (Kd.R_mono HO210.out (fun _ hk => hk.2))), (B.kb BK192), (B.kb BK193), (B.kb BK212), GW212.out, GE212.out, NB192_212.out, NB212_192.out, NB193_212.out, NB212_193.out, (B.bl HB)⟩)
    skip
    refine box_step ?hg (N := 6) ?hd (cs := #[.int .i64 0, .int .i64 0, .int .i64 0, .slice none 0 0]) (t := 28) ?hr ?_; (case hd => rfl); (case hg => rfl); (case hr => first | (go_simp; done) | (go_simp; rfl))
    intro gb212 hg w23 hbox hb
    have n0_ := Aside0.mk (blk_below (B.kb BK192) hb)
    have n1_ := Aside0.mk (blk_below (B.kb BK193) hb)
    have n2_ := Aside0.mk (below_step (B.bl HB) hb)
    have n3_ := Aside0.mk (hbox)
    have n4_ := Aside0.mk (B.nle hg (below_size (B.bl HB)))
    have n5_ := Aside0.mk (B.nle hg (below_size (B.bl HB)))
    have n6_ := Aside0.mk (B.nlt hg (blk_lt (B.kb BK192)))
    have n7_ := Aside0.mk (B.ngt hg (blk_lt (B.kb BK192)))
    have n8_ := Aside0.mk (B.nlt hg (blk_lt (B.kb BK193)))
    have n9_ := Aside0.mk (B.ngt hg (blk_lt (B.kb BK193)))
    clear BK192 BK193 HB
    have BK192 := n0_
    have BK193 := n1_
    have HB := n2_
    have BK212 := n3_
    have GW212 := n4_
    have GE212 := n5_
    have NB192_212 := n6_
    have NB212_192 := n7_
    have NB193_212 := n8_
    have NB212_193 := n9_
    clear n0_ n1_ n2_ n3_ n4_ n5_ n6_ n7_ n8_ n9_
    clear hb hbox hg
    refine hK.out _ _ ⟨B.bc BK192 0, B.bc BK192 1, B.bc BK192 2, B.bc BK192 3, B.bc BK193 0, B.bc BK193 1, B.bc BK193 2, B.bc BK193 3⟩ (fun hHeld => ?_)
    clear hK K
    refine norm_ (a' := ?_) ?_ ?_
    rotate_left
    · show Act.put _ (some 6) _ = _
      simp only [Act.put, List.setIfInBounds_toArray, List.set_cons_zero, List.set_cons_succ, i64_w, i32_w]
      rfl
    refine one_ (i := 1) (N := some 23) #[true, true, true, false, false, false, false, false, true, false, false] rfl rfl (one_of HT_.out (by kernel_rfl)) (by decide) (fun K hK => ?_)
    refine goes_ Try.func10 (by kernel_rfl) rfl #[.agg #[.int .i64 a0_0, .int .i64 a0_1, .int .i64 a0_2, .slice A0_3 l0_3.length c0_3]] (by rfl) rfl rfl B.am ?_
    with_reducible refine (laws_toImage.calls k a0_0 a0_1 a0_2 _ _ l0_3 t195 t196 t197 t198 _ ?side1 ?side2 A10.out).mono ?_
    (case side1 => exact B.kc (Kd.C_below HR0_3.out HB.out))
    (case side2 => exact HC0_3.out)
    rintro e w24 ⟨v199, rfl, ho0, hb⟩
    refine ⟨_, rfl, ?_⟩
    have n0_ := Aside0.mk (Kd.R_lower ho0 (below_size (B.bl HB)))
    have n1_ := Aside0.mk (blk_below (B.kb BK192) hb)
    have n2_ := Aside0.mk (blk_below (B.kb BK193) hb)
    have n3_ := Aside0.mk (blk_below (B.kb BK212) hb)
    have n4_ := Aside0.mk (below_step (B.bl HB) hb)
    clear BK192 BK193 BK212 HB
    have HO200 := n0_
    have BK192 := n1_
    have BK193 := n2_
    have BK212 := n3_
    have HB := n4_
    clear n0_ n1_ n2_ n3_ n4_
    (try clear hb)
    (try clear hb2)
    (try clear hk)
    (try clear hi)
    (try clear ho0)
    refine hK.out _ _ ⟨B.bc BK192 0, B.bc BK192 1, B.bc BK192 2, B.bc BK192 3, B.bc BK193 0, B.bc BK193 1, B.bc BK193 2, B.bc BK193 3⟩ (fun hHeld => ?_)
    clear hK K
    refine norm_ (a' := ?_) ?_ ?_
    rotate_left
    · show Act.put _ (some 23) _ = _
      simp only [Act.put, List.setIfInBounds_toArray, List.set_cons_zero, List.set_cons_succ, i64_w, i32_w]
      rfl
    refine one_ (i := 3) (N := some 25) #[true, true, true, true, false, false, false, false, true, false, false] rfl rfl (one_of HT_.out (by kernel_rfl)) (by decide) (fun K hK => ?_)
    refine goes_ Try.func11 (by kernel_rfl) rfl #[.agg #[.int .i64 a1_0, .int .i64 a1_1, .int .i64 a1_2, .int .i64 a1_3]] (by rfl) rfl rfl B.am ?_
    with_reducible refine (laws_toBox.calls a1_0 a1_1 a1_2 a1_3 t201 t202 t203 t204 _ A11.out).mono ?_
    rintro e w25 ⟨rfl, hb⟩
    refine ⟨_, rfl, ?_⟩
    have n0_ := Aside0.mk (Kd.R_below (B.kr HO200) hb)
    have n1_ := Aside0.mk (blk_below (B.kb BK192) hb)
    have n2_ := Aside0.mk (blk_below (B.kb BK193) hb)
    have n3_ := Aside0.mk (blk_below (B.kb BK212) hb)
    have n4_ := Aside0.mk (below_step (B.bl HB) hb)
    clear HO200 BK192 BK193 BK212 HB
    have HO200 := n0_
    have BK192 := n1_
    have BK193 := n2_
    have BK212 := n3_
    have HB := n4_
    clear n0_ n1_ n2_ n3_ n4_
    (try clear hb)
    (try clear hb2)
    (try clear hk)
    (try clear hi)
    obtain ⟨Ao26, co26, eo26⟩ := Kd.R_slice HO200.out
    (first | subst eo26 | (injection eo26 with f1_ f2_ f3_; have f4_ := f1_.symm; have f5_ := f3_.symm; clear f1_ f2_ f3_; subst f4_; subst f5_))
    refine hK.out _ _ ⟨B.bc BK192 0, B.bc BK192 1, B.bc BK192 2, B.bc BK192 3, B.bc BK193 0, B.bc BK193 1, B.bc BK193 2, B.bc BK193 3⟩ (fun hHeld => ?_)
    clear hK K
    refine norm_ (a' := ?_) ?_ ?_
    rotate_left
    · show Act.put _ (some 25) _ = _
      simp only [Act.put, List.setIfInBounds_toArray, List.set_cons_zero, List.set_cons_succ, i64_w, i32_w]
      rfl
    refine one_ (i := 4) (N := some 26) #[true, true, true, true, true, false, false, false, true, false, false] rfl rfl (one_of HT_.out (by kernel_rfl)) (by decide) (fun K hK => ?_)
    refine goes_ Try.func9 (by kernel_rfl) rfl #[.agg #[.int .i64 t195, .int .i64 t196, .int .i64 t197, .slice Ao26 t198.length co26], .agg #[.int .i64 t201, .int .i64 t202, .int .i64 t203, .int .i64 t204]] (by rfl) rfl rfl B.am ?_
    with_reducible refine (spec_CropImage.calls k t195 t196 t197 _ _ t198 t201 t202 t203 t204 t205 t206 t207 t208 t211 _ ?side1 ?side2 A12.out).mono ?_
    (case side1 => exact B.kc ((Kd.R_reads' HO200.out).2.2))
    (case side2 => exact (Kd.R_reads' HO200.out).2.1)
    rintro e w27 ⟨v209, rfl, ho0, hb⟩
    refine ⟨_, rfl, ?_⟩
    have n0_ := Aside0.mk (Kd.R_elder' (B.kr HO200) (Kd.R_base ho0) hb)
    have n1_ := Aside0.mk (Kd.R_lower (Kd.R_new' ho0 (Kd.R_lt (B.kr HO200))) (below_size (B.bl HB)))
    have n2_ := Aside0.mk (blk_below (B.kb BK192) hb)
    have n3_ := Aside0.mk (blk_below (B.kb BK193) hb)
    have n4_ := Aside0.mk (blk_below (B.kb BK212) hb)
    have n5_ := Aside0.mk (below_step (B.bl HB) hb)
    clear HO200 BK192 BK193 BK212 HB
    have HO200 := n0_
    have HO210 := n1_
    have BK192 := n2_
    have BK193 := n3_
    have BK212 := n4_
    have HB := n5_
    clear n0_ n1_ n2_ n3_ n4_ n5_
    (try clear hb)
    (try clear hb2)
    (try clear hk)
    (try clear hi)
    (try clear ho0)
    refine hK.out _ _ ⟨B.bc BK192 0, B.bc BK192 1, B.bc BK192 2, B.bc BK192 3, B.bc BK193 0, B.bc BK193 1, B.bc BK193 2, B.bc BK193 3⟩ (fun hHeld => ?_)
    clear hK K
    refine norm_ (a' := ?_) ?_ ?_
    rotate_left
    · show Act.put _ (some 26) _ = _
      simp only [Act.put, List.setIfInBounds_toArray, List.set_cons_zero, List.set_cons_succ, i64_w, i32_w]
      rfl
    refine pure_ (i := 5) (N := some 21) (v := ?_) (a' := ?_) #[true, true, true, true, true, true, false, false, true, false, false] rfl rfl (any_of HT_.out (by kernel_rfl)) (fun _ _ _ h => h) (Or.inl ⟨by rfl, ?_⟩) ?_ ?_
    rotate_left
    · intro w'
      go_simp
      with_reducible rfl
    rotate_left
    · simp only [Act.put, List.setIfInBounds_toArray, List.set_cons_zero, List.set_cons_succ, i64_w, i32_w]
      rfl
    refine pure_ (i := 6) (N := some 27) (v := ?_) (a' := ?_) #[true, true, true, true, true, true, true, false, true, false, false] rfl rfl (any_of HT_.out (by kernel_rfl)) (fun _ _ _ h => h) (Or.inl ⟨by rfl, ?_⟩) ?_ ?_
    rotate_left
    · intro w'
      go_simp
      with_reducible rfl
    rotate_left
    · simp only [Act.put, List.setIfInBounds_toArray, List.set_cons_zero, List.set_cons_succ, i64_w, i32_w]
      rfl
    refine pure_ (i := 7) (N := some 28) (v := ?_) (a' := ?_) #[true, true, true, true, true, true, true, true, true, false, false] rfl rfl (any_of HT_.out (by kernel_rfl)) (fun _ _ _ h => h) (Or.inl ⟨by rfl, ?_⟩) ?_ ?_
    rotate_left
    · intro w'
      go_simp
      with_reducible rfl
    rotate_left
    · simp only [Act.put, List.setIfInBounds_toArray, List.set_cons_zero, List.set_cons_succ, i64_w, i32_w]
      rfl
    exact norm_ (by simp only [putAll, Act.put, List.setIfInBounds_toArray, List.set_cons_zero, List.set_cons_succ]) (hCont (.slice Ao26 t198.length co26, v209, gb212) _ ⟨hHeld, (B.kr0 (Kd.R_mono HO200.out (fun _ hk => hk.2))), (B.kr0 (Kd.R_mono HO210.out (fun _ hk => hk.2))), (B.kb BK192), (B.kb BK193), (B.kb BK212), GW212.out, GE212.out, NB192_212.out, NB212_192.out, NB193_212.out, NB212_193.out, (B.bl HB)⟩)
  rintro ⟨v199, v209, gb212⟩ w28 ⟨hS_, h0_, h1_, h2_, h3_, h4_, h5_, h6_, h7_, h8_, h9_, h10_, h11_⟩
  have n0_ : Aside0 (Kd.R (Kd.int .i64) 3 w28 w.heap.size (fun k_ => some k_ ≠ (v209 : Value).ownBlock) v199 t198) := ⟨h0_⟩
  have n1_ : Aside0 (Kd.R (Kd.int .i64) 3 w28 w.heap.size (fun k_ => some k_ ≠ (v199 : Value).ownBlock) v209 t208) := ⟨h1_⟩
  have n2_ : Aside0 (w28.heap[gb192]? = some (.cells #[.int .i64 a0_0, .int .i64 a0_1, .int .i64 a0_2, .slice A0_3 l0_3.length c0_3] 24 (0, 0))) := ⟨h2_⟩
  have n3_ : Aside0 (w28.heap[gb193]? = some (.cells #[.int .i64 a1_0, .int .i64 a1_1, .int .i64 a1_2, .int .i64 a1_3] 26 (0, 0))) := ⟨h3_⟩
  have n4_ : Aside0 (w28.heap[gb212]? = some (.cells #[.int .i64 0, .int .i64 0, .int .i64 0, .slice none 0 0] 28 (0, 0))) := ⟨h4_⟩
  have n5_ : Aside0 (w.heap.size ≤ gb212) := ⟨h5_⟩
  have n6_ : Aside0 (w.heap.size ≤ gb212) := ⟨h6_⟩
  have n7_ : Aside0 (gb192 ≠ gb212) := ⟨h7_⟩
  have n8_ : Aside0 (gb212 ≠ gb192) := ⟨h8_⟩
  have n9_ : Aside0 (gb193 ≠ gb212) := ⟨h9_⟩
  have n10_ : Aside0 (gb212 ≠ gb193) := ⟨h10_⟩
  have n11_ : Aside0 (Below w.heap.size w w28) := ⟨h11_⟩
  clear BK192 BK193 HB
  clear h0_ h1_ h2_ h3_ h4_ h5_ h6_ h7_ h8_ h9_ h10_ h11_
  have HO200 := n0_
  have HO210 := n1_
  have BK192 := n2_
  have BK193 := n3_
  have BK212 := n4_
  have GW212 := n5_
  have GE212 := n6_
  have NB192_212 := n7_
  have NB212_192 := n8_
  have NB193_212 := n9_
  have NB212_193 := n10_
  have HB := n11_
  clear n0_ n1_ n2_ n3_ n4_ n5_ n6_ n7_ n8_ n9_ n10_ n11_
  have hHeld : w28.cell? ⟨gb192, 0, none⟩ = some (.int .i64 a0_0) ∧ w28.cell? ⟨gb192, 1, none⟩ = some (.int .i64 a0_1) ∧ w28.cell? ⟨gb192, 2, none⟩ = some (.int .i64 a0_2) ∧ w28.cell? ⟨gb192, 3, none⟩ = some (.slice A0_3 l0_3.length c0_3) ∧ w28.cell? ⟨gb193, 0, none⟩ = some (.int .i64 a1_0) ∧ w28.cell? ⟨gb193, 1, none⟩ = some (.int .i64 a1_1) ∧ w28.cell? ⟨gb193, 2, none⟩ = some (.int .i64 a1_2) ∧ w28.cell? ⟨gb193, 3, none⟩ = some (.int .i64 a1_3) := hS_
  obtain ⟨Ao32, co32, eo32⟩ := Kd.R_slice HO210.out
  (first | subst eo32 | (injection eo32 with f1_ f2_ f3_; have f4_ := f1_.symm; have f5_ := f3_.symm; clear f1_ f2_ f3_; subst f4_; subst f5_))
  refine norm_ (a' := ?_) ?_ ?_
  rotate_left
  · simp only [putAll, Act.put, List.setIfInBounds_toArray, List.set_cons_zero, List.set_cons_succ]
    rfl
  refine one_ (i := 9) (N := none) #[true, true, true, true, true, true, true, true, true, true, false] rfl rfl (one_of HT_.out (by kernel_rfl)) (by decide) (fun K hK => ?_)
  have hs29 : w28.cell? ⟨gb212, 0, none⟩ = some (.int .i64 0) := B.bc BK212 0
  have hfs29 := blk_frozen BK212.out 0
  have hns29_0 := NB192_212.out
  have hns29_1 := NB193_212.out
  have hms29_0 := NB212_192.out
  have hms29_1 := NB212_193.out
  have hs30 : w28.cell? ⟨gb212, 1, none⟩ = some (.int .i64 0) := B.bc BK212 1
  have hfs30 := blk_frozen BK212.out 1
  have hns30_0 := NB192_212.out
  have hns30_1 := NB193_212.out
  have hms30_0 := NB212_192.out
  have hms30_1 := NB212_193.out
  have hs31 : w28.cell? ⟨gb212, 2, none⟩ = some (.int .i64 0) := B.bc BK212 2
  have hfs31 := blk_frozen BK212.out 2
  have hns31_0 := NB192_212.out
  have hns31_1 := NB193_212.out
  have hms31_0 := NB212_192.out
  have hms31_1 := NB212_193.out
  have hs33 : w28.cell? ⟨gb212, 3, none⟩ = some (.slice none 0 0) := B.bc BK212 3
  have hfs33 := blk_frozen BK212.out 3
  have hns33_0 := NB192_212.out
  have hns33_1 := NB193_212.out
  have hms33_0 := NB212_192.out
  have hms33_1 := NB212_193.out
  refine skip_ (w1 := ?_) (by rfl) rfl ?_ ?_
  rotate_left
  · go_simp
    rfl
  refine hK.out _ _ ⟨(B.cf4 NB192_212 hHeld.1), (B.cf4 NB192_212 hHeld.2.1), (B.cf4 NB192_212 hHeld.2.2.1), (B.cf4 NB192_212 hHeld.2.2.2.1), (B.cf4 NB193_212 hHeld.2.2.2.2.1), (B.cf4 NB193_212 hHeld.2.2.2.2.2.1), (B.cf4 NB193_212 hHeld.2.2.2.2.2.2.1), (B.cf4 NB193_212 hHeld.2.2.2.2.2.2.2)⟩ (fun hHeld => ?_)
  clear hK K
  refine pure_ (i := 10) (N := some 7) (v := ?_) (a' := ?_) #[true, true, true, true, true, true, true, true, true, true, true] rfl rfl (any_of HT_.out (by kernel_rfl)) (fun _ _ _ h => h) (Or.inl ⟨by rfl, ?_⟩) ?_ ?_
  rotate_left
  · intro w'
    go_simp
    with_reducible rfl
  rotate_left
  · simp only [Act.put, List.setIfInBounds_toArray, List.set_cons_zero, List.set_cons_succ, i64_w, i32_w]
    rfl
  refine done_ (done_of HT_.out (by kernel_rfl)) ?_
  have hnb34 := NB192_212.out
  have hnc34 := NB212_192.out
  have hcz35_0 : w28.cell? ⟨gb192, 0, none⟩ = some (.int .i64 a0_0) := B.bc BK192 0
  have hcz35_1 : w28.cell? ⟨gb192, 1, none⟩ = some (.int .i64 a0_1) := B.bc BK192 1
  have hcz35_2 : w28.cell? ⟨gb192, 2, none⟩ = some (.int .i64 a0_2) := B.bc BK192 2
  have hcz35_3 : w28.cell? ⟨gb192, 3, none⟩ = some (.slice A0_3 l0_3.length c0_3) := B.bc BK192 3
  have hfz35_0 := blk_frozen BK192.out 0
  have hfz35_1 := blk_frozen BK192.out 1
  have hfz35_2 := blk_frozen BK192.out 2
  have hfz35_3 := blk_frozen BK192.out 3
  try go_wp2_with (first | ((with_reducible refine gate_callee (f := 10) rfl ?_); refine goesL_ (some 30) rfl rfl Try.func10 (by kernel_rfl) rfl #[.agg #[.int .i64 a0_0, .int .i64 a0_1, .int .i64 a0_2, .slice A0_3 l0_3.length c0_3]] rfl B.am ?_; (with_reducible refine (laws_toImage.calls k a0_0 a0_1 a0_2 _ _ l0_3 t213 t214 t215 t216 _ ?side1 ?side2 A13.out).mono ?_); (case side1 => exact Kd.C_below HR0_3.out (B.bl HB)); (case side2 => exact HC0_3.out); rintro e w36 ⟨v217, rfl, ho0, hb⟩; refine ⟨_, rfl, ?_⟩; have n0_ := Aside0.mk (Kd.R_elder' (B.kr0 (B.rs4 HO200 BK212)) (Kd.R_base ho0) hb); have n1_ := Aside0.mk (Kd.R_elder' (B.kr0 (B.rs4 HO210 BK212)) (Kd.R_base ho0) hb); have n2_ := Aside0.mk (Kd.R_lower (Kd.R_new' (Kd.R_new' ho0 (Kd.R_lt (B.kr0 (B.rs4 HO200 BK212)))) (Kd.R_lt (B.kr0 (B.rs4 HO210 BK212)))) (below_size (B.bl HB))); have n3_ := Aside0.mk (blk_below (B.kb0 (B.bf4 BK192 NB192_212)) hb); have n4_ := Aside0.mk (blk_below (B.kb0 (B.bf4 BK193 NB193_212)) hb); have n5_ := Aside0.mk (blk_below (g := gb212) (o := .cells #[.int .i64 t205, .int .i64 t206, .int .i64 t207, .slice Ao32 t208.length co32] 28 (0, 0)) (B.kb0 (B.bp4 BK212)) hb); have n6_ := Aside0.mk (below_step (B.bl HB) hb); clear HO200 HO210 BK192 BK193 BK212 HB; have HO200 := n0_; have HO210 := n1_; have HO218 := n2_; have BK192 := n3_; have BK193 := n4_; have BK212 := n5_; have HB := n6_; clear n0_ n1_ n2_ n3_ n4_ n5_ n6_; (try clear hb); (try clear hb2); (try clear hk); (try clear hi); (try clear ho0)) | ((with_reducible refine gate_dst (N := 8) rfl ?_); refine box_event ?hg (N := 8) ?hd (cs := #[.int .i64 0, .int .i64 0, .int .i64 0, .slice none 0 0]) (t := 28) ?hr ?_; (case hd => rfl); (case hg => rfl); (case hr => first | (go_simp; done) | (go_simp; rfl)); intro gb219 hg w37 hbox hb; have n0_ := Aside0.mk (Kd.R_below (B.kr HO200) hb); have n1_ := Aside0.mk (Kd.R_below (B.kr HO210) hb); have n2_ := Aside0.mk (Kd.R_below (B.kr HO218) hb); have n3_ := Aside0.mk (blk_below (B.kb BK192) hb); have n4_ := Aside0.mk (blk_below (B.kb BK193) hb); have n5_ := Aside0.mk (blk_below (B.kb BK212) hb); have n6_ := Aside0.mk (below_step (B.bl HB) hb); have n7_ := Aside0.mk (hbox); have n8_ := Aside0.mk (B.nle hg (below_size (B.bl HB))); have n9_ := Aside0.mk (B.nle hg (below_size (B.bl HB))); have n10_ := Aside0.mk (B.nlt hg (blk_lt (B.kb BK192))); have n11_ := Aside0.mk (B.ngt hg (blk_lt (B.kb BK192))); have n12_ := Aside0.mk (B.nlt hg (blk_lt (B.kb BK193))); have n13_ := Aside0.mk (B.ngt hg (blk_lt (B.kb BK193))); have n14_ := Aside0.mk (B.nlt hg (blk_lt (B.kb BK212))); have n15_ := Aside0.mk (B.ngt hg (blk_lt (B.kb BK212))); clear HO200 HO210 HO218 BK192 BK193 BK212 HB; have HO200 := n0_; have HO210 := n1_; have HO218 := n2_; have BK192 := n3_; have BK193 := n4_; have BK212 := n5_; have HB := n6_; have BK219 := n7_; have GW219 := n8_; have GE219 := n9_; have NB192_219 := n10_; have NB219_192 := n11_; have NB193_219 := n12_; have NB219_193 := n13_; have NB212_219 := n14_; have NB219_212 := n15_; clear n0_ n1_ n2_ n3_ n4_ n5_ n6_ n7_ n8_ n9_ n10_ n11_ n12_ n13_ n14_ n15_; clear hb hbox hg; have hnb38 := NB219_192.out; have hnc38 := NB192_219.out; have hnb39 := NB219_193.out; have hnc39 := NB193_219.out; have hnb40 := NB219_212.out; have hnc40 := NB212_219.out; have hcz41_0 : w37.cell? ⟨gb219, 0, none⟩ = some (.int .i64 0) := B.bc BK219 0; have hcz41_1 : w37.cell? ⟨gb219, 1, none⟩ = some (.int .i64 0) := B.bc BK219 1; have hcz41_2 : w37.cell? ⟨gb219, 2, none⟩ = some (.int .i64 0) := B.bc BK219 2; have hcz41_3 : w37.cell? ⟨gb219, 3, none⟩ = some (.slice none 0 0) := B.bc BK219 3; have hfz41_0 := blk_frozen BK219.out 0; have hfz41_1 := blk_frozen BK219.out 1; have hfz41_2 := blk_frozen BK219.out 2; have hfz41_3 := blk_frozen BK219.out 3; obtain ⟨Ao42, co42, eo42⟩ := Kd.R_slice HO218.out; subst eo42))
  have n0_ : Aside0 (Kd.R (Kd.int .i64) 3 ((((w37.setCell ⟨gb219, 0, none⟩ (.int .i64 t213)).setCell ⟨gb219, 1, none⟩ (.int .i64 t214)).setCell ⟨gb219, 2, none⟩ (.int .i64 t215)).setCell ⟨gb219, 3, none⟩ (.slice Ao42 t216.length co42)) w.heap.size (fun k_ => some k_ ≠ (.slice Ao32 t208.length co32 : Value).ownBlock ∧ some k_ ≠ (.slice Ao42 t216.length co42 : Value).ownBlock) v199 t198) := ⟨B.kr0 (Kd.R_mono (B.rf4 HO200 BK219) (fun _ hk => ⟨hk.1.1, hk.1.2⟩))⟩
  have n1_ : Aside0 (Kd.R (Kd.int .i64) 3 ((((w37.setCell ⟨gb219, 0, none⟩ (.int .i64 t213)).setCell ⟨gb219, 1, none⟩ (.int .i64 t214)).setCell ⟨gb219, 2, none⟩ (.int .i64 t215)).setCell ⟨gb219, 3, none⟩ (.slice Ao42 t216.length co42)) w.heap.size (fun k_ => some k_ ≠ (v199 : Value).ownBlock ∧ some k_ ≠ (.slice Ao42 t216.length co42 : Value).ownBlock) (.slice Ao32 t208.length co32) t208) := ⟨B.kr0 (Kd.R_mono (B.rf4 HO210 BK219) (fun _ hk => ⟨hk.1.1, hk.1.2⟩))⟩
  have n2_ : Aside0 (Kd.R (Kd.int .i64) 3 ((((w37.setCell ⟨gb219, 0, none⟩ (.int .i64 t213)).setCell ⟨gb219, 1, none⟩ (.int .i64 t214)).setCell ⟨gb219, 2, none⟩ (.int .i64 t215)).setCell ⟨gb219, 3, none⟩ (.slice Ao42 t216.length co42)) w.heap.size (fun k_ => some k_ ≠ (v199 : Value).ownBlock ∧ some k_ ≠ (.slice Ao32 t208.length co32 : Value).ownBlock) (.slice Ao42 t216.length co42) t216) := ⟨B.kr0 (Kd.R_mono (B.rf4 HO218 BK219) (fun _ hk => ⟨hk.1.1.2, hk.1.2⟩))⟩
  have n3_ : Aside0 (((((w37.setCell ⟨gb219, 0, none⟩ (.int .i64 t213)).setCell ⟨gb219, 1, none⟩ (.int .i64 t214)).setCell ⟨gb219, 2, none⟩ (.int .i64 t215)).setCell ⟨gb219, 3, none⟩ (.slice Ao42 t216.length co42)).heap[gb192]? = some (.cells #[.int .i64 a0_0, .int .i64 a0_1, .int .i64 a0_2, .slice A0_3 l0_3.length c0_3] 24 (0, 0))) := ⟨B.kb0 (B.bf4 BK192 NB192_219)⟩
  have n4_ : Aside0 (((((w37.setCell ⟨gb219, 0, none⟩ (.int .i64 t213)).setCell ⟨gb219, 1, none⟩ (.int .i64 t214)).setCell ⟨gb219, 2, none⟩ (.int .i64 t215)).setCell ⟨gb219, 3, none⟩ (.slice Ao42 t216.length co42)).heap[gb193]? = some (.cells #[.int .i64 a1_0, .int .i64 a1_1, .int .i64 a1_2, .int .i64 a1_3] 26 (0, 0))) := ⟨B.kb0 (B.bf4 BK193 NB193_219)⟩
  have n5_ : Aside0 (((((w37.setCell ⟨gb219, 0, none⟩ (.int .i64 t213)).setCell ⟨gb219, 1, none⟩ (.int .i64 t214)).setCell ⟨gb219, 2, none⟩ (.int .i64 t215)).setCell ⟨gb219, 3, none⟩ (.slice Ao42 t216.length co42)).heap[gb212]? = some (.cells #[.int .i64 t205, .int .i64 t206, .int .i64 t207, .slice Ao32 t208.length co32] 28 (0, 0))) := ⟨B.kb0 (B.bf4 BK212 NB212_219)⟩
  have n6_ : Aside0 (((((w37.setCell ⟨gb219, 0, none⟩ (.int .i64 t213)).setCell ⟨gb219, 1, none⟩ (.int .i64 t214)).setCell ⟨gb219, 2, none⟩ (.int .i64 t215)).setCell ⟨gb219, 3, none⟩ (.slice Ao42 t216.length co42)).heap[gb219]? = some (.cells #[.int .i64 t213, .int .i64 t214, .int .i64 t215, .slice Ao42 t216.length co42] 28 (0, 0))) := ⟨B.kb0 (B.bp4 BK219)⟩
  have n7_ : Aside0 (Below w.heap.size w ((((w37.setCell ⟨gb219, 0, none⟩ (.int .i64 t213)).setCell ⟨gb219, 1, none⟩ (.int .i64 t214)).setCell ⟨gb219, 2, none⟩ (.int .i64 t215)).setCell ⟨gb219, 3, none⟩ (.slice Ao42 t216.length co42))) := ⟨B.bl HB⟩
  (try clear HO200)
  (try clear HO210)
  (try clear HO218)
  (try clear BK192)
  (try clear BK193)
  (try clear BK212)
  (try clear BK219)
  (try clear HB)
  generalize ((((w37.setCell ⟨gb219, 0, none⟩ (.int .i64 t213)).setCell ⟨gb219, 1, none⟩ (.int .i64 t214)).setCell ⟨gb219, 2, none⟩ (.int .i64 t215)).setCell ⟨gb219, 3, none⟩ (.slice Ao42 t216.length co42)) = w43 at n0_ n1_ n2_ n3_ n4_ n5_ n6_ n7_ ⊢
  have HO200 := n0_
  have HO210 := n1_
  have HO218 := n2_
  have BK192 := n3_
  have BK193 := n4_
  have BK212 := n5_
  have BK219 := n6_
  have HB := n7_
  clear n0_ n1_ n2_ n3_ n4_ n5_ n6_ n7_
  have n0_ := Aside0.mk (Kd.R_drew HO200.out)
  have n1_ := Aside0.mk (Kd.R_drew HO210.out)
  have n2_ := Aside0.mk (Kd.R_drew HO218.out)
  have n3_ := Aside0.mk (blk_drew BK192.out)
  have n4_ := Aside0.mk (blk_drew BK193.out)
  have n5_ := Aside0.mk (blk_drew BK212.out)
  have n6_ := Aside0.mk (blk_drew BK219.out)
  have n7_ := Aside0.mk (below_drew1 HB.out)
  clear HO200 HO210 HO218 BK192 BK193 BK212 BK219 HB
  have HO200 := n0_
  have HO210 := n1_
  have HO218 := n2_
  have BK192 := n3_
  have BK193 := n4_
  have BK212 := n5_
  have BK219 := n6_
  have HB := n7_
  clear n0_ n1_ n2_ n3_ n4_ n5_ n6_ n7_
  refine start_ (n := 10) (S := fun w' => w'.cell? ⟨gb219, 0, none⟩ = some (.int .i64 t213) ∧ w'.cell? ⟨gb219, 1, none⟩ = some (.int .i64 t214) ∧ w'.cell? ⟨gb219, 2, none⟩ = some (.int .i64 t215) ∧ w'.cell? ⟨gb219, 3, none⟩ = some (.slice Ao42 t216.length co42) ∧ w'.cell? ⟨gb193, 0, none⟩ = some (.int .i64 a1_0) ∧ w'.cell? ⟨gb193, 1, none⟩ = some (.int .i64 a1_1) ∧ w'.cell? ⟨gb193, 2, none⟩ = some (.int .i64 a1_2) ∧ w'.cell? ⟨gb193, 3, none⟩ = some (.int .i64 a1_3)) (ds := []) #[false, false, false, false, false, false, false, false, false, false] (by kernel_rfl) rfl rfl ⟨B.bc BK219 0, B.bc BK219 1, B.bc BK219 2, B.bc BK219 3, B.bc BK193 0, B.bc BK193 1, B.bc BK193 2, B.bc BK193 3⟩ (fun hHeld => ?_); refine with_tabW laws_FnExactCropImage.tab7 laws_FnExactCropImage.bits7 (fun HT_ HW_ => ?_)
  generalize w43.drew = w44 at HO200 HO210 HO218 BK192 BK193 BK212 BK219 HB hHeld ⊢
  refine take_ (i := 0) (N := some 32) (v := ?_) (a' := ?_) #[true, false, false, false, false, false, false, false, false, false] rfl rfl (take_ofW HT_.out HW_.out (by kernel_rfl)) (fun _ _ _ h => h) (Or.inl ⟨by rfl, ?_⟩) hHeld ?_ ?_
  rotate_left
  · rintro w' ⟨s0, s1, s2, s3, s4, s5, s6, s7⟩
    go_simp
    with_reducible rfl
  rotate_left
  · simp only [Act.put, List.setIfInBounds_toArray, List.set_cons_zero, List.set_cons_succ, i64_w, i32_w]
    rfl
  refine take_ (i := 1) (N := some 33) (v := ?_) (a' := ?_) #[true, true, false, false, false, false, false, false, false, false] rfl rfl (take_ofW HT_.out HW_.out (by kernel_rfl)) (fun _ _ _ h => h) (Or.inl ⟨by rfl, ?_⟩) hHeld ?_ ?_
  rotate_left
  · rintro w' ⟨s0, s1, s2, s3, s4, s5, s6, s7⟩
    go_simp
    with_reducible rfl
  rotate_left
  · simp only [Act.put, List.setIfInBounds_toArray, List.set_cons_zero, List.set_cons_succ, i64_w, i32_w]
    rfl
  refine join_ (σ := Value × Nat) 2 #[true, true, true, true, true, true, true, true, false, false] (fun s_ => [(34, .agg #[.int .i64 t220, .int .i64 t221, .int .i64 t222, .int .i64 t223]), (35, .tuple #[.agg #[.int .i64 t224, .int .i64 t225, .int .i64 t226, s_.1], .bool t230]), (9, .pointer (some ⟨s_.2, 0, none⟩)), (31, .tuple #[.agg #[.int .i64 t224, .int .i64 t225, .int .i64 t226, s_.1], .bool t230]), (36, .agg #[.int .i64 t224, .int .i64 t225, .int .i64 t226, s_.1]), (37, .bool t230)]) (fun s_ w' => (w'.cell? ⟨gb219, 0, none⟩ = some (.int .i64 t213) ∧ w'.cell? ⟨gb219, 1, none⟩ = some (.int .i64 t214) ∧ w'.cell? ⟨gb219, 2, none⟩ = some (.int .i64 t215) ∧ w'.cell? ⟨gb219, 3, none⟩ = some (.slice Ao42 t216.length co42) ∧ w'.cell? ⟨gb193, 0, none⟩ = some (.int .i64 a1_0) ∧ w'.cell? ⟨gb193, 1, none⟩ = some (.int .i64 a1_1) ∧ w'.cell? ⟨gb193, 2, none⟩ = some (.int .i64 a1_2) ∧ w'.cell? ⟨gb193, 3, none⟩ = some (.int .i64 a1_3)) ∧ (Kd.R (Kd.int .i64) 3 w' w.heap.size (fun k_ => some k_ ≠ (.slice Ao32 t208.length co32 : Value).ownBlock ∧ some k_ ≠ (.slice Ao42 t216.length co42 : Value).ownBlock ∧ some k_ ≠ (s_.1 : Value).ownBlock) v199 t198) ∧ (Kd.R (Kd.int .i64) 3 w' w.heap.size (fun k_ => some k_ ≠ (v199 : Value).ownBlock ∧ some k_ ≠ (.slice Ao42 t216.length co42 : Value).ownBlock ∧ some k_ ≠ (s_.1 : Value).ownBlock) (.slice Ao32 t208.length co32) t208) ∧ (Kd.R (Kd.int .i64) 3 w' w.heap.size (fun k_ => some k_ ≠ (v199 : Value).ownBlock ∧ some k_ ≠ (.slice Ao32 t208.length co32 : Value).ownBlock ∧ some k_ ≠ (s_.1 : Value).ownBlock) (.slice Ao42 t216.length co42) t216) ∧ (Kd.R (Kd.int .i64) 3 w' w.heap.size (fun k_ => some k_ ≠ (v199 : Value).ownBlock ∧ some k_ ≠ (.slice Ao32 t208.length co32 : Value).ownBlock ∧ some k_ ≠ (.slice Ao42 t216.length co42 : Value).ownBlock) s_.1 t227) ∧ (w'.heap[gb192]? = some (.cells #[.int .i64 a0_0, .int .i64 a0_1, .int .i64 a0_2, .slice A0_3 l0_3.length c0_3] 24 (0, 0))) ∧ (w'.heap[gb193]? = some (.cells #[.int .i64 a1_0, .int .i64 a1_1, .int .i64 a1_2, .int .i64 a1_3] 26 (0, 0))) ∧ (w'.heap[gb212]? = some (.cells #[.int .i64 t205, .int .i64 t206, .int .i64 t207, .slice Ao32 t208.length co32] 28 (0, 0))) ∧ (w'.heap[gb219]? = some (.cells #[.int .i64 t213, .int .i64 t214, .int .i64 t215, .slice Ao42 t216.length co42] 28 (0, 0))) ∧ (w'.heap[s_.2]? = some (.cells #[.int .i64 0, .int .i64 0, .int .i64 0, .slice none 0 0] 28 (0, 0))) ∧ (w.heap.size ≤ s_.2) ∧ (w.heap.size ≤ s_.2) ∧ (gb192 ≠ s_.2) ∧ (s_.2 ≠ gb192) ∧ (gb193 ≠ s_.2) ∧ (s_.2 ≠ gb193) ∧ (gb212 ≠ s_.2) ∧ (s_.2 ≠ gb212) ∧ (gb219 ≠ s_.2) ∧ (s_.2 ≠ gb219) ∧ (Below w.heap.size w w')) ?_ ?_
  rotate_left
  · intro hCont
    refine two_ (i := 2) (j := 7) (Ni := some 34) (Nj := some 9) #[true, true, true, false, false, false, false, false, false, false] #[true, true, false, false, false, false, false, true, false, false] rfl rfl rfl rfl (two_of HT_.out (by kernel_rfl)) (by decide) (by decide) (fun K hK => ?_) (fun K hK => ?_)
    · skip
      refine goes_ Try.func11 (by kernel_rfl) rfl #[.agg #[.int .i64 a1_0, .int .i64 a1_1, .int .i64 a1_2, .int .i64 a1_3]] (by rfl) rfl rfl B.am ?_
      with_reducible refine (laws_toBox.calls a1_0 a1_1 a1_2 a1_3 t220 t221 t222 t223 _ A14.out).mono ?_
      rintro e w45 ⟨rfl, hb⟩
      refine ⟨_, rfl, ?_⟩
      have n0_ := Aside0.mk (Kd.R_below (B.kr HO200) hb)
      have n1_ := Aside0.mk (Kd.R_below (B.kr HO210) hb)
      have n2_ := Aside0.mk (Kd.R_below (B.kr HO218) hb)
      have n3_ := Aside0.mk (blk_below (B.kb BK192) hb)
      have n4_ := Aside0.mk (blk_below (B.kb BK193) hb)
      have n5_ := Aside0.mk (blk_below (B.kb BK212) hb)
      have n6_ := Aside0.mk (blk_below (B.kb BK219) hb)
      have n7_ := Aside0.mk (below_step (B.bl HB) hb)
      clear HO200 HO210 HO218 BK192 BK193 BK212 BK219 HB
      have HO200 := n0_
      have HO210 := n1_
      have HO218 := n2_
      have BK192 := n3_
      have BK193 := n4_
      have BK212 := n5_
      have BK219 := n6_
      have HB := n7_
      clear n0_ n1_ n2_ n3_ n4_ n5_ n6_ n7_
      (try clear hb)
      (try clear hb2)
      (try clear hk)
      (try clear hi)
      refine hK.out _ _ ⟨B.bc BK219 0, B.bc BK219 1, B.bc BK219 2, B.bc BK219 3, B.bc BK193 0, B.bc BK193 1, B.bc BK193 2, B.bc BK193 3⟩ (fun hHeld => ?_)
      clear hK K
      refine norm_ (a' := ?_) ?_ ?_
      rotate_left
      · show Act.put _ (some 34) _ = _
        simp only [Act.put, List.setIfInBounds_toArray, List.set_cons_zero, List.set_cons_succ, i64_w, i32_w]
        rfl
      refine two_ (i := 3) (j := 7) (Ni := some 35) (Nj := some 9) #[true, true, true, true, false, false, false, false, false, false] #[true, true, true, false, false, false, false, true, false, false] rfl rfl rfl rfl (two_of HT_.out (by kernel_rfl)) (by decide) (by decide) (fun K hK => ?_) (fun K hK => ?_)
      · skip
        refine goes_ Try.func12 (by kernel_rfl) rfl #[.agg #[.int .i64 t213, .int .i64 t214, .int .i64 t215, .slice Ao42 t216.length co42], .agg #[.int .i64 t220, .int .i64 t221, .int .i64 t222, .int .i64 t223]] (by rfl) rfl rfl B.am ?_
        with_reducible refine (impl_CropImage.calls t213 t214 t215 _ _ t216 t220 t221 t222 t223 t224 t225 t226 t227 t230 _ ?side1 ?side2 A15.out).mono ?_
        (case side1 => exact B.kc ((Kd.R_reads' HO218.out).2.2))
        (case side2 => exact (Kd.R_reads' HO218.out).2.1)
        rintro e w46 ⟨v228, rfl, ho0, hb⟩
        refine ⟨_, rfl, ?_⟩
        have n0_ := Aside0.mk (Kd.R_elder' (B.kr HO200) (Kd.R_base ho0) hb)
        have n1_ := Aside0.mk (Kd.R_elder' (B.kr HO210) (Kd.R_base ho0) hb)
        have n2_ := Aside0.mk (Kd.R_elder' (B.kr HO218) (Kd.R_base ho0) hb)
        have n3_ := Aside0.mk (Kd.R_lower (Kd.R_new' (Kd.R_new' (Kd.R_new' ho0 (Kd.R_lt (B.kr HO200))) (Kd.R_lt (B.kr HO210))) (Kd.R_lt (B.kr HO218))) (below_size (B.bl HB)))
        have n4_ := Aside0.mk (blk_below (B.kb BK192) hb)
        have n5_ := Aside0.mk (blk_below (B.kb BK193) hb)
        have n6_ := Aside0.mk (blk_below (B.kb BK212) hb)
        have n7_ := Aside0.mk (blk_below (B.kb BK219) hb)
        have n8_ := Aside0.mk (below_step (B.bl HB) hb)
        clear HO200 HO210 HO218 BK192 BK193 BK212 BK219 HB
        have HO200 := n0_
        have HO210 := n1_
        have HO218 := n2_
        have HO229 := n3_
        have BK192 := n4_
        have BK193 := n5_
        have BK212 := n6_
        have BK219 := n7_
        have HB := n8_
        clear n0_ n1_ n2_ n3_ n4_ n5_ n6_ n7_ n8_
        (try clear hb)
        (try clear hb2)
        (try clear hk)
        (try clear hi)
        (try clear ho0)
        refine hK.out _ _ ⟨B.bc BK219 0, B.bc BK219 1, B.bc BK219 2, B.bc BK219 3, B.bc BK193 0, B.bc BK193 1, B.bc BK193 2, B.bc BK193 3⟩ (fun hHeld => ?_)
        clear hK K
        refine norm_ (a' := ?_) ?_ ?_
        rotate_left
        · show Act.put _ (some 35) _ = _
          simp only [Act.put, List.setIfInBounds_toArray, List.set_cons_zero, List.set_cons_succ, i64_w, i32_w]
          rfl
        refine pure_ (i := 4) (N := some 31) (v := ?_) (a' := ?_) #[true, true, true, true, true, false, false, false, false, false] rfl rfl (any_of HT_.out (by kernel_rfl)) (fun _ _ _ h => h) (Or.inl ⟨by rfl, ?_⟩) ?_ ?_
        rotate_left
        · intro w'
          go_simp
          with_reducible rfl
        rotate_left
        · simp only [Act.put, List.setIfInBounds_toArray, List.set_cons_zero, List.set_cons_succ, i64_w, i32_w]
          rfl
        refine pure_ (i := 5) (N := some 36) (v := ?_) (a' := ?_) #[true, true, true, true, true, true, false, false, false, false] rfl rfl (any_of HT_.out (by kernel_rfl)) (fun _ _ _ h => h) (Or.inl ⟨by rfl, ?_⟩) ?_ ?_
        rotate_left
        · intro w'
          go_simp
          with_reducible rfl
        rotate_left
        · simp only [Act.put, List.setIfInBounds_toArray, List.set_cons_zero, List.set_cons_succ, i64_w, i32_w]
          rfl
        refine pure_ (i := 6) (N := some 37) (v := ?_) (a' := ?_) #[true, true, true, true, true, true, true, false, false, false] rfl rfl (any_of HT_.out (by kernel_rfl)) (fun _ _ _ h => h) (Or.inl ⟨by rfl, ?_⟩) ?_ ?_
        rotate_left
        · intro w'
          go_simp
          with_reducible rfl
        rotate_left
        · simp only [Act.put, List.setIfInBounds_toArray, List.set_cons_zero, List.set_cons_succ, i64_w, i32_w]
          rfl
        refine one_ (i := 7) (N := some 9) #[true, true, true, true, true, true, true, true, false, false] rfl rfl (one_of HT_.out (by kernel_rfl)) (by decide) (fun K hK => ?_)
        refine box_step ?hg (N := 9) ?hd (cs := #[.int .i64 0, .int .i64 0, .int .i64 0, .slice none 0 0]) (t := 28) ?hr ?_; (case hd => rfl); (case hg => rfl); (case hr => first | (go_simp; done) | (go_simp; rfl))
        intro gb231 hg w47 hbox hb
        have n0_ := Aside0.mk (Kd.R_below (B.kr HO200) hb)
        have n1_ := Aside0.mk (Kd.R_below (B.kr HO210) hb)
        have n2_ := Aside0.mk (Kd.R_below (B.kr HO218) hb)
        have n3_ := Aside0.mk (Kd.R_below (B.kr HO229) hb)
        have n4_ := Aside0.mk (blk_below (B.kb BK192) hb)
        have n5_ := Aside0.mk (blk_below (B.kb BK193) hb)
        have n6_ := Aside0.mk (blk_below (B.kb BK212) hb)
        have n7_ := Aside0.mk (blk_below (B.kb BK219) hb)
        have n8_ := Aside0.mk (below_step (B.bl HB) hb)
        have n9_ := Aside0.mk (hbox)
        have n10_ := Aside0.mk (B.nle hg (below_size (B.bl HB)))
        have n11_ := Aside0.mk (B.nle hg (below_size (B.bl HB)))
        have n12_ := Aside0.mk (B.nlt hg (blk_lt (B.kb BK192)))
        have n13_ := Aside0.mk (B.ngt hg (blk_lt (B.kb BK192)))
        have n14_ := Aside0.mk (B.nlt hg (blk_lt (B.kb BK193)))
        have n15_ := Aside0.mk (B.ngt hg (blk_lt (B.kb BK193)))
        have n16_ := Aside0.mk (B.nlt hg (blk_lt (B.kb BK212)))
        have n17_ := Aside0.mk (B.ngt hg (blk_lt (B.kb BK212)))
        have n18_ := Aside0.mk (B.nlt hg (blk_lt (B.kb BK219)))
        have n19_ := Aside0.mk (B.ngt hg (blk_lt (B.kb BK219)))
        clear HO200 HO210 HO218 HO229 BK192 BK193 BK212 BK219 HB
        have HO200 := n0_
        have HO210 := n1_
        have HO218 := n2_
        have HO229 := n3_
        have BK192 := n4_
        have BK193 := n5_
        have BK212 := n6_
        have BK219 := n7_
        have HB := n8_
        have BK231 := n9_
        have GW231 := n10_
        have GE231 := n11_
        have NB192_231 := n12_
        have NB231_192 := n13_
        have NB193_231 := n14_
        have NB231_193 := n15_
        have NB212_231 := n16_
        have NB231_212 := n17_
        have NB219_231 := n18_
        have NB231_219 := n19_
        clear n0_ n1_ n2_ n3_ n4_ n5_ n6_ n7_ n8_ n9_ n10_ n11_ n12_ n13_ n14_ n15_ n16_ n17_ n18_ n19_
        clear hb hbox hg
        refine hK.out _ _ ⟨B.bc BK219 0, B.bc BK219 1, B.bc BK219 2, B.bc BK219 3, B.bc BK193 0, B.bc BK193 1, B.bc BK193 2, B.bc BK193 3⟩ (fun hHeld => ?_)
        clear hK K
        refine norm_ (a' := ?_) ?_ ?_
        rotate_left
        · show Act.put _ (some 9) _ = _
          simp only [Act.put, List.setIfInBounds_toArray, List.set_cons_zero, List.set_cons_succ, i64_w, i32_w]
          rfl
        exact norm_ (by simp only [putAll, Act.put, List.setIfInBounds_toArray, List.set_cons_zero, List.set_cons_succ]) (hCont (v228, gb231) _ ⟨hHeld, (B.kr0 (Kd.R_mono HO200.out (fun _ hk => ⟨hk.1.1, ⟨hk.1.2, hk.2⟩⟩))), (B.kr0 (Kd.R_mono HO210.out (fun _ hk => ⟨hk.1.1, ⟨hk.1.2, hk.2⟩⟩))), (B.kr0 (Kd.R_mono HO218.out (fun _ hk => ⟨hk.1.1, ⟨hk.1.2, hk.2⟩⟩))), (B.kr0 (Kd.R_mono HO229.out (fun _ hk => ⟨hk.1.1.2, ⟨hk.1.2, hk.2⟩⟩))), (B.kb BK192), (B.kb BK193), (B.kb BK212), (B.kb BK219), (B.kb BK231), GW231.out, GE231.out, NB192_231.out, NB231_192.out, NB193_231.out, NB231_193.out, NB212_231.out, NB231_212.out, NB219_231.out, NB231_219.out, (B.bl HB)⟩)
      skip
      refine box_step ?hg (N := 9) ?hd (cs := #[.int .i64 0, .int .i64 0, .int .i64 0, .slice none 0 0]) (t := 28) ?hr ?_; (case hd => rfl); (case hg => rfl); (case hr => first | (go_simp; done) | (go_simp; rfl))
      intro gb231 hg w46 hbox hb
      have n0_ := Aside0.mk (Kd.R_below (B.kr HO200) hb)
      have n1_ := Aside0.mk (Kd.R_below (B.kr HO210) hb)
      have n2_ := Aside0.mk (Kd.R_below (B.kr HO218) hb)
      have n3_ := Aside0.mk (blk_below (B.kb BK192) hb)
      have n4_ := Aside0.mk (blk_below (B.kb BK193) hb)
      have n5_ := Aside0.mk (blk_below (B.kb BK212) hb)
      have n6_ := Aside0.mk (blk_below (B.kb BK219) hb)
      have n7_ := Aside0.mk (below_step (B.bl HB) hb)
      have n8_ := Aside0.mk (hbox)
      have n9_ := Aside0.mk (B.nle hg (below_size (B.bl HB)))
      have n10_ := Aside0.mk (B.nle hg (below_size (B.bl HB)))
      have n11_ := Aside0.mk (B.nlt hg (blk_lt (B.kb BK192)))
      have n12_ := Aside0.mk (B.ngt hg (blk_lt (B.kb BK192)))
      have n13_ := Aside0.mk (B.nlt hg (blk_lt (B.kb BK193)))
      have n14_ := Aside0.mk (B.ngt hg (blk_lt (B.kb BK193)))
      have n15_ := Aside0.mk (B.nlt hg (blk_lt (B.kb BK212)))
      have n16_ := Aside0.mk (B.ngt hg (blk_lt (B.kb BK212)))
      have n17_ := Aside0.mk (B.nlt hg (blk_lt (B.kb BK219)))
      have n18_ := Aside0.mk (B.ngt hg (blk_lt (B.kb BK219)))
      clear HO200 HO210 HO218 BK192 BK193 BK212 BK219 HB
      have HO200 := n0_
      have HO210 := n1_
      have HO218 := n2_
      have BK192 := n3_
      have BK193 := n4_
      have BK212 := n5_
      have BK219 := n6_
      have HB := n7_
      have BK231 := n8_
      have GW231 := n9_
      have GE231 := n10_
      have NB192_231 := n11_
      have NB231_192 := n12_
      have NB193_231 := n13_
      have NB231_193 := n14_
      have NB212_231 := n15_
      have NB231_212 := n16_
      have NB219_231 := n17_
      have NB231_219 := n18_
      clear n0_ n1_ n2_ n3_ n4_ n5_ n6_ n7_ n8_ n9_ n10_ n11_ n12_ n13_ n14_ n15_ n16_ n17_ n18_
      clear hb hbox hg
      refine hK.out _ _ ⟨B.bc BK219 0, B.bc BK219 1, B.bc BK219 2, B.bc BK219 3, B.bc BK193 0, B.bc BK193 1, B.bc BK193 2, B.bc BK193 3⟩ (fun hHeld => ?_)
      clear hK K
      refine norm_ (a' := ?_) ?_ ?_
      rotate_left
      · show Act.put _ (some 9) _ = _
        simp only [Act.put, List.setIfInBounds_toArray, List.set_cons_zero, List.set_cons_succ, i64_w, i32_w]
        rfl
      refine one_ (i := 3) (N := some 35) #[true, true, true, true, false, false, false, true, false, false] rfl rfl (one_of HT_.out (by kernel_rfl)) (by decide) (fun K hK => ?_)
      refine goes_ Try.func12 (by kernel_rfl) rfl #[.agg #[.int .i64 t213, .int .i64 t214, .int .i64 t215, .slice Ao42 t216.length co42], .agg #[.int .i64 t220, .int .i64 t221, .int .i64 t222, .int .i64 t223]] (by rfl) rfl rfl B.am ?_
      with_reducible refine (impl_CropImage.calls t213 t214 t215 _ _ t216 t220 t221 t222 t223 t224 t225 t226 t227 t230 _ ?side1 ?side2 A15.out).mono ?_
      (case side1 => exact B.kc ((Kd.R_reads' HO218.out).2.2))
      (case side2 => exact (Kd.R_reads' HO218.out).2.1)
      rintro e w47 ⟨v228, rfl, ho0, hb⟩
      refine ⟨_, rfl, ?_⟩
      have n0_ := Aside0.mk (Kd.R_elder' (B.kr HO200) (Kd.R_base ho0) hb)
      have n1_ := Aside0.mk (Kd.R_elder' (B.kr HO210) (Kd.R_base ho0) hb)
      have n2_ := Aside0.mk (Kd.R_elder' (B.kr HO218) (Kd.R_base ho0) hb)
      have n3_ := Aside0.mk (Kd.R_lower (Kd.R_new' (Kd.R_new' (Kd.R_new' ho0 (Kd.R_lt (B.kr HO200))) (Kd.R_lt (B.kr HO210))) (Kd.R_lt (B.kr HO218))) (below_size (B.bl HB)))
      have n4_ := Aside0.mk (blk_below (B.kb BK192) hb)
      have n5_ := Aside0.mk (blk_below (B.kb BK193) hb)
      have n6_ := Aside0.mk (blk_below (B.kb BK212) hb)
      have n7_ := Aside0.mk (blk_below (B.kb BK219) hb)
      have n8_ := Aside0.mk (blk_below (B.kb BK231) hb)
      have n9_ := Aside0.mk (below_step (B.bl HB) hb)
      clear HO200 HO210 HO218 BK192 BK193 BK212 BK219 BK231 HB
      have HO200 := n0_
      have HO210 := n1_
      have HO218 := n2_
      have HO229 := n3_
      have BK192 := n4_
      have BK193 := n5_
      have BK212 := n6_
      have BK219 := n7_
      have BK231 := n8_
      have HB := n9_
      clear n0_ n1_ n2_ n3_ n4_ n5_ n6_ n7_ n8_ n9_
      (try clear hb)
      (try clear hb2)
      (try clear hk)
      (try clear hi)
      (try clear ho0)
      refine hK.out _ _ ⟨B.bc BK219 0, B.bc BK219 1, B.bc BK219 2, B.bc BK219 3, B.bc BK193 0, B.bc BK193 1, B.bc BK193 2, B.bc BK193 3⟩ (fun hHeld => ?_)
      clear hK K
      refine norm_ (a' := ?_) ?_ ?_
      rotate_left
      · show Act.put _ (some 35) _ = _
        simp only [Act.put, List.setIfInBounds_toArray, List.set_cons_zero, List.set_cons_succ, i64_w, i32_w]
        rfl
      refine pure_ (i := 4) (N := some 31) (v := ?_) (a' := ?_) #[true, true, true, true, true, false, false, true, false, false] rfl rfl (any_of HT_.out (by kernel_rfl)) (fun _ _ _ h => h) (Or.inl ⟨by rfl, ?_⟩) ?_ ?_
      rotate_left
      · intro w'
        go_simp
        with_reducible rfl
      rotate_left
      · simp only [Act.put, List.setIfInBounds_toArray, List.set_cons_zero, List.set_cons_succ, i64_w, i32_w]
        rfl
      refine pure_ (i := 5) (N := some 36) (v := ?_) (a' := ?_) #[true, true, true, true, true, true, false, true, false, false] rfl rfl (any_of HT_.out (by kernel_rfl)) (fun _ _ _ h => h) (Or.inl ⟨by rfl, ?_⟩) ?_ ?_
      rotate_left
      · intro w'
        go_simp
        with_reducible rfl
      rotate_left
      · simp only [Act.put, List.setIfInBounds_toArray, List.set_cons_zero, List.set_cons_succ, i64_w, i32_w]
        rfl
      refine pure_ (i := 6) (N := some 37) (v := ?_) (a' := ?_) #[true, true, true, true, true, true, true, true, false, false] rfl rfl (any_of HT_.out (by kernel_rfl)) (fun _ _ _ h => h) (Or.inl ⟨by rfl, ?_⟩) ?_ ?_
      rotate_left
      · intro w'
        go_simp
        with_reducible rfl
      rotate_left
      · simp only [Act.put, List.setIfInBounds_toArray, List.set_cons_zero, List.set_cons_succ, i64_w, i32_w]
        rfl
      exact norm_ (by simp only [putAll, Act.put, List.setIfInBounds_toArray, List.set_cons_zero, List.set_cons_succ]) (hCont (v228, gb231) _ ⟨hHeld, (B.kr0 (Kd.R_mono HO200.out (fun _ hk => ⟨hk.1.1, ⟨hk.1.2, hk.2⟩⟩))), (B.kr0 (Kd.R_mono HO210.out (fun _ hk => ⟨hk.1.1, ⟨hk.1.2, hk.2⟩⟩))), (B.kr0 (Kd.R_mono HO218.out (fun _ hk => ⟨hk.1.1, ⟨hk.1.2, hk.2⟩⟩))), (B.kr0 (Kd.R_mono HO229.out (fun _ hk => ⟨hk.1.1.2, ⟨hk.1.2, hk.2⟩⟩))), (B.kb BK192), (B.kb BK193), (B.kb BK212), (B.kb BK219), (B.kb BK231), GW231.out, GE231.out, NB192_231.out, NB231_192.out, NB193_231.out, NB231_193.out, NB212_231.out, NB231_212.out, NB219_231.out, NB231_219.out, (B.bl HB)⟩)
    skip
    refine box_step ?hg (N := 9) ?hd (cs := #[.int .i64 0, .int .i64 0, .int .i64 0, .slice none 0 0]) (t := 28) ?hr ?_; (case hd => rfl); (case hg => rfl); (case hr => first | (go_simp; done) | (go_simp; rfl))
    intro gb231 hg w45 hbox hb
    have n0_ := Aside0.mk (Kd.R_below (B.kr HO200) hb)
    have n1_ := Aside0.mk (Kd.R_below (B.kr HO210) hb)
    have n2_ := Aside0.mk (Kd.R_below (B.kr HO218) hb)
    have n3_ := Aside0.mk (blk_below (B.kb BK192) hb)
    have n4_ := Aside0.mk (blk_below (B.kb BK193) hb)
    have n5_ := Aside0.mk (blk_below (B.kb BK212) hb)
    have n6_ := Aside0.mk (blk_below (B.kb BK219) hb)
    have n7_ := Aside0.mk (below_step (B.bl HB) hb)
    have n8_ := Aside0.mk (hbox)
    have n9_ := Aside0.mk (B.nle hg (below_size (B.bl HB)))
    have n10_ := Aside0.mk (B.nle hg (below_size (B.bl HB)))
    have n11_ := Aside0.mk (B.nlt hg (blk_lt (B.kb BK192)))
    have n12_ := Aside0.mk (B.ngt hg (blk_lt (B.kb BK192)))
    have n13_ := Aside0.mk (B.nlt hg (blk_lt (B.kb BK193)))
    have n14_ := Aside0.mk (B.ngt hg (blk_lt (B.kb BK193)))
    have n15_ := Aside0.mk (B.nlt hg (blk_lt (B.kb BK212)))
    have n16_ := Aside0.mk (B.ngt hg (blk_lt (B.kb BK212)))
    have n17_ := Aside0.mk (B.nlt hg (blk_lt (B.kb BK219)))
    have n18_ := Aside0.mk (B.ngt hg (blk_lt (B.kb BK219)))
    clear HO200 HO210 HO218 BK192 BK193 BK212 BK219 HB
    have HO200 := n0_
    have HO210 := n1_
    have HO218 := n2_
    have BK192 := n3_
    have BK193 := n4_
    have BK212 := n5_
    have BK219 := n6_
    have HB := n7_
    have BK231 := n8_
    have GW231 := n9_
    have GE231 := n10_
    have NB192_231 := n11_
    have NB231_192 := n12_
    have NB193_231 := n13_
    have NB231_193 := n14_
    have NB212_231 := n15_
    have NB231_212 := n16_
    have NB219_231 := n17_
    have NB231_219 := n18_
    clear n0_ n1_ n2_ n3_ n4_ n5_ n6_ n7_ n8_ n9_ n10_ n11_ n12_ n13_ n14_ n15_ n16_ n17_ n18_
    clear hb hbox hg
    refine hK.out _ _ ⟨B.bc BK219 0, B.bc BK219 1, B.bc BK219 2, B.bc BK219 3, B.bc BK193 0, B.bc BK193 1, B.bc BK193 2, B.bc BK193 3⟩ (fun hHeld => ?_)
    clear hK K
    refine norm_ (a' := ?_) ?_ ?_
    rotate_left
    · show Act.put _ (some 9) _ = _
      simp only [Act.put, List.setIfInBounds_toArray, List.set_cons_zero, List.set_cons_succ, i64_w, i32_w]
      rfl
    refine one_ (i := 2) (N := some 34) #[true, true, true, false, false, false, false, true, false, false] rfl rfl (one_of HT_.out (by kernel_rfl)) (by decide) (fun K hK => ?_)
    refine goes_ Try.func11 (by kernel_rfl) rfl #[.agg #[.int .i64 a1_0, .int .i64 a1_1, .int .i64 a1_2, .int .i64 a1_3]] (by rfl) rfl rfl B.am ?_
    with_reducible refine (laws_toBox.calls a1_0 a1_1 a1_2 a1_3 t220 t221 t222 t223 _ A14.out).mono ?_
    rintro e w46 ⟨rfl, hb⟩
    refine ⟨_, rfl, ?_⟩
    have n0_ := Aside0.mk (Kd.R_below (B.kr HO200) hb)
    have n1_ := Aside0.mk (Kd.R_below (B.kr HO210) hb)
    have n2_ := Aside0.mk (Kd.R_below (B.kr HO218) hb)
    have n3_ := Aside0.mk (blk_below (B.kb BK192) hb)
    have n4_ := Aside0.mk (blk_below (B.kb BK193) hb)
    have n5_ := Aside0.mk (blk_below (B.kb BK212) hb)
    have n6_ := Aside0.mk (blk_below (B.kb BK219) hb)
    have n7_ := Aside0.mk (blk_below (B.kb BK231) hb)
    have n8_ := Aside0.mk (below_step (B.bl HB) hb)
    clear HO200 HO210 HO218 BK192 BK193 BK212 BK219 BK231 HB
    have HO200 := n0_
    have HO210 := n1_
    have HO218 := n2_
    have BK192 := n3_
    have BK193 := n4_
    have BK212 := n5_
    have BK219 := n6_
    have BK231 := n7_
    have HB := n8_
    clear n0_ n1_ n2_ n3_ n4_ n5_ n6_ n7_ n8_
    (try clear hb)
    (try clear hb2)
    (try clear hk)
    (try clear hi)
    refine hK.out _ _ ⟨B.bc BK219 0, B.bc BK219 1, B.bc BK219 2, B.bc BK219 3, B.bc BK193 0, B.bc BK193 1, B.bc BK193 2, B.bc BK193 3⟩ (fun hHeld => ?_)
    clear hK K
    refine norm_ (a' := ?_) ?_ ?_
    rotate_left
    · show Act.put _ (some 34) _ = _
      simp only [Act.put, List.setIfInBounds_toArray, List.set_cons_zero, List.set_cons_succ, i64_w, i32_w]
      rfl
    refine one_ (i := 3) (N := some 35) #[true, true, true, true, false, false, false, true, false, false] rfl rfl (one_of HT_.out (by kernel_rfl)) (by decide) (fun K hK => ?_)
    refine goes_ Try.func12 (by kernel_rfl) rfl #[.agg #[.int .i64 t213, .int .i64 t214, .int .i64 t215, .slice Ao42 t216.length co42], .agg #[.int .i64 t220, .int .i64 t221, .int .i64 t222, .int .i64 t223]] (by rfl) rfl rfl B.am ?_
    with_reducible refine (impl_CropImage.calls t213 t214 t215 _ _ t216 t220 t221 t222 t223 t224 t225 t226 t227 t230 _ ?side1 ?side2 A15.out).mono ?_
    (case side1 => exact B.kc ((Kd.R_reads' HO218.out).2.2))
    (case side2 => exact (Kd.R_reads' HO218.out).2.1)
    rintro e w47 ⟨v228, rfl, ho0, hb⟩
    refine ⟨_, rfl, ?_⟩
    have n0_ := Aside0.mk (Kd.R_elder' (B.kr HO200) (Kd.R_base ho0) hb)
    have n1_ := Aside0.mk (Kd.R_elder' (B.kr HO210) (Kd.R_base ho0) hb)
    have n2_ := Aside0.mk (Kd.R_elder' (B.kr HO218) (Kd.R_base ho0) hb)
    have n3_ := Aside0.mk (Kd.R_lower (Kd.R_new' (Kd.R_new' (Kd.R_new' ho0 (Kd.R_lt (B.kr HO200))) (Kd.R_lt (B.kr HO210))) (Kd.R_lt (B.kr HO218))) (below_size (B.bl HB)))
    have n4_ := Aside0.mk (blk_below (B.kb BK192) hb)
    have n5_ := Aside0.mk (blk_below (B.kb BK193) hb)
    have n6_ := Aside0.mk (blk_below (B.kb BK212) hb)
    have n7_ := Aside0.mk (blk_below (B.kb BK219) hb)
    have n8_ := Aside0.mk (blk_below (B.kb BK231) hb)
    have n9_ := Aside0.mk (below_step (B.bl HB) hb)
    clear HO200 HO210 HO218 BK192 BK193 BK212 BK219 BK231 HB
    have HO200 := n0_
    have HO210 := n1_
    have HO218 := n2_
    have HO229 := n3_
    have BK192 := n4_
    have BK193 := n5_
    have BK212 := n6_
    have BK219 := n7_
    have BK231 := n8_
    have HB := n9_
    clear n0_ n1_ n2_ n3_ n4_ n5_ n6_ n7_ n8_ n9_
    (try clear hb)
    (try clear hb2)
    (try clear hk)
    (try clear hi)
    (try clear ho0)
    refine hK.out _ _ ⟨B.bc BK219 0, B.bc BK219 1, B.bc BK219 2, B.bc BK219 3, B.bc BK193 0, B.bc BK193 1, B.bc BK193 2, B.bc BK193 3⟩ (fun hHeld => ?_)
    clear hK K
    refine norm_ (a' := ?_) ?_ ?_
    rotate_left
    · show Act.put _ (some 35) _ = _
      simp only [Act.put, List.setIfInBounds_toArray, List.set_cons_zero, List.set_cons_succ, i64_w, i32_w]
      rfl
    refine pure_ (i := 4) (N := some 31) (v := ?_) (a' := ?_) #[true, true, true, true, true, false, false, true, false, false] rfl rfl (any_of HT_.out (by kernel_rfl)) (fun _ _ _ h => h) (Or.inl ⟨by rfl, ?_⟩) ?_ ?_
    rotate_left
    · intro w'
      go_simp
      with_reducible rfl
    rotate_left
    · simp only [Act.put, List.setIfInBounds_toArray, List.set_cons_zero, List.set_cons_succ, i64_w, i32_w]
      rfl
    refine pure_ (i := 5) (N := some 36) (v := ?_) (a' := ?_) #[true, true, true, true, true, true, false, true, false, false] rfl rfl (any_of HT_.out (by kernel_rfl)) (fun _ _ _ h => h) (Or.inl ⟨by rfl, ?_⟩) ?_ ?_
    rotate_left
    · intro w'
      go_simp
      with_reducible rfl
    rotate_left
    · simp only [Act.put, List.setIfInBounds_toArray, List.set_cons_zero, List.set_cons_succ, i64_w, i32_w]
      rfl
    refine pure_ (i := 6) (N := some 37) (v := ?_) (a' := ?_) #[true, true, true, true, true, true, true, true, false, false] rfl rfl (any_of HT_.out (by kernel_rfl)) (fun _ _ _ h => h) (Or.inl ⟨by rfl, ?_⟩) ?_ ?_
    rotate_left
    · intro w'
      go_simp
      with_reducible rfl
    rotate_left
    · simp only [Act.put, List.setIfInBounds_toArray, List.set_cons_zero, List.set_cons_succ, i64_w, i32_w]
      rfl
    exact norm_ (by simp only [putAll, Act.put, List.setIfInBounds_toArray, List.set_cons_zero, List.set_cons_succ]) (hCont (v228, gb231) _ ⟨hHeld, (B.kr0 (Kd.R_mono HO200.out (fun _ hk => ⟨hk.1.1, ⟨hk.1.2, hk.2⟩⟩))), (B.kr0 (Kd.R_mono HO210.out (fun _ hk => ⟨hk.1.1, ⟨hk.1.2, hk.2⟩⟩))), (B.kr0 (Kd.R_mono HO218.out (fun _ hk => ⟨hk.1.1, ⟨hk.1.2, hk.2⟩⟩))), (B.kr0 (Kd.R_mono HO229.out (fun _ hk => ⟨hk.1.1.2, ⟨hk.1.2, hk.2⟩⟩))), (B.kb BK192), (B.kb BK193), (B.kb BK212), (B.kb BK219), (B.kb BK231), GW231.out, GE231.out, NB192_231.out, NB231_192.out, NB193_231.out, NB231_193.out, NB212_231.out, NB231_212.out, NB219_231.out, NB231_219.out, (B.bl HB)⟩)
  rintro ⟨v228, gb231⟩ w48 ⟨hS_, h0_, h1_, h2_, h3_, h4_, h5_, h6_, h7_, h8_, h9_, h10_, h11_, h12_, h13_, h14_, h15_, h16_, h17_, h18_, h19_⟩
  have n0_ : Aside0 (Kd.R (Kd.int .i64) 3 w48 w.heap.size (fun k_ => some k_ ≠ (.slice Ao32 t208.length co32 : Value).ownBlock ∧ some k_ ≠ (.slice Ao42 t216.length co42 : Value).ownBlock ∧ some k_ ≠ (v228 : Value).ownBlock) v199 t198) := ⟨h0_⟩
  have n1_ : Aside0 (Kd.R (Kd.int .i64) 3 w48 w.heap.size (fun k_ => some k_ ≠ (v199 : Value).ownBlock ∧ some k_ ≠ (.slice Ao42 t216.length co42 : Value).ownBlock ∧ some k_ ≠ (v228 : Value).ownBlock) (.slice Ao32 t208.length co32) t208) := ⟨h1_⟩
  have n2_ : Aside0 (Kd.R (Kd.int .i64) 3 w48 w.heap.size (fun k_ => some k_ ≠ (v199 : Value).ownBlock ∧ some k_ ≠ (.slice Ao32 t208.length co32 : Value).ownBlock ∧ some k_ ≠ (v228 : Value).ownBlock) (.slice Ao42 t216.length co42) t216) := ⟨h2_⟩
  have n3_ : Aside0 (Kd.R (Kd.int .i64) 3 w48 w.heap.size (fun k_ => some k_ ≠ (v199 : Value).ownBlock ∧ some k_ ≠ (.slice Ao32 t208.length co32 : Value).ownBlock ∧ some k_ ≠ (.slice Ao42 t216.length co42 : Value).ownBlock) v228 t227) := ⟨h3_⟩
  have n4_ : Aside0 (w48.heap[gb192]? = some (.cells #[.int .i64 a0_0, .int .i64 a0_1, .int .i64 a0_2, .slice A0_3 l0_3.length c0_3] 24 (0, 0))) := ⟨h4_⟩
  have n5_ : Aside0 (w48.heap[gb193]? = some (.cells #[.int .i64 a1_0, .int .i64 a1_1, .int .i64 a1_2, .int .i64 a1_3] 26 (0, 0))) := ⟨h5_⟩
  have n6_ : Aside0 (w48.heap[gb212]? = some (.cells #[.int .i64 t205, .int .i64 t206, .int .i64 t207, .slice Ao32 t208.length co32] 28 (0, 0))) := ⟨h6_⟩
  have n7_ : Aside0 (w48.heap[gb219]? = some (.cells #[.int .i64 t213, .int .i64 t214, .int .i64 t215, .slice Ao42 t216.length co42] 28 (0, 0))) := ⟨h7_⟩
  have n8_ : Aside0 (w48.heap[gb231]? = some (.cells #[.int .i64 0, .int .i64 0, .int .i64 0, .slice none 0 0] 28 (0, 0))) := ⟨h8_⟩
  have n9_ : Aside0 (w.heap.size ≤ gb231) := ⟨h9_⟩
  have n10_ : Aside0 (w.heap.size ≤ gb231) := ⟨h10_⟩
  have n11_ : Aside0 (gb192 ≠ gb231) := ⟨h11_⟩
  have n12_ : Aside0 (gb231 ≠ gb192) := ⟨h12_⟩
  have n13_ : Aside0 (gb193 ≠ gb231) := ⟨h13_⟩
  have n14_ : Aside0 (gb231 ≠ gb193) := ⟨h14_⟩
  have n15_ : Aside0 (gb212 ≠ gb231) := ⟨h15_⟩
  have n16_ : Aside0 (gb231 ≠ gb212) := ⟨h16_⟩
  have n17_ : Aside0 (gb219 ≠ gb231) := ⟨h17_⟩
  have n18_ : Aside0 (gb231 ≠ gb219) := ⟨h18_⟩
  have n19_ : Aside0 (Below w.heap.size w w48) := ⟨h19_⟩
  clear HO200 HO210 HO218 BK192 BK193 BK212 BK219 HB
  clear h0_ h1_ h2_ h3_ h4_ h5_ h6_ h7_ h8_ h9_ h10_ h11_ h12_ h13_ h14_ h15_ h16_ h17_ h18_ h19_
  have HO200 := n0_
  have HO210 := n1_
  have HO218 := n2_
  have HO229 := n3_
  have BK192 := n4_
  have BK193 := n5_
  have BK212 := n6_
  have BK219 := n7_
  have BK231 := n8_
  have GW231 := n9_
  have GE231 := n10_
  have NB192_231 := n11_
  have NB231_192 := n12_
  have NB193_231 := n13_
  have NB231_193 := n14_
  have NB212_231 := n15_
  have NB231_212 := n16_
  have NB219_231 := n17_
  have NB231_219 := n18_
  have HB := n19_
  clear n0_ n1_ n2_ n3_ n4_ n5_ n6_ n7_ n8_ n9_ n10_ n11_ n12_ n13_ n14_ n15_ n16_ n17_ n18_ n19_
  have hHeld : w48.cell? ⟨gb219, 0, none⟩ = some (.int .i64 t213) ∧ w48.cell? ⟨gb219, 1, none⟩ = some (.int .i64 t214) ∧ w48.cell? ⟨gb219, 2, none⟩ = some (.int .i64 t215) ∧ w48.cell? ⟨gb219, 3, none⟩ = some (.slice Ao42 t216.length co42) ∧ w48.cell? ⟨gb193, 0, none⟩ = some (.int .i64 a1_0) ∧ w48.cell? ⟨gb193, 1, none⟩ = some (.int .i64 a1_1) ∧ w48.cell? ⟨gb193, 2, none⟩ = some (.int .i64 a1_2) ∧ w48.cell? ⟨gb193, 3, none⟩ = some (.int .i64 a1_3) := hS_
  obtain ⟨Ao52, co52, eo52⟩ := Kd.R_slice HO229.out
  (first | subst eo52 | (injection eo52 with f1_ f2_ f3_; have f4_ := f1_.symm; have f5_ := f3_.symm; clear f1_ f2_ f3_; subst f4_; subst f5_))
  refine norm_ (a' := ?_) ?_ ?_
  rotate_left
  · simp only [putAll, Act.put, List.setIfInBounds_toArray, List.set_cons_zero, List.set_cons_succ]
    rfl
  refine one_ (i := 8) (N := none) #[true, true, true, true, true, true, true, true, true, false] rfl rfl (one_of HT_.out (by kernel_rfl)) (by decide) (fun K hK => ?_)
  have hs49 : w48.cell? ⟨gb231, 0, none⟩ = some (.int .i64 0) := B.bc BK231 0
  have hfs49 := blk_frozen BK231.out 0
  have hns49_0 := NB192_231.out
  have hns49_1 := NB193_231.out
  have hns49_2 := NB212_231.out
  have hns49_3 := NB219_231.out
  have hms49_0 := NB231_192.out
  have hms49_1 := NB231_193.out
  have hms49_2 := NB231_212.out
  have hms49_3 := NB231_219.out
  have hs50 : w48.cell? ⟨gb231, 1, none⟩ = some (.int .i64 0) := B.bc BK231 1
  have hfs50 := blk_frozen BK231.out 1
  have hns50_0 := NB192_231.out
  have hns50_1 := NB193_231.out
  have hns50_2 := NB212_231.out
  have hns50_3 := NB219_231.out
  have hms50_0 := NB231_192.out
  have hms50_1 := NB231_193.out
  have hms50_2 := NB231_212.out
  have hms50_3 := NB231_219.out
  have hs51 : w48.cell? ⟨gb231, 2, none⟩ = some (.int .i64 0) := B.bc BK231 2
  have hfs51 := blk_frozen BK231.out 2
  have hns51_0 := NB192_231.out
  have hns51_1 := NB193_231.out
  have hns51_2 := NB212_231.out
  have hns51_3 := NB219_231.out
  have hms51_0 := NB231_192.out
  have hms51_1 := NB231_193.out
  have hms51_2 := NB231_212.out
  have hms51_3 := NB231_219.out
  have hs53 : w48.cell? ⟨gb231, 3, none⟩ = some (.slice none 0 0) := B.bc BK231 3
  have hfs53 := blk_frozen BK231.out 3
  have hns53_0 := NB192_231.out
  have hns53_1 := NB193_231.out
  have hns53_2 := NB212_231.out
  have hns53_3 := NB219_231.out
  have hms53_0 := NB231_192.out
  have hms53_1 := NB231_193.out
  have hms53_2 := NB231_212.out
  have hms53_3 := NB231_219.out
  refine skip_ (w1 := ?_) (by rfl) rfl ?_ ?_
  rotate_left
  · go_simp
    rfl
  refine hK.out _ _ ⟨(B.cf4 NB219_231 hHeld.1), (B.cf4 NB219_231 hHeld.2.1), (B.cf4 NB219_231 hHeld.2.2.1), (B.cf4 NB219_231 hHeld.2.2.2.1), (B.cf4 NB193_231 hHeld.2.2.2.2.1), (B.cf4 NB193_231 hHeld.2.2.2.2.2.1), (B.cf4 NB193_231 hHeld.2.2.2.2.2.2.1), (B.cf4 NB193_231 hHeld.2.2.2.2.2.2.2)⟩ (fun hHeld => ?_)
  clear hK K
  refine pure_ (i := 9) (N := some 10) (v := ?_) (a' := ?_) #[true, true, true, true, true, true, true, true, true, true] rfl rfl (any_of HT_.out (by kernel_rfl)) (fun _ _ _ h => h) (Or.inl ⟨by rfl, ?_⟩) ?_ ?_
  rotate_left
  · intro w'
    go_simp
    with_reducible rfl
  rotate_left
  · simp only [Act.put, List.setIfInBounds_toArray, List.set_cons_zero, List.set_cons_succ, i64_w, i32_w]
    rfl
  refine done_ (done_of HT_.out (by kernel_rfl)) ?_
  go_upto_region 8 with (fail)
  go_cut [46] (fun v46 wc => ∃ (kq : Nat) (x46_15 : Bool), v46 = .bool x46_15 ∧ Aside0 (laws_FnExactCropImage.j0 kq t211 t230 x46_15 a0_0 a0_1 a0_2 l0_3 a1_0 a1_1 a1_2 a1_3 t205 t206 t207 t208 t213 t214 t215 t216 t224 t225 t226 t227 = some r) ∧ Aside0 (kq ≤ k) ∧ Aside0 (Kd.R (Kd.int .i64) 3 wc w.heap.size (fun k_ => some k_ ≠ ((.slice Ao42 t216.length co42) : Value).ownBlock ∧ some k_ ≠ ((.slice Ao52 t227.length co52) : Value).ownBlock) (.slice Ao32 t208.length co32) t208) ∧ Aside0 (Kd.R (Kd.int .i64) 3 wc w.heap.size (fun k_ => some k_ ≠ ((.slice Ao32 t208.length co32) : Value).ownBlock ∧ some k_ ≠ ((.slice Ao52 t227.length co52) : Value).ownBlock) (.slice Ao42 t216.length co42) t216) ∧ Aside0 (Kd.R (Kd.int .i64) 3 wc w.heap.size (fun k_ => some k_ ≠ ((.slice Ao32 t208.length co32) : Value).ownBlock ∧ some k_ ≠ ((.slice Ao42 t216.length co42) : Value).ownBlock) (.slice Ao52 t227.length co52) t227) ∧ Aside0 (wc.heap[gb192]? = some (.cells #[.int .i64 a0_0, .int .i64 a0_1, .int .i64 a0_2, (.slice A0_3 l0_3.length c0_3)] 24 (0, 0))) ∧ Aside0 (wc.heap[gb193]? = some (.cells #[.int .i64 a1_0, .int .i64 a1_1, .int .i64 a1_2, .int .i64 a1_3] 26 (0, 0))) ∧ Aside0 (wc.heap[gb212]? = some (.cells #[.int .i64 t205, .int .i64 t206, .int .i64 t207, (.slice Ao32 t208.length co32)] 28 (0, 0))) ∧ Aside0 (wc.heap[gb219]? = some (.cells #[.int .i64 t213, .int .i64 t214, .int .i64 t215, (.slice Ao42 t216.length co42)] 28 (0, 0))) ∧ Aside0 (wc.heap[gb231]? = some (.cells #[.int .i64 t224, .int .i64 t225, .int .i64 t226, (.slice Ao52 t227.length co52)] 28 (0, 0))) ∧ Aside0 (Below w.heap.size w wc))
  case first =>
    have H := HC16.out
    clear HC16
    replace H := Option.bind_eq_some_iff.mp H
    obtain ⟨t232, A540, H⟩ := H
    replace H : (if t232 = true then (laws_FnExactCropImage.j0 k t211 t230 (t230 != t211) a0_0 a0_1 a0_2 l0_3 a1_0 a1_1 a1_2 a1_3 t205 t206 t207 t208 t213 t214 t215 t216 t224 t225 t226 t227) else (laws_FnExactCropImage.j0 k t211 t230 true a0_0 a0_1 a0_2 l0_3 a1_0 a1_1 a1_2 a1_3 t205 t206 t207 t208 t213 t214 t215 t216 t224 t225 t226 t227)) = some r := H
    have A54 := Aside0.mk A540
    clear A540
    by_cases c55 : t232 = true
    · subst c55
      have H1 : (laws_FnExactCropImage.j0 k t211 t230 (t230 != t211) a0_0 a0_1 a0_2 l0_3 a1_0 a1_1 a1_2 a1_3 t205 t206 t207 t208 t213 t214 t215 t216 t224 t225 t226 t227) = some r := by rw [if_pos rfl] at H; exact H
      clear H
      have H := H1
      clear H1
      have H' := Aside0.mk H
      clear H
      have hnb56 := NB231_192.out
      have hnc56 := NB192_231.out
      have hnb57 := NB231_193.out
      have hnc57 := NB193_231.out
      have hnb58 := NB231_212.out
      have hnc58 := NB212_231.out
      have hnb59 := NB231_219.out
      have hnc59 := NB219_231.out
      have hcz60_0 : w48.cell? ⟨gb231, 0, none⟩ = some (.int .i64 0) := B.bc BK231 0
      have hcz60_1 : w48.cell? ⟨gb231, 1, none⟩ = some (.int .i64 0) := B.bc BK231 1
      have hcz60_2 : w48.cell? ⟨gb231, 2, none⟩ = some (.int .i64 0) := B.bc BK231 2
      have hcz60_3 : w48.cell? ⟨gb231, 3, none⟩ = some (.slice none 0 0) := B.bc BK231 3
      have hfz60_0 := blk_frozen BK231.out 0
      have hfz60_1 := blk_frozen BK231.out 1
      have hfz60_2 := blk_frozen BK231.out 2
      have hfz60_3 := blk_frozen BK231.out 3
      have hnb61 := NB212_192.out
      have hnc61 := NB192_212.out
      have hnb62 := NB212_193.out
      have hnc62 := NB193_212.out
      have hnb63 := NB212_219.out
      have hnc63 := NB219_212.out
      have hcz64_0 : w48.cell? ⟨gb212, 0, none⟩ = some (.int .i64 t205) := B.bc BK212 0
      have hcz64_1 : w48.cell? ⟨gb212, 1, none⟩ = some (.int .i64 t206) := B.bc BK212 1
      have hcz64_2 : w48.cell? ⟨gb212, 2, none⟩ = some (.int .i64 t207) := B.bc BK212 2
      have hcz64_3 : w48.cell? ⟨gb212, 3, none⟩ = some (.slice Ao32 t208.length co32) := B.bc BK212 3
      have hfz64_0 := blk_frozen BK212.out 0
      have hfz64_1 := blk_frozen BK212.out 1
      have hfz64_2 := blk_frozen BK212.out 2
      have hfz64_3 := blk_frozen BK212.out 3
      go_wp2_with (first | ((with_reducible refine gate_callee (f := 13) rfl ?_); refine goesL_ (some 40) rfl rfl Try.func13 (by kernel_rfl) rfl #[.agg #[.int .i64 t224, .int .i64 t225, .int .i64 t226, .slice Ao52 t227.length co52], .agg #[.int .i64 t205, .int .i64 t206, .int .i64 t207, .slice Ao32 t208.length co32]] rfl B.am ?_; (with_reducible refine (laws_eqImage.calls k t224 t225 t226 _ _ t227 t205 t206 t207 _ _ t208 true _ ?side1 ?side2 ?side3 ?side4 A54.out).mono ?_); (case side1 => refine (Kd.R_reads' (e := 3) (base := w.heap.size) (ok := fun k_ => (some k_ ≠ (v199 : Value).ownBlock ∧ (some k_ ≠ (.slice Ao32 t208.length co32 : Value).ownBlock ∧ some k_ ≠ (.slice Ao42 t216.length co42 : Value).ownBlock))) (n := t227.length) (c := co52) ?_).2.2; exact (B.kr0 (B.rs4 HO229 BK231))); (case side2 => exact (Kd.R_reads' HO229.out).2.1); (case side3 => refine (Kd.R_reads' (e := 3) (base := w.heap.size) (ok := fun k_ => (some k_ ≠ (v199 : Value).ownBlock ∧ (some k_ ≠ (.slice Ao42 t216.length co42 : Value).ownBlock ∧ some k_ ≠ (.slice Ao52 t227.length co52 : Value).ownBlock))) (n := t208.length) (c := co32) ?_).2.2; exact (B.kr0 (B.rs4 HO210 BK231))); (case side4 => exact (Kd.R_reads' HO210.out).2.1); rintro e w65 ⟨rfl, hb⟩; refine ⟨_, rfl, ?_⟩; have n0_ := Aside0.mk (Kd.R_below (B.kr0 (B.rs4 HO200 BK231)) hb); have n1_ := Aside0.mk (Kd.R_below (B.kr0 (B.rs4 HO210 BK231)) hb); have n2_ := Aside0.mk (Kd.R_below (B.kr0 (B.rs4 HO218 BK231)) hb); have n3_ := Aside0.mk (Kd.R_below (B.kr0 (B.rs4 HO229 BK231)) hb); have n4_ := Aside0.mk (blk_below (B.kb0 (B.bf4 BK192 NB192_231)) hb); have n5_ := Aside0.mk (blk_below (B.kb0 (B.bf4 BK193 NB193_231)) hb); have n6_ := Aside0.mk (blk_below (B.kb0 (B.bf4 BK212 NB212_231)) hb); have n7_ := Aside0.mk (blk_below (B.kb0 (B.bf4 BK219 NB219_231)) hb); have n8_ := Aside0.mk (blk_below (g := gb231) (o := .cells #[.int .i64 t224, .int .i64 t225, .int .i64 t226, .slice Ao52 t227.length co52] 28 (0, 0)) (B.kb0 (B.bp4 BK231)) hb); have n9_ := Aside0.mk (below_step (B.bl HB) hb); clear HO200 HO210 HO218 HO229 BK192 BK193 BK212 BK219 BK231 HB; have HO200 := n0_; have HO210 := n1_; have HO218 := n2_; have HO229 := n3_; have BK192 := n4_; have BK193 := n5_; have BK212 := n6_; have BK219 := n7_; have BK231 := n8_; have HB := n9_; clear n0_ n1_ n2_ n3_ n4_ n5_ n6_ n7_ n8_ n9_; (try clear hb); (try clear hb2); (try clear hk); (try clear hi)))
      go_meet
      case rel => exact ⟨_, ((t230 != t211)), (by first | rfl | (simp; done) | (simp [*]; done)), H', ⟨by first | omega | exact Nat.le_refl _⟩, ⟨B.kr0 (Kd.R_mono HO210.out (fun _ hk => ⟨hk.2.1, hk.2.2⟩))⟩, ⟨B.kr0 (Kd.R_mono HO218.out (fun _ hk => ⟨hk.2.1, hk.2.2⟩))⟩, ⟨B.kr0 (Kd.R_mono HO229.out (fun _ hk => ⟨hk.2.1, hk.2.2⟩))⟩, ⟨B.kb BK192⟩, ⟨B.kb BK193⟩, ⟨B.kb BK212⟩, ⟨B.kb BK219⟩, ⟨B.kb BK231⟩, ⟨B.bl HB⟩⟩
    replace c55 := Bool.eq_false_iff.mpr c55
    subst c55
    have H1 : (laws_FnExactCropImage.j0 k t211 t230 true a0_0 a0_1 a0_2 l0_3 a1_0 a1_1 a1_2 a1_3 t205 t206 t207 t208 t213 t214 t215 t216 t224 t225 t226 t227) = some r := by rw [if_neg (show ¬ (false = true) by decide)] at H; exact H
    clear H
    have H := H1
    clear H1
    exact absurd ht_.out (by revert H; cases k <;> intro H <;> simp [laws_FnExactCropImage.j0] at H <;> (first | (subst H; decide) | simp [← H] | simp [H]))
  case rest =>
    clear HC16
    try clear c1
    try clear p2
    try clear c5
    try clear c6
    try clear c11
    try clear c12
    try clear c13
    try clear c55
    try clear c56
    try clear c57
    try clear c58
    try clear c59
    try clear c61
    try clear c62
    try clear c63
    try clear hcz60_0
    try clear hcz60_1
    try clear hcz60_2
    try clear hcz60_3
    try clear hcz64_0
    try clear hcz64_1
    try clear hcz64_2
    try clear hcz64_3
    try clear hfz60_0
    try clear hfz60_1
    try clear hfz60_2
    try clear hfz60_3
    try clear hfz64_0
    try clear hfz64_1
    try clear hfz64_2
    try clear hfz64_3
    obtain ⟨kq, x46_15, rfl, HA, HJ15, HO_213003, HO_220003, HO_232003, BK192, BK193, BK212, BK219, BK231, HB⟩ := hcut
    cases kq with
    | zero => exact absurd HA.out (by simp [laws_FnExactCropImage.j0])
    | succ kj15 =>
      have H := HA.out
      clear HA
      simp only [laws_FnExactCropImage.j0] at H
      by_cases c66 : x46_15 = true
      · subst c66
        have H1 : (some false) = some r := by rw [if_pos rfl] at H; exact H
        clear H
        have H := H1
        clear H1
        obtain rfl := Option.some.inj H
        exact absurd ht_.out (by decide)
      replace c66 := Bool.eq_false_iff.mpr c66
      subst c66
      have H1 : ((laws_toImage.f kj15 a0_0 a0_1 a0_2 l0_3).bind fun bt233 => ((laws_eqImage.f kj15 t213 t214 t215 t216 bt233.1 bt233.2.1 bt233.2.2.1 bt233.2.2.2).bind fun t239 => (if t239 = true then ((laws_markImage.f kj15 t213 t214 t215 t216 1).bind fun bt240 => (if bt240.1 < 0 then (laws_FnExactCropImage.j1 kj15 t211 true a0_0 a0_1 a0_2 l0_3 a1_0 a1_1 a1_2 a1_3 t205 t206 t207 t208 t224 t225 t226 t227) else ((laws_eqImage.f kj15 t224 t225 t226 t227 t205 t206 t207 t208).bind fun t242 => (if t242 = true then (laws_FnExactCropImage.j1 kj15 t211 (t230 != t211) a0_0 a0_1 a0_2 l0_3 a1_0 a1_1 a1_2 a1_3 t205 t206 t207 t208 t224 t225 t226 t227) else (laws_FnExactCropImage.j1 kj15 t211 true a0_0 a0_1 a0_2 l0_3 a1_0 a1_1 a1_2 a1_3 t205 t206 t207 t208 t224 t225 t226 t227))))) else (some false)))) = some r := by rw [if_neg (show ¬ (false = true) by decide)] at H; exact H
      clear H
      have H := H1
      clear H1
      replace H := Option.bind_eq_some_iff.mp H
      obtain ⟨⟨t233, t234, t235, t236⟩, A670, H⟩ := H
      replace H : ((laws_eqImage.f kj15 t213 t214 t215 t216 t233 t234 t235 t236).bind fun t239 => (if t239 = true then ((laws_markImage.f kj15 t213 t214 t215 t216 1).bind fun bt240 => (if bt240.1 < 0 then (laws_FnExactCropImage.j1 kj15 t211 true a0_0 a0_1 a0_2 l0_3 a1_0 a1_1 a1_2 a1_3 t205 t206 t207 t208 t224 t225 t226 t227) else ((laws_eqImage.f kj15 t224 t225 t226 t227 t205 t206 t207 t208).bind fun t242 => (if t242 = true then (laws_FnExactCropImage.j1 kj15 t211 (t230 != t211) a0_0 a0_1 a0_2 l0_3 a1_0 a1_1 a1_2 a1_3 t205 t206 t207 t208 t224 t225 t226 t227) else (laws_FnExactCropImage.j1 kj15 t211 true a0_0 a0_1 a0_2 l0_3 a1_0 a1_1 a1_2 a1_3 t205 t206 t207 t208 t224 t225 t226 t227))))) else (some false))) = some r := H
      have A67 := Aside0.mk A670
      clear A670
      replace H := Option.bind_eq_some_iff.mp H
      obtain ⟨t239, A680, H⟩ := H
      replace H : (if t239 = true then ((laws_markImage.f kj15 t213 t214 t215 t216 1).bind fun bt240 => (if bt240.1 < 0 then (laws_FnExactCropImage.j1 kj15 t211 true a0_0 a0_1 a0_2 l0_3 a1_0 a1_1 a1_2 a1_3 t205 t206 t207 t208 t224 t225 t226 t227) else ((laws_eqImage.f kj15 t224 t225 t226 t227 t205 t206 t207 t208).bind fun t242 => (if t242 = true then (laws_FnExactCropImage.j1 kj15 t211 (t230 != t211) a0_0 a0_1 a0_2 l0_3 a1_0 a1_1 a1_2 a1_3 t205 t206 t207 t208 t224 t225 t226 t227) else (laws_FnExactCropImage.j1 kj15 t211 true a0_0 a0_1 a0_2 l0_3 a1_0 a1_1 a1_2 a1_3 t205 t206 t207 t208 t224 t225 t226 t227))))) else (some false)) = some r := H
      have A68 := Aside0.mk A680
      clear A680
      by_cases c69 : t239 = true
      · subst c69
        have H1 : ((laws_markImage.f kj15 t213 t214 t215 t216 1).bind fun bt240 => (if bt240.1 < 0 then (laws_FnExactCropImage.j1 kj15 t211 true a0_0 a0_1 a0_2 l0_3 a1_0 a1_1 a1_2 a1_3 t205 t206 t207 t208 t224 t225 t226 t227) else ((laws_eqImage.f kj15 t224 t225 t226 t227 t205 t206 t207 t208).bind fun t242 => (if t242 = true then (laws_FnExactCropImage.j1 kj15 t211 (t230 != t211) a0_0 a0_1 a0_2 l0_3 a1_0 a1_1 a1_2 a1_3 t205 t206 t207 t208 t224 t225 t226 t227) else (laws_FnExactCropImage.j1 kj15 t211 true a0_0 a0_1 a0_2 l0_3 a1_0 a1_1 a1_2 a1_3 t205 t206 t207 t208 t224 t225 t226 t227))))) = some r := by rw [if_pos rfl] at H; exact H
        clear H
        have H := H1
        clear H1
        replace H := Option.bind_eq_some_iff.mp H
        obtain ⟨⟨t240, t241⟩, A700, H⟩ := H
        replace H : (if t240 < 0 then (laws_FnExactCropImage.j1 kj15 t211 true a0_0 a0_1 a0_2 l0_3 a1_0 a1_1 a1_2 a1_3 t205 t206 t207 t208 t224 t225 t226 t227) else ((laws_eqImage.f kj15 t224 t225 t226 t227 t205 t206 t207 t208).bind fun t242 => (if t242 = true then (laws_FnExactCropImage.j1 kj15 t211 (t230 != t211) a0_0 a0_1 a0_2 l0_3 a1_0 a1_1 a1_2 a1_3 t205 t206 t207 t208 t224 t225 t226 t227) else (laws_FnExactCropImage.j1 kj15 t211 true a0_0 a0_1 a0_2 l0_3 a1_0 a1_1 a1_2 a1_3 t205 t206 t207 t208 t224 t225 t226 t227)))) = some r := H
        have A70 := Aside0.mk A700
        clear A700
        have HC71 := Aside0.mk H
        clear H
        try go_wp2
        have n0_ := Aside0.mk (Kd.R_drew HO_213003.out)
        have n1_ := Aside0.mk (Kd.R_drew HO_220003.out)
        have n2_ := Aside0.mk (Kd.R_drew HO_232003.out)
        have n3_ := Aside0.mk (blk_drew BK192.out)
        have n4_ := Aside0.mk (blk_drew BK193.out)
        have n5_ := Aside0.mk (blk_drew BK212.out)
        have n6_ := Aside0.mk (blk_drew BK219.out)
        have n7_ := Aside0.mk (blk_drew BK231.out)
        have n8_ := Aside0.mk (below_drew1 HB.out)
        clear HO_213003 HO_220003 HO_232003 BK192 BK193 BK212 BK219 BK231 HB
        have HO_213003 := n0_
        have HO_220003 := n1_
        have HO_232003 := n2_
        have BK192 := n3_
        have BK193 := n4_
        have BK212 := n5_
        have BK219 := n6_
        have BK231 := n7_
        have HB := n8_
        clear n0_ n1_ n2_ n3_ n4_ n5_ n6_ n7_ n8_
        refine start_ (n := 5) (S := fun w' => w'.cell? ⟨gb219, 0, none⟩ = some (.int .i64 t213) ∧ w'.cell? ⟨gb219, 1, none⟩ = some (.int .i64 t214) ∧ w'.cell? ⟨gb219, 2, none⟩ = some (.int .i64 t215) ∧ w'.cell? ⟨gb219, 3, none⟩ = some (.slice Ao42 t216.length co42) ∧ w'.cell? ⟨gb192, 0, none⟩ = some (.int .i64 a0_0) ∧ w'.cell? ⟨gb192, 1, none⟩ = some (.int .i64 a0_1) ∧ w'.cell? ⟨gb192, 2, none⟩ = some (.int .i64 a0_2) ∧ w'.cell? ⟨gb192, 3, none⟩ = some (.slice A0_3 l0_3.length c0_3)) (ds := []) #[false, false, false, false, false] (by kernel_rfl) rfl rfl ⟨B.bc BK219 0, B.bc BK219 1, B.bc BK219 2, B.bc BK219 3, B.bc BK192 0, B.bc BK192 1, B.bc BK192 2, B.bc BK192 3⟩ (fun hHeld => ?_)
        generalize wc.drew = w72 at HO_213003 HO_220003 HO_232003 BK192 BK193 BK212 BK219 BK231 HB hHeld ⊢
        refine take_ (i := 0) (N := some 47) (v := ?_) (a' := ?_) #[true, false, false, false, false] rfl rfl (by kernel_rfl) (fun _ _ _ h => h) (Or.inl ⟨by rfl, ?_⟩) hHeld ?_ ?_
        rotate_left
        · rintro w' ⟨s0, s1, s2, s3, s4, s5, s6, s7⟩
          go_simp
          with_reducible rfl
        rotate_left
        · simp only [Act.put, List.setIfInBounds_toArray, List.set_cons_zero, List.set_cons_succ, i64_w, i32_w]
          rfl
        refine take_ (i := 1) (N := some 48) (v := ?_) (a' := ?_) #[true, true, false, false, false] rfl rfl (by kernel_rfl) (fun _ _ _ h => h) (Or.inl ⟨by rfl, ?_⟩) hHeld ?_ ?_
        rotate_left
        · rintro w' ⟨s0, s1, s2, s3, s4, s5, s6, s7⟩
          go_simp
          with_reducible rfl
        rotate_left
        · simp only [Act.put, List.setIfInBounds_toArray, List.set_cons_zero, List.set_cons_succ, i64_w, i32_w]
          rfl
        refine one_ (i := 2) (N := some 49) #[true, true, true, false, false] rfl rfl (by kernel_rfl) (by decide) (fun K hK => ?_)
        refine goes_ Try.func10 (by kernel_rfl) rfl #[.agg #[.int .i64 a0_0, .int .i64 a0_1, .int .i64 a0_2, .slice A0_3 l0_3.length c0_3]] (by rfl) rfl rfl B.am ?_
        with_reducible refine (laws_toImage.calls kj15 a0_0 a0_1 a0_2 _ _ l0_3 t233 t234 t235 t236 _ ?side1 ?side2 A67.out).mono ?_
        (case side1 => exact B.kc (Kd.C_below HR0_3.out HB.out))
        (case side2 => exact HC0_3.out)
        rintro e w73 ⟨v237, rfl, ho0, hb⟩
        refine ⟨_, rfl, ?_⟩
        have n0_ := Aside0.mk (Kd.R_elder' (B.kr HO_213003) (Kd.R_base ho0) hb)
        have n1_ := Aside0.mk (Kd.R_elder' (B.kr HO_220003) (Kd.R_base ho0) hb)
        have n2_ := Aside0.mk (Kd.R_elder' (B.kr HO_232003) (Kd.R_base ho0) hb)
        have n3_ := Aside0.mk (Kd.R_lower (Kd.R_new' (Kd.R_new' (Kd.R_new' ho0 (Kd.R_lt (B.kr HO_213003))) (Kd.R_lt (B.kr HO_220003))) (Kd.R_lt (B.kr HO_232003))) (below_size (B.bl HB)))
        have n4_ := Aside0.mk (blk_below (B.kb BK192) hb)
        have n5_ := Aside0.mk (blk_below (B.kb BK193) hb)
        have n6_ := Aside0.mk (blk_below (B.kb BK212) hb)
        have n7_ := Aside0.mk (blk_below (B.kb BK219) hb)
        have n8_ := Aside0.mk (blk_below (B.kb BK231) hb)
        have n9_ := Aside0.mk (below_step (B.bl HB) hb)
        clear HO_213003 HO_220003 HO_232003 BK192 BK193 BK212 BK219 BK231 HB
        have HO_213003 := n0_
        have HO_220003 := n1_
        have HO_232003 := n2_
        have HO238 := n3_
        have BK192 := n4_
        have BK193 := n5_
        have BK212 := n6_
        have BK219 := n7_
        have BK231 := n8_
        have HB := n9_
        clear n0_ n1_ n2_ n3_ n4_ n5_ n6_ n7_ n8_ n9_
        (try clear hb)
        (try clear hb2)
        (try clear hk)
        (try clear hi)
        (try clear ho0)
        obtain ⟨Ao74, co74, eo74⟩ := Kd.R_slice HO238.out
        (first | subst eo74 | (injection eo74 with f1_ f2_ f3_; have f4_ := f1_.symm; have f5_ := f3_.symm; clear f1_ f2_ f3_; subst f4_; subst f5_))
        refine hK.out _ _ ⟨B.bc BK219 0, B.bc BK219 1, B.bc BK219 2, B.bc BK219 3, B.bc BK192 0, B.bc BK192 1, B.bc BK192 2, B.bc BK192 3⟩ (fun hHeld => ?_)
        clear hK K
        refine norm_ (a' := ?_) ?_ ?_
        rotate_left
        · show Act.put _ (some 49) _ = _
          simp only [Act.put, List.setIfInBounds_toArray, List.set_cons_zero, List.set_cons_succ, i64_w, i32_w]
          rfl
        refine one_ (i := 3) (N := some 50) #[true, true, true, true, false] rfl rfl (by kernel_rfl) (by decide) (fun K hK => ?_)
        refine goes_ Try.func13 (by kernel_rfl) rfl #[.agg #[.int .i64 t213, .int .i64 t214, .int .i64 t215, .slice Ao42 t216.length co42], .agg #[.int .i64 t233, .int .i64 t234, .int .i64 t235, .slice Ao74 t236.length co74]] (by rfl) rfl rfl B.am ?_
        with_reducible refine (laws_eqImage.calls kj15 t213 t214 t215 _ _ t216 t233 t234 t235 _ _ t236 true _ ?side1 ?side2 ?side3 ?side4 A68.out).mono ?_
        (case side1 => exact B.kc ((Kd.R_reads' HO_220003.out).2.2))
        (case side2 => exact (Kd.R_reads' HO_220003.out).2.1)
        (case side3 => exact B.kc ((Kd.R_reads' HO238.out).2.2))
        (case side4 => exact (Kd.R_reads' HO238.out).2.1)
        rintro e w75 ⟨rfl, hb⟩
        refine ⟨_, rfl, ?_⟩
        have n0_ := Aside0.mk (Kd.R_below (B.kr HO_213003) hb)
        have n1_ := Aside0.mk (Kd.R_below (B.kr HO_220003) hb)
        have n2_ := Aside0.mk (Kd.R_below (B.kr HO_232003) hb)
        have n3_ := Aside0.mk (Kd.R_below (B.kr HO238) hb)
        have n4_ := Aside0.mk (blk_below (B.kb BK192) hb)
        have n5_ := Aside0.mk (blk_below (B.kb BK193) hb)
        have n6_ := Aside0.mk (blk_below (B.kb BK212) hb)
        have n7_ := Aside0.mk (blk_below (B.kb BK219) hb)
        have n8_ := Aside0.mk (blk_below (B.kb BK231) hb)
        have n9_ := Aside0.mk (below_step (B.bl HB) hb)
        clear HO_213003 HO_220003 HO_232003 HO238 BK192 BK193 BK212 BK219 BK231 HB
        have HO_213003 := n0_
        have HO_220003 := n1_
        have HO_232003 := n2_
        have HO238 := n3_
        have BK192 := n4_
        have BK193 := n5_
        have BK212 := n6_
        have BK219 := n7_
        have BK231 := n8_
        have HB := n9_
        clear n0_ n1_ n2_ n3_ n4_ n5_ n6_ n7_ n8_ n9_
        (try clear hb)
        (try clear hb2)
        (try clear hk)
        (try clear hi)
        refine hK.out _ _ ⟨B.bc BK219 0, B.bc BK219 1, B.bc BK219 2, B.bc BK219 3, B.bc BK192 0, B.bc BK192 1, B.bc BK192 2, B.bc BK192 3⟩ (fun hHeld => ?_)
        clear hK K
        refine norm_ (a' := ?_) ?_ ?_
        rotate_left
        · show Act.put _ (some 50) _ = _
          simp only [Act.put, List.setIfInBounds_toArray, List.set_cons_zero, List.set_cons_succ, i64_w, i32_w]
          rfl
        refine pure_ (i := 4) (N := some 51) (v := ?_) (a' := ?_) #[true, true, true, true, true] rfl rfl (by kernel_rfl) (fun _ _ _ h => h) (Or.inl ⟨by rfl, ?_⟩) ?_ ?_
        rotate_left
        · intro w'
          go_simp
          with_reducible rfl
        rotate_left
        · simp only [Act.put, List.setIfInBounds_toArray, List.set_cons_zero, List.set_cons_succ, i64_w, i32_w]
          rfl
        refine done_ (by kernel_rfl) ?_
        have hnb76 := NB219_192.out
        have hnc76 := NB192_219.out
        have hnb77 := NB219_193.out
        have hnc77 := NB193_219.out
        have hnb78 := NB219_212.out
        have hnc78 := NB212_219.out
        have hnb79 := NB219_231.out
        have hnc79 := NB231_219.out
        have hcz80_0 : w75.cell? ⟨gb219, 0, none⟩ = some (.int .i64 t213) := B.bc BK219 0
        have hcz80_1 : w75.cell? ⟨gb219, 1, none⟩ = some (.int .i64 t214) := B.bc BK219 1
        have hcz80_2 : w75.cell? ⟨gb219, 2, none⟩ = some (.int .i64 t215) := B.bc BK219 2
        have hcz80_3 : w75.cell? ⟨gb219, 3, none⟩ = some (.slice Ao42 t216.length co42) := B.bc BK219 3
        have hfz80_0 := blk_frozen BK219.out 0
        have hfz80_1 := blk_frozen BK219.out 1
        have hfz80_2 := blk_frozen BK219.out 2
        have hfz80_3 := blk_frozen BK219.out 3
        go_upto_region 14 with (first | ((with_reducible refine gate_callee (f := 14) rfl ?_); refine goesL_ (some 54) rfl rfl Try.func14 (by kernel_rfl) rfl #[.agg #[.int .i64 t213, .int .i64 t214, .int .i64 t215, .slice Ao42 t216.length co42], .int .i64 1] rfl B.am ?_; (with_reducible refine (laws_markImage.calls kj15 t213 t214 t215 (fun k_ => some k_ = (.slice Ao42 t216.length co42 : Value).ownBlock) (.slice Ao42 t216.length co42) t216 1 t240 t241 w _ ?side1 ?side2 A70.out).mono ?_); (case side1 => exact B.bl HB); (case side2 => exact Kd.R_tight rfl HO_220003.out); rintro e w81 ⟨rfl, hy0, hb, hkp⟩; refine ⟨_, rfl, ?_⟩; have n0_ := Aside0.mk (Kd.R_mono (ok' := fun k_ => some k_ ≠ (.slice Ao42 t216.length co42 : Value).ownBlock ∧ some k_ ≠ (.slice Ao52 t227.length co52 : Value).ownBlock ∧ some k_ ≠ (.slice Ao74 t236.length co74 : Value).ownBlock) (Kd.R_keptB (HO_213003.out) hkp (fun k_ hk_ hs_ => (hk_.1.1) hs_)) (fun k_ hk_ => ⟨hk_.1.1.1, hk_.1.1.2, hk_.1.2⟩)); have n1_ := Aside0.mk (Kd.R_reok rfl hy0 (fun k_ e_ => HO_220003.out.1 k_ e_)); have n2_ := Aside0.mk (Kd.R_mono (ok' := fun k_ => some k_ ≠ (.slice Ao32 t208.length co32 : Value).ownBlock ∧ some k_ ≠ (.slice Ao42 t216.length co42 : Value).ownBlock ∧ some k_ ≠ (.slice Ao74 t236.length co74 : Value).ownBlock) (Kd.R_keptB (HO_232003.out) hkp (fun k_ hk_ hs_ => (hk_.1.2) hs_)) (fun k_ hk_ => ⟨hk_.1.1.1, hk_.1.1.2, hk_.1.2⟩)); have n3_ := Aside0.mk (blk_kept (B.kb BK192) hkp (fun hs_ => (fun e_ => (Kd.R_ne HO_220003.out BK192.out (by decide)) e_) hs_)); have n4_ := Aside0.mk (blk_kept (B.kb BK193) hkp (fun hs_ => (fun e_ => (Kd.R_ne HO_220003.out BK193.out (by decide)) e_) hs_)); have n5_ := Aside0.mk (blk_kept (B.kb BK212) hkp (fun hs_ => (fun e_ => (Kd.R_ne HO_220003.out BK212.out (by decide)) e_) hs_)); have n6_ := Aside0.mk (blk_kept (B.kb BK219) hkp (fun hs_ => (fun e_ => (Kd.R_ne HO_220003.out BK219.out (by decide)) e_) hs_)); have n7_ := Aside0.mk (blk_kept (B.kb BK231) hkp (fun hs_ => (fun e_ => (Kd.R_ne HO_220003.out BK231.out (by decide)) e_) hs_)); have n8_ := Aside0.mk (Kd.R_mono (ok' := fun k_ => some k_ ≠ (.slice Ao32 t208.length co32 : Value).ownBlock ∧ some k_ ≠ (.slice Ao42 t216.length co42 : Value).ownBlock ∧ some k_ ≠ (.slice Ao52 t227.length co52 : Value).ownBlock) (Kd.R_keptB (HO238.out) hkp (fun k_ hk_ hs_ => (hk_.1.2) hs_)) (fun k_ hk_ => ⟨hk_.1.1.1.2, hk_.1.1.2, hk_.1.2⟩)); have n9_ := Aside0.mk (hb); clear HO_213003 HO_220003 HO_232003 BK192 BK193 BK212 BK219 BK231 HO238 HB; have HO_213003 := n0_; have HO_220003 := n1_; have HO_232003 := n2_; have BK192 := n3_; have BK193 := n4_; have BK212 := n5_; have BK219 := n6_; have BK231 := n7_; have HO238 := n8_; have HB := n9_; clear n0_ n1_ n2_ n3_ n4_ n5_ n6_ n7_ n8_ n9_; (try clear hb); (try clear hkp); (try clear hy0)))
        (try simp only [Act.put, List.setIfInBounds_toArray, List.set_cons_zero, List.set_cons_succ])
        go_cut [67] (fun v67 wc => ∃ (kq : Nat) (x67_70 : Bool), v67 = .bool x67_70 ∧ Aside0 (laws_FnExactCropImage.j1 kq t211 x67_70 a0_0 a0_1 a0_2 l0_3 a1_0 a1_1 a1_2 a1_3 t205 t206 t207 t208 t224 t225 t226 t227 = some r) ∧ Aside0 (kq ≤ kj15) ∧ Aside0 (Kd.R (Kd.int .i64) 3 wc w.heap.size (fun k_ => some k_ ≠ ((.slice Ao42 t216.length co42) : Value).ownBlock ∧ some k_ ≠ ((.slice Ao52 t227.length co52) : Value).ownBlock) (.slice Ao32 t208.length co32) t208) ∧ Aside0 (Kd.R (Kd.int .i64) 3 wc w.heap.size (fun k_ => some k_ ≠ ((.slice Ao32 t208.length co32) : Value).ownBlock ∧ some k_ ≠ ((.slice Ao52 t227.length co52) : Value).ownBlock) (.slice Ao42 t216.length co42) t241) ∧ Aside0 (Kd.R (Kd.int .i64) 3 wc w.heap.size (fun k_ => some k_ ≠ ((.slice Ao32 t208.length co32) : Value).ownBlock ∧ some k_ ≠ ((.slice Ao42 t216.length co42) : Value).ownBlock) (.slice Ao52 t227.length co52) t227) ∧ Aside0 (wc.heap[gb192]? = some (.cells #[.int .i64 a0_0, .int .i64 a0_1, .int .i64 a0_2, (.slice A0_3 l0_3.length c0_3)] 24 (0, 0))) ∧ Aside0 (wc.heap[gb193]? = some (.cells #[.int .i64 a1_0, .int .i64 a1_1, .int .i64 a1_2, .int .i64 a1_3] 26 (0, 0))) ∧ Aside0 (wc.heap[gb212]? = some (.cells #[.int .i64 t205, .int .i64 t206, .int .i64 t207, (.slice Ao32 t208.length co32)] 28 (0, 0))) ∧ Aside0 (wc.heap[gb219]? = some (.cells #[.int .i64 t213, .int .i64 t214, .int .i64 t215, (.slice Ao42 t216.length co42)] 28 (0, 0))) ∧ Aside0 (wc.heap[gb231]? = some (.cells #[.int .i64 t224, .int .i64 t225, .int .i64 t226, (.slice Ao52 t227.length co52)] 28 (0, 0))) ∧ Aside0 (Below w.heap.size w wc))
        case first =>
          have H := HC71.out
          clear HC71
          by_cases c82 : t240 < 0
          · rw [if_pos c82] at H
            have c82b0 : decide (t240 < 0) = true := decide_eq_true c82
            clear c82
            (first | rw [c82b0] | (simp only [i64_w, i32_w]; rw [c82b0]) | skip)
            exact absurd ht_.out (by revert H; cases kj15 <;> intro H <;> simp [laws_FnExactCropImage.j1] at H <;> (first | (subst H; decide) | simp [← H] | simp [H]))
          rw [if_neg c82] at H
          have c82b0 : decide (t240 < 0) = false := decide_eq_false c82
          clear c82
          (first | rw [c82b0] | (simp only [i64_w, i32_w]; rw [c82b0]) | skip)
          replace H := Option.bind_eq_some_iff.mp H
          obtain ⟨t242, A830, H⟩ := H
          replace H : (if t242 = true then (laws_FnExactCropImage.j1 kj15 t211 (t230 != t211) a0_0 a0_1 a0_2 l0_3 a1_0 a1_1 a1_2 a1_3 t205 t206 t207 t208 t224 t225 t226 t227) else (laws_FnExactCropImage.j1 kj15 t211 true a0_0 a0_1 a0_2 l0_3 a1_0 a1_1 a1_2 a1_3 t205 t206 t207 t208 t224 t225 t226 t227)) = some r := H
          have A83 := Aside0.mk A830
          clear A830
          by_cases c84 : t242 = true
          · subst c84
            have H1 : (laws_FnExactCropImage.j1 kj15 t211 (t230 != t211) a0_0 a0_1 a0_2 l0_3 a1_0 a1_1 a1_2 a1_3 t205 t206 t207 t208 t224 t225 t226 t227) = some r := by rw [if_pos rfl] at H; exact H
            clear H
            have H := H1
            clear H1
            have H' := Aside0.mk H
            clear H
            have hnb85 := NB231_192.out
            have hnc85 := NB192_231.out
            have hnb86 := NB231_193.out
            have hnc86 := NB193_231.out
            have hnb87 := NB231_212.out
            have hnc87 := NB212_231.out
            have hnb88 := NB231_219.out
            have hnc88 := NB219_231.out
            have hcz89_0 : w81.cell? ⟨gb231, 0, none⟩ = some (.int .i64 t224) := B.bc BK231 0
            have hcz89_1 : w81.cell? ⟨gb231, 1, none⟩ = some (.int .i64 t225) := B.bc BK231 1
            have hcz89_2 : w81.cell? ⟨gb231, 2, none⟩ = some (.int .i64 t226) := B.bc BK231 2
            have hcz89_3 : w81.cell? ⟨gb231, 3, none⟩ = some (.slice Ao52 t227.length co52) := B.bc BK231 3
            have hfz89_0 := blk_frozen BK231.out 0
            have hfz89_1 := blk_frozen BK231.out 1
            have hfz89_2 := blk_frozen BK231.out 2
            have hfz89_3 := blk_frozen BK231.out 3
            have hnb90 := NB212_192.out
            have hnc90 := NB192_212.out
            have hnb91 := NB212_193.out
            have hnc91 := NB193_212.out
            have hnb92 := NB212_219.out
            have hnc92 := NB219_212.out
            have hcz93_0 : w81.cell? ⟨gb212, 0, none⟩ = some (.int .i64 t205) := B.bc BK212 0
            have hcz93_1 : w81.cell? ⟨gb212, 1, none⟩ = some (.int .i64 t206) := B.bc BK212 1
            have hcz93_2 : w81.cell? ⟨gb212, 2, none⟩ = some (.int .i64 t207) := B.bc BK212 2
            have hcz93_3 : w81.cell? ⟨gb212, 3, none⟩ = some (.slice Ao32 t208.length co32) := B.bc BK212 3
            have hfz93_0 := blk_frozen BK212.out 0
            have hfz93_1 := blk_frozen BK212.out 1
            have hfz93_2 := blk_frozen BK212.out 2
            have hfz93_3 := blk_frozen BK212.out 3
            go_wp2_with (first | (go_at_call 13; (with_reducible refine (laws_eqImage.calls kj15 t224 t225 t226 _ _ t227 t205 t206 t207 _ _ t208 true _ ?side1 ?side2 ?side3 ?side4 A83.out).mono ?_); (case side1 => exact B.kc ((Kd.R_reads' HO_232003.out).2.2)); (case side2 => exact (Kd.R_reads' HO_232003.out).2.1); (case side3 => exact B.kc ((Kd.R_reads' HO_213003.out).2.2)); (case side4 => exact (Kd.R_reads' HO_213003.out).2.1); rintro e w94 ⟨rfl, hb⟩; have n0_ := Aside0.mk (Kd.R_below (B.kr HO_213003) hb); have n1_ := Aside0.mk (Kd.R_below (B.kr HO_220003) hb); have n2_ := Aside0.mk (Kd.R_below (B.kr HO_232003) hb); have n3_ := Aside0.mk (Kd.R_below (B.kr HO238) hb); have n4_ := Aside0.mk (blk_below (B.kb BK192) hb); have n5_ := Aside0.mk (blk_below (B.kb BK193) hb); have n6_ := Aside0.mk (blk_below (B.kb BK212) hb); have n7_ := Aside0.mk (blk_below (B.kb BK219) hb); have n8_ := Aside0.mk (blk_below (B.kb BK231) hb); have n9_ := Aside0.mk (below_step (B.bl HB) hb); clear HO_213003 HO_220003 HO_232003 HO238 BK192 BK193 BK212 BK219 BK231 HB; have HO_213003 := n0_; have HO_220003 := n1_; have HO_232003 := n2_; have HO238 := n3_; have BK192 := n4_; have BK193 := n5_; have BK212 := n6_; have BK219 := n7_; have BK231 := n8_; have HB := n9_; clear n0_ n1_ n2_ n3_ n4_ n5_ n6_ n7_ n8_ n9_; (try clear hb); (try clear hb2); (try clear hk); (try clear hi)))
            go_meet
            case rel => exact ⟨_, ((t230 != t211)), (by first | rfl | (simp; done) | (simp [*]; done)), H', ⟨by have := HJ15.out; first | omega | exact Nat.le_refl _⟩, ⟨B.kr0 (Kd.R_mono HO_213003.out (fun _ hk => ⟨hk.1, hk.2.1⟩))⟩, ⟨B.kr0 (Kd.R_mono HO_220003.out (fun _ hk => ⟨hk.1.1, hk.1.2⟩))⟩, ⟨B.kr0 (Kd.R_mono HO_232003.out (fun _ hk => ⟨hk.1, hk.2.1⟩))⟩, ⟨B.kb BK192⟩, ⟨B.kb BK193⟩, ⟨B.kb BK212⟩, ⟨B.kb BK219⟩, ⟨B.kb BK231⟩, ⟨B.bl HB⟩⟩
          replace c84 := Bool.eq_false_iff.mpr c84
          subst c84
          have H1 : (laws_FnExactCropImage.j1 kj15 t211 true a0_0 a0_1 a0_2 l0_3 a1_0 a1_1 a1_2 a1_3 t205 t206 t207 t208 t224 t225 t226 t227) = some r := by rw [if_neg (show ¬ (false = true) by decide)] at H; exact H
          clear H
          have H := H1
          clear H1
          exact absurd ht_.out (by revert H; cases kj15 <;> intro H <;> simp [laws_FnExactCropImage.j1] at H <;> (first | (subst H; decide) | simp [← H] | simp [H]))
        case rest =>
          clear HC71
          try clear c1
          try clear p2
          try clear c5
          try clear c6
          try clear c7
          try clear c8
          try clear c9
          try clear c10
          try clear c11
          try clear c12
          try clear c13
          try clear c14
          try clear c55
          try clear c56
          try clear c57
          try clear c58
          try clear c59
          try clear c61
          try clear c62
          try clear c63
          try clear c66
          try clear c69
          try clear c76
          try clear c77
          try clear c78
          try clear c79
          try clear c82
          try clear c82b0
          try clear c84
          try clear c85
          try clear c86
          try clear c87
          try clear c88
          try clear c90
          try clear c91
          try clear c92
          try clear hcz60_0
          try clear hcz60_1
          try clear hcz60_2
          try clear hcz60_3
          try clear hcz64_0
          try clear hcz64_1
          try clear hcz64_2
          try clear hcz64_3
          try clear hcz80_0
          try clear hcz80_1
          try clear hcz80_2
          try clear hcz80_3
          try clear hcz89_0
          try clear hcz89_1
          try clear hcz89_2
          try clear hcz89_3
          try clear hcz93_0
          try clear hcz93_1
          try clear hcz93_2
          try clear hcz93_3
          try clear hfz60_0
          try clear hfz60_1
          try clear hfz60_2
          try clear hfz60_3
          try clear hfz64_0
          try clear hfz64_1
          try clear hfz64_2
          try clear hfz64_3
          try clear hfz80_0
          try clear hfz80_1
          try clear hfz80_2
          try clear hfz80_3
          try clear hfz89_0
          try clear hfz89_1
          try clear hfz89_2
          try clear hfz89_3
          try clear hfz93_0
          try clear hfz93_1
          try clear hfz93_2
          try clear hfz93_3
          try clear p2
          obtain ⟨kq, x67_70, rfl, HA, HJ70, HO_213003, HO_220003, HO_232003, BK192, BK193, BK212, BK219, BK231, HB⟩ := hcut
          have hl220003_70 := (Kd.R_reads' HO_220003.out).1
          rw [hl220003_70] at HO_220003
          (try simp only [hl220003_70])
          (try simp only [hl220003_70] at BK192)
          (try simp only [hl220003_70] at BK193)
          (try simp only [hl220003_70] at BK212)
          (try simp only [hl220003_70] at BK219)
          (try simp only [hl220003_70] at BK231)
          (try simp only [hl220003_70] at HO_213003)
          (try simp only [hl220003_70] at HO_232003)
          cases kq with
          | zero => exact absurd HA.out (by simp [laws_FnExactCropImage.j1])
          | succ kj70 =>
            have H := HA.out
            clear HA
            simp only [laws_FnExactCropImage.j1] at H
            by_cases c95 : x67_70 = true
            · subst c95
              have H1 : (some false) = some r := by rw [if_pos rfl] at H; exact H
              clear H
              have H := H1
              clear H1
              obtain rfl := Option.some.inj H
              exact absurd ht_.out (by decide)
            replace c95 := Bool.eq_false_iff.mpr c95
            subst c95
            have H1 : ((laws_markImage.f kj70 t224 t225 t226 t227 1).bind fun bt243 => ((laws_heldImage.f kj70 t224 t225 t226 bt243.2 1).bind fun t245 => (if t245 < 0 then (some false) else (if t245 = bt243.1 then ((laws_toImage.f kj70 a0_0 a0_1 a0_2 l0_3).bind fun bt246 => ((laws_toBox.f a1_0 a1_1 a1_2 a1_3).bind fun bt252 => ((impl_CropImage.f bt246.1 bt246.2.1 bt246.2.2.1 bt246.2.2.2 bt252.1 bt252.2.1 bt252.2.2.1 bt252.2.2.2).bind fun bt256 => ((laws_eqImage.f kj70 bt256.1 bt256.2.1 bt256.2.2.1 bt256.2.2.2.1 t205 t206 t207 t208).bind fun t264 => (if t264 = true then (laws_FnExactCropImage.j2 kj70 bt243.1 (bt256.2.2.2.2 != t211) t224 t225 t226 bt243.2) else (laws_FnExactCropImage.j2 kj70 bt243.1 true t224 t225 t226 bt243.2)))))) else (some false))))) = some r := by rw [if_neg (show ¬ (false = true) by decide)] at H; exact H
            clear H
            have H := H1
            clear H1
            replace H := Option.bind_eq_some_iff.mp H
            obtain ⟨⟨t243, t244⟩, A960, H⟩ := H
            replace H : ((laws_heldImage.f kj70 t224 t225 t226 t244 1).bind fun t245 => (if t245 < 0 then (some false) else (if t245 = t243 then ((laws_toImage.f kj70 a0_0 a0_1 a0_2 l0_3).bind fun bt246 => ((laws_toBox.f a1_0 a1_1 a1_2 a1_3).bind fun bt252 => ((impl_CropImage.f bt246.1 bt246.2.1 bt246.2.2.1 bt246.2.2.2 bt252.1 bt252.2.1 bt252.2.2.1 bt252.2.2.2).bind fun bt256 => ((laws_eqImage.f kj70 bt256.1 bt256.2.1 bt256.2.2.1 bt256.2.2.2.1 t205 t206 t207 t208).bind fun t264 => (if t264 = true then (laws_FnExactCropImage.j2 kj70 t243 (bt256.2.2.2.2 != t211) t224 t225 t226 t244) else (laws_FnExactCropImage.j2 kj70 t243 true t224 t225 t226 t244)))))) else (some false)))) = some r := H
            have A96 := Aside0.mk A960
            clear A960
            replace H := Option.bind_eq_some_iff.mp H
            obtain ⟨t245, A970, H⟩ := H
            replace H : (if t245 < 0 then (some false) else (if t245 = t243 then ((laws_toImage.f kj70 a0_0 a0_1 a0_2 l0_3).bind fun bt246 => ((laws_toBox.f a1_0 a1_1 a1_2 a1_3).bind fun bt252 => ((impl_CropImage.f bt246.1 bt246.2.1 bt246.2.2.1 bt246.2.2.2 bt252.1 bt252.2.1 bt252.2.2.1 bt252.2.2.2).bind fun bt256 => ((laws_eqImage.f kj70 bt256.1 bt256.2.1 bt256.2.2.1 bt256.2.2.2.1 t205 t206 t207 t208).bind fun t264 => (if t264 = true then (laws_FnExactCropImage.j2 kj70 t243 (bt256.2.2.2.2 != t211) t224 t225 t226 t244) else (laws_FnExactCropImage.j2 kj70 t243 true t224 t225 t226 t244)))))) else (some false))) = some r := H
            have A97 := Aside0.mk A970
            clear A970
            by_cases c98 : t245 < 0
            · rw [if_pos c98] at H
              have c98b0 : decide (t245 < 0) = true := decide_eq_true c98
              clear c98
              obtain rfl := Option.some.inj H
              exact absurd ht_.out (by decide)
            rw [if_neg c98] at H
            have c98b0 : decide (t245 < 0) = false := decide_eq_false c98
            clear c98
            by_cases c99 : t245 = t243
            · rw [if_pos c99] at H
              have c99b0 : (t245 == t243) = true := beq_iff_eq.mpr c99
              have c99b1 : (t245 != t243) = false := bne_eq_false_iff_eq.mpr c99
              clear c99
              replace H := Option.bind_eq_some_iff.mp H
              obtain ⟨⟨t246, t247, t248, t249⟩, A1000, H⟩ := H
              replace H : ((laws_toBox.f a1_0 a1_1 a1_2 a1_3).bind fun bt252 => ((impl_CropImage.f t246 t247 t248 t249 bt252.1 bt252.2.1 bt252.2.2.1 bt252.2.2.2).bind fun bt256 => ((laws_eqImage.f kj70 bt256.1 bt256.2.1 bt256.2.2.1 bt256.2.2.2.1 t205 t206 t207 t208).bind fun t264 => (if t264 = true then (laws_FnExactCropImage.j2 kj70 t243 (bt256.2.2.2.2 != t211) t224 t225 t226 t244) else (laws_FnExactCropImage.j2 kj70 t243 true t224 t225 t226 t244))))) = some r := H
              have A100 := Aside0.mk A1000
              clear A1000
              replace H := Option.bind_eq_some_iff.mp H
              obtain ⟨⟨t252, t253, t254, t255⟩, A1010, H⟩ := H
              replace H : ((impl_CropImage.f t246 t247 t248 t249 t252 t253 t254 t255).bind fun bt256 => ((laws_eqImage.f kj70 bt256.1 bt256.2.1 bt256.2.2.1 bt256.2.2.2.1 t205 t206 t207 t208).bind fun t264 => (if t264 = true then (laws_FnExactCropImage.j2 kj70 t243 (bt256.2.2.2.2 != t211) t224 t225 t226 t244) else (laws_FnExactCropImage.j2 kj70 t243 true t224 t225 t226 t244)))) = some r := H
              have A101 := Aside0.mk A1010
              clear A1010
              replace H := Option.bind_eq_some_iff.mp H
              obtain ⟨⟨t256, t257, t258, t259, t262⟩, A1020, H⟩ := H
              replace H : ((laws_eqImage.f kj70 t256 t257 t258 t259 t205 t206 t207 t208).bind fun t264 => (if t264 = true then (laws_FnExactCropImage.j2 kj70 t243 (t262 != t211) t224 t225 t226 t244) else (laws_FnExactCropImage.j2 kj70 t243 true t224 t225 t226 t244))) = some r := H
              have A102 := Aside0.mk A1020
              clear A1020
              have HC103 := Aside0.mk H
              clear H
              have hnb104 := NB231_192.out
              have hnc104 := NB192_231.out
              have hnb105 := NB231_193.out
              have hnc105 := NB193_231.out
              have hnb106 := NB231_212.out
              have hnc106 := NB212_231.out
              have hnb107 := NB231_219.out
              have hnc107 := NB219_231.out
              have hcz108_0 : wc.cell? ⟨gb231, 0, none⟩ = some (.int .i64 t224) := B.bc BK231 0
              have hcz108_1 : wc.cell? ⟨gb231, 1, none⟩ = some (.int .i64 t225) := B.bc BK231 1
              have hcz108_2 : wc.cell? ⟨gb231, 2, none⟩ = some (.int .i64 t226) := B.bc BK231 2
              have hcz108_3 : wc.cell? ⟨gb231, 3, none⟩ = some (.slice Ao52 t227.length co52) := B.bc BK231 3
              have hfz108_0 := blk_frozen BK231.out 0
              have hfz108_1 := blk_frozen BK231.out 1
              have hfz108_2 := blk_frozen BK231.out 2
              have hfz108_3 := blk_frozen BK231.out 3
              try go_wp2_with (first | ((with_reducible refine gate_callee (f := 14) rfl ?_); refine goesL_ (some 70) rfl rfl Try.func14 (by kernel_rfl) rfl #[.agg #[.int .i64 t224, .int .i64 t225, .int .i64 t226, .slice Ao52 t227.length co52], .int .i64 1] rfl B.am ?_; (with_reducible refine (laws_markImage.calls kj70 t224 t225 t226 (fun k_ => some k_ = (.slice Ao52 t227.length co52 : Value).ownBlock) (.slice Ao52 t227.length co52) t227 1 t243 t244 w _ ?side1 ?side2 A96.out).mono ?_); (case side1 => exact B.bl HB); (case side2 => exact Kd.R_tight rfl HO_232003.out); rintro e w109 ⟨rfl, hy0, hb, hkp⟩; refine ⟨_, rfl, ?_⟩; have n0_ := Aside0.mk (Kd.R_mono (ok' := fun k_ => some k_ ≠ (.slice Ao42 t241.length co42 : Value).ownBlock ∧ some k_ ≠ (.slice Ao52 t227.length co52 : Value).ownBlock) (Kd.R_keptB (HO_213003.out) hkp (fun k_ hk_ hs_ => (hk_.2) hs_)) (fun k_ hk_ => ⟨hk_.1.1, hk_.1.2⟩)); have n1_ := Aside0.mk (Kd.R_mono (ok' := fun k_ => some k_ ≠ (.slice Ao32 t208.length co32 : Value).ownBlock ∧ some k_ ≠ (.slice Ao52 t227.length co52 : Value).ownBlock) (Kd.R_keptB (HO_220003.out) hkp (fun k_ hk_ hs_ => (hk_.2) hs_)) (fun k_ hk_ => ⟨hk_.1.1, hk_.1.2⟩)); have n2_ := Aside0.mk (Kd.R_reok rfl hy0 (fun k_ e_ => HO_232003.out.1 k_ e_)); have n3_ := Aside0.mk (blk_kept (B.kb BK192) hkp (fun hs_ => (fun e_ => (Kd.R_ne HO_232003.out BK192.out (by decide)) e_) hs_)); have n4_ := Aside0.mk (blk_kept (B.kb BK193) hkp (fun hs_ => (fun e_ => (Kd.R_ne HO_232003.out BK193.out (by decide)) e_) hs_)); have n5_ := Aside0.mk (blk_kept (B.kb BK212) hkp (fun hs_ => (fun e_ => (Kd.R_ne HO_232003.out BK212.out (by decide)) e_) hs_)); have n6_ := Aside0.mk (blk_kept (B.kb BK219) hkp (fun hs_ => (fun e_ => (Kd.R_ne HO_232003.out BK219.out (by decide)) e_) hs_)); have n7_ := Aside0.mk (blk_kept (B.kb BK231) hkp (fun hs_ => (fun e_ => (Kd.R_ne HO_232003.out BK231.out (by decide)) e_) hs_)); have n8_ := Aside0.mk (hb); clear HO_213003 HO_220003 HO_232003 BK192 BK193 BK212 BK219 BK231 HB; have HO_213003 := n0_; have HO_220003 := n1_; have HO_232003 := n2_; have BK192 := n3_; have BK193 := n4_; have BK212 := n5_; have BK219 := n6_; have BK231 := n7_; have HB := n8_; clear n0_ n1_ n2_ n3_ n4_ n5_ n6_ n7_ n8_; (try clear hb); (try clear hkp); (try clear hy0); have hcz110_0 : w109.cell? ⟨gb231, 0, none⟩ = some (.int .i64 t224) := B.bc BK231 0; have hcz110_1 : w109.cell? ⟨gb231, 1, none⟩ = some (.int .i64 t225) := B.bc BK231 1; have hcz110_2 : w109.cell? ⟨gb231, 2, none⟩ = some (.int .i64 t226) := B.bc BK231 2; have hcz110_3 : w109.cell? ⟨gb231, 3, none⟩ = some (.slice Ao52 t227.length co52) := B.bc BK231 3; have hfz110_0 := blk_frozen BK231.out 0; have hfz110_1 := blk_frozen BK231.out 1; have hfz110_2 := blk_frozen BK231.out 2; have hfz110_3 := blk_frozen BK231.out 3) | ((with_reducible refine gate_callee (f := 15) rfl ?_); refine goesL_ (some 73) rfl rfl Try.func15 (by kernel_rfl) rfl #[.agg #[.int .i64 t224, .int .i64 t225, .int .i64 t226, .slice Ao52 t244.length co52], .int .i64 1] rfl (by (try simp only [List.map_toArray, List.map_cons, List.map_nil]); first | done | (rw [show t244.length = t227.length from (Kd.R_reads' HO_232003.out).1.symm] <;> rfl) | rfl | (simp only [List.length_drop, List.length_take]; rfl)) ?_; (with_reducible refine (laws_heldImage.calls kj70 t224 t225 t226 _ _ t244 1 t245 _ ?side1 ?side2 A97.out).mono ?_); (case side1 => exact B.kc ((Kd.R_reads' HO_232003.out).2.2)); (case side2 => rw [show t244.length = t227.length from (Kd.R_reads' HO_232003.out).1.symm]; exact (Kd.R_reads' HO_232003.out).2.1); rintro e w111 ⟨rfl, hb⟩; refine ⟨_, rfl, ?_⟩; have n0_ := Aside0.mk (Kd.R_below (B.kr HO_213003) hb); have n1_ := Aside0.mk (Kd.R_below (B.kr HO_220003) hb); have n2_ := Aside0.mk (Kd.R_below (B.kr HO_232003) hb); have n3_ := Aside0.mk (blk_below (B.kb BK192) hb); have n4_ := Aside0.mk (blk_below (B.kb BK193) hb); have n5_ := Aside0.mk (blk_below (B.kb BK212) hb); have n6_ := Aside0.mk (blk_below (B.kb BK219) hb); have n7_ := Aside0.mk (blk_below (B.kb BK231) hb); have n8_ := Aside0.mk (below_step (B.bl HB) hb); clear HO_213003 HO_220003 HO_232003 BK192 BK193 BK212 BK219 BK231 HB; have HO_213003 := n0_; have HO_220003 := n1_; have HO_232003 := n2_; have BK192 := n3_; have BK193 := n4_; have BK212 := n5_; have BK219 := n6_; have BK231 := n7_; have HB := n8_; clear n0_ n1_ n2_ n3_ n4_ n5_ n6_ n7_ n8_; (try clear hb); (try clear hb2); (try clear hk); (try clear hi)))
              have n0_ := Aside0.mk (Kd.R_drew HO_213003.out)
              have n1_ := Aside0.mk (Kd.R_drew HO_220003.out)
              have n2_ := Aside0.mk (Kd.R_drew HO_232003.out)
              have n3_ := Aside0.mk (blk_drew BK192.out)
              have n4_ := Aside0.mk (blk_drew BK193.out)
              have n5_ := Aside0.mk (blk_drew BK212.out)
              have n6_ := Aside0.mk (blk_drew BK219.out)
              have n7_ := Aside0.mk (blk_drew BK231.out)
              have n8_ := Aside0.mk (below_drew1 HB.out)
              clear HO_213003 HO_220003 HO_232003 BK192 BK193 BK212 BK219 BK231 HB
              have HO_213003 := n0_
              have HO_220003 := n1_
              have HO_232003 := n2_
              have BK192 := n3_
              have BK193 := n4_
              have BK212 := n5_
              have BK219 := n6_
              have BK231 := n7_
              have HB := n8_
              clear n0_ n1_ n2_ n3_ n4_ n5_ n6_ n7_ n8_
              refine start_ (n := 11) (S := fun w' => w'.cell? ⟨gb192, 0, none⟩ = some (.int .i64 a0_0) ∧ w'.cell? ⟨gb192, 1, none⟩ = some (.int .i64 a0_1) ∧ w'.cell? ⟨gb192, 2, none⟩ = some (.int .i64 a0_2) ∧ w'.cell? ⟨gb192, 3, none⟩ = some (.slice A0_3 l0_3.length c0_3) ∧ w'.cell? ⟨gb193, 0, none⟩ = some (.int .i64 a1_0) ∧ w'.cell? ⟨gb193, 1, none⟩ = some (.int .i64 a1_1) ∧ w'.cell? ⟨gb193, 2, none⟩ = some (.int .i64 a1_2) ∧ w'.cell? ⟨gb193, 3, none⟩ = some (.int .i64 a1_3)) (ds := []) #[false, false, false, false, false, false, false, false, false, false, false] (by kernel_rfl) rfl rfl ⟨B.bc BK192 0, B.bc BK192 1, B.bc BK192 2, B.bc BK192 3, B.bc BK193 0, B.bc BK193 1, B.bc BK193 2, B.bc BK193 3⟩ (fun hHeld => ?_); refine with_tabW laws_FnExactCropImage.tab24 laws_FnExactCropImage.bits24 (fun HT_ HW_ => ?_)
              generalize w111.drew = w112 at HO_213003 HO_220003 HO_232003 BK192 BK193 BK212 BK219 BK231 HB hHeld ⊢
              refine take_ (i := 0) (N := some 80) (v := ?_) (a' := ?_) #[true, false, false, false, false, false, false, false, false, false, false] rfl rfl (take_ofW HT_.out HW_.out (by kernel_rfl)) (fun _ _ _ h => h) (Or.inl ⟨by rfl, ?_⟩) hHeld ?_ ?_
              rotate_left
              · rintro w' ⟨s0, s1, s2, s3, s4, s5, s6, s7⟩
                go_simp
                with_reducible rfl
              rotate_left
              · simp only [Act.put, List.setIfInBounds_toArray, List.set_cons_zero, List.set_cons_succ, i64_w, i32_w]
                rfl
              refine take_ (i := 2) (N := some 82) (v := ?_) (a' := ?_) #[true, false, true, false, false, false, false, false, false, false, false] rfl rfl (take_ofW HT_.out HW_.out (by kernel_rfl)) (fun _ _ _ h => h) (Or.inl ⟨by rfl, ?_⟩) hHeld ?_ ?_
              rotate_left
              · rintro w' ⟨s0, s1, s2, s3, s4, s5, s6, s7⟩
                go_simp
                with_reducible rfl
              rotate_left
              · simp only [Act.put, List.setIfInBounds_toArray, List.set_cons_zero, List.set_cons_succ, i64_w, i32_w]
                rfl
              refine join_ (σ := Value × Value × Nat) 2 #[true, true, true, true, true, true, true, true, true, false, false] (fun s_ => [(81, .agg #[.int .i64 t246, .int .i64 t247, .int .i64 t248, s_.1]), (83, .agg #[.int .i64 t252, .int .i64 t253, .int .i64 t254, .int .i64 t255]), (84, .tuple #[.agg #[.int .i64 t256, .int .i64 t257, .int .i64 t258, s_.2.1], .bool t262]), (14, .pointer (some ⟨s_.2.2, 0, none⟩)), (79, .tuple #[.agg #[.int .i64 t256, .int .i64 t257, .int .i64 t258, s_.2.1], .bool t262]), (85, .agg #[.int .i64 t256, .int .i64 t257, .int .i64 t258, s_.2.1]), (86, .bool t262)]) (fun s_ w' => (w'.cell? ⟨gb192, 0, none⟩ = some (.int .i64 a0_0) ∧ w'.cell? ⟨gb192, 1, none⟩ = some (.int .i64 a0_1) ∧ w'.cell? ⟨gb192, 2, none⟩ = some (.int .i64 a0_2) ∧ w'.cell? ⟨gb192, 3, none⟩ = some (.slice A0_3 l0_3.length c0_3) ∧ w'.cell? ⟨gb193, 0, none⟩ = some (.int .i64 a1_0) ∧ w'.cell? ⟨gb193, 1, none⟩ = some (.int .i64 a1_1) ∧ w'.cell? ⟨gb193, 2, none⟩ = some (.int .i64 a1_2) ∧ w'.cell? ⟨gb193, 3, none⟩ = some (.int .i64 a1_3)) ∧ (Kd.R (Kd.int .i64) 3 w' w.heap.size (fun k_ => some k_ ≠ (s_.2.1 : Value).ownBlock ∧ some k_ ≠ (.slice Ao32 t208.length co32 : Value).ownBlock ∧ some k_ ≠ (.slice Ao42 t241.length co42 : Value).ownBlock ∧ some k_ ≠ (.slice Ao52 t227.length co52 : Value).ownBlock) s_.1 t249) ∧ (Kd.R (Kd.int .i64) 3 w' w.heap.size (fun k_ => some k_ ≠ (s_.1 : Value).ownBlock ∧ some k_ ≠ (.slice Ao32 t208.length co32 : Value).ownBlock ∧ some k_ ≠ (.slice Ao42 t241.length co42 : Value).ownBlock ∧ some k_ ≠ (.slice Ao52 t227.length co52 : Value).ownBlock) s_.2.1 t259) ∧ (Kd.R (Kd.int .i64) 3 w' w.heap.size (fun k_ => some k_ ≠ (s_.1 : Value).ownBlock ∧ some k_ ≠ (s_.2.1 : Value).ownBlock ∧ some k_ ≠ (.slice Ao42 t241.length co42 : Value).ownBlock ∧ some k_ ≠ (.slice Ao52 t227.length co52 : Value).ownBlock) (.slice Ao32 t208.length co32) t208) ∧ (Kd.R (Kd.int .i64) 3 w' w.heap.size (fun k_ => some k_ ≠ (s_.1 : Value).ownBlock ∧ some k_ ≠ (s_.2.1 : Value).ownBlock ∧ some k_ ≠ (.slice Ao32 t208.length co32 : Value).ownBlock ∧ some k_ ≠ (.slice Ao52 t227.length co52 : Value).ownBlock) (.slice Ao42 t241.length co42) t241) ∧ (Kd.R (Kd.int .i64) 3 w' w.heap.size (fun k_ => some k_ ≠ (s_.1 : Value).ownBlock ∧ some k_ ≠ (s_.2.1 : Value).ownBlock ∧ some k_ ≠ (.slice Ao32 t208.length co32 : Value).ownBlock ∧ some k_ ≠ (.slice Ao42 t241.length co42 : Value).ownBlock) (.slice Ao52 t227.length co52) t244) ∧ (w'.heap[gb192]? = some (.cells #[.int .i64 a0_0, .int .i64 a0_1, .int .i64 a0_2, .slice A0_3 l0_3.length c0_3] 24 (0, 0))) ∧ (w'.heap[gb193]? = some (.cells #[.int .i64 a1_0, .int .i64 a1_1, .int .i64 a1_2, .int .i64 a1_3] 26 (0, 0))) ∧ (w'.heap[gb212]? = some (.cells #[.int .i64 t205, .int .i64 t206, .int .i64 t207, .slice Ao32 t208.length co32] 28 (0, 0))) ∧ (w'.heap[gb219]? = some (.cells #[.int .i64 t213, .int .i64 t214, .int .i64 t215, .slice Ao42 t241.length co42] 28 (0, 0))) ∧ (w'.heap[gb231]? = some (.cells #[.int .i64 t224, .int .i64 t225, .int .i64 t226, .slice Ao52 t227.length co52] 28 (0, 0))) ∧ (w'.heap[s_.2.2]? = some (.cells #[.int .i64 0, .int .i64 0, .int .i64 0, .slice none 0 0] 28 (0, 0))) ∧ (w.heap.size ≤ s_.2.2) ∧ (w.heap.size ≤ s_.2.2) ∧ (gb192 ≠ s_.2.2) ∧ (s_.2.2 ≠ gb192) ∧ (gb193 ≠ s_.2.2) ∧ (s_.2.2 ≠ gb193) ∧ (gb212 ≠ s_.2.2) ∧ (s_.2.2 ≠ gb212) ∧ (gb219 ≠ s_.2.2) ∧ (s_.2.2 ≠ gb219) ∧ (gb231 ≠ s_.2.2) ∧ (s_.2.2 ≠ gb231) ∧ (Below w.heap.size w w')) ?_ ?_
              rotate_left
              · intro hCont
                refine two_ (i := 1) (j := 8) (Ni := some 81) (Nj := some 14) #[true, true, true, false, false, false, false, false, false, false, false] #[true, false, true, false, false, false, false, false, true, false, false] rfl rfl rfl rfl (two_of HT_.out (by kernel_rfl)) (by decide) (by decide) (fun K hK => ?_) (fun K hK => ?_)
                · skip
                  refine goes_ Try.func10 (by kernel_rfl) rfl #[.agg #[.int .i64 a0_0, .int .i64 a0_1, .int .i64 a0_2, .slice A0_3 l0_3.length c0_3]] (by rfl) rfl rfl B.am ?_
                  with_reducible refine (laws_toImage.calls kj70 a0_0 a0_1 a0_2 _ _ l0_3 t246 t247 t248 t249 _ ?side1 ?side2 A100.out).mono ?_
                  (case side1 => exact B.kc (Kd.C_below HR0_3.out HB.out))
                  (case side2 => exact HC0_3.out)
                  rintro e w113 ⟨v250, rfl, ho0, hb⟩
                  refine ⟨_, rfl, ?_⟩
                  have n0_ := Aside0.mk (Kd.R_elder' (B.kr HO_213003) (Kd.R_base ho0) hb)
                  have n1_ := Aside0.mk (Kd.R_elder' (B.kr HO_220003) (Kd.R_base ho0) hb)
                  have n2_ := Aside0.mk (Kd.R_elder' (B.kr HO_232003) (Kd.R_base ho0) hb)
                  have n3_ := Aside0.mk (Kd.R_lower (Kd.R_new' (Kd.R_new' (Kd.R_new' ho0 (Kd.R_lt (B.kr HO_213003))) (Kd.R_lt (B.kr HO_220003))) (Kd.R_lt (B.kr HO_232003))) (below_size (B.bl HB)))
                  have n4_ := Aside0.mk (blk_below (B.kb BK192) hb)
                  have n5_ := Aside0.mk (blk_below (B.kb BK193) hb)
                  have n6_ := Aside0.mk (blk_below (B.kb BK212) hb)
                  have n7_ := Aside0.mk (blk_below (B.kb BK219) hb)
                  have n8_ := Aside0.mk (blk_below (B.kb BK231) hb)
                  have n9_ := Aside0.mk (below_step (B.bl HB) hb)
                  clear HO_213003 HO_220003 HO_232003 BK192 BK193 BK212 BK219 BK231 HB
                  have HO_213003 := n0_
                  have HO_220003 := n1_
                  have HO_232003 := n2_
                  have HO251 := n3_
                  have BK192 := n4_
                  have BK193 := n5_
                  have BK212 := n6_
                  have BK219 := n7_
                  have BK231 := n8_
                  have HB := n9_
                  clear n0_ n1_ n2_ n3_ n4_ n5_ n6_ n7_ n8_ n9_
                  (try clear hb)
                  (try clear hb2)
                  (try clear hk)
                  (try clear hi)
                  (try clear ho0)
                  refine hK.out _ _ ⟨B.bc BK192 0, B.bc BK192 1, B.bc BK192 2, B.bc BK192 3, B.bc BK193 0, B.bc BK193 1, B.bc BK193 2, B.bc BK193 3⟩ (fun hHeld => ?_)
                  clear hK K
                  refine norm_ (a' := ?_) ?_ ?_
                  rotate_left
                  · show Act.put _ (some 81) _ = _
                    simp only [Act.put, List.setIfInBounds_toArray, List.set_cons_zero, List.set_cons_succ, i64_w, i32_w]
                    rfl
                  refine two_ (i := 3) (j := 8) (Ni := some 83) (Nj := some 14) #[true, true, true, true, false, false, false, false, false, false, false] #[true, true, true, false, false, false, false, false, true, false, false] rfl rfl rfl rfl (two_of HT_.out (by kernel_rfl)) (by decide) (by decide) (fun K hK => ?_) (fun K hK => ?_)
                  · skip
                    refine goes_ Try.func11 (by kernel_rfl) rfl #[.agg #[.int .i64 a1_0, .int .i64 a1_1, .int .i64 a1_2, .int .i64 a1_3]] (by rfl) rfl rfl B.am ?_
                    with_reducible refine (laws_toBox.calls a1_0 a1_1 a1_2 a1_3 t252 t253 t254 t255 _ A101.out).mono ?_
                    rintro e w114 ⟨rfl, hb⟩
                    refine ⟨_, rfl, ?_⟩
                    have n0_ := Aside0.mk (Kd.R_below (B.kr HO_213003) hb)
                    have n1_ := Aside0.mk (Kd.R_below (B.kr HO_220003) hb)
                    have n2_ := Aside0.mk (Kd.R_below (B.kr HO_232003) hb)
                    have n3_ := Aside0.mk (Kd.R_below (B.kr HO251) hb)
                    have n4_ := Aside0.mk (blk_below (B.kb BK192) hb)
                    have n5_ := Aside0.mk (blk_below (B.kb BK193) hb)
                    have n6_ := Aside0.mk (blk_below (B.kb BK212) hb)
                    have n7_ := Aside0.mk (blk_below (B.kb BK219) hb)
                    have n8_ := Aside0.mk (blk_below (B.kb BK231) hb)
                    have n9_ := Aside0.mk (below_step (B.bl HB) hb)
                    clear HO_213003 HO_220003 HO_232003 HO251 BK192 BK193 BK212 BK219 BK231 HB
                    have HO_213003 := n0_
                    have HO_220003 := n1_
                    have HO_232003 := n2_
                    have HO251 := n3_
                    have BK192 := n4_
                    have BK193 := n5_
                    have BK212 := n6_
                    have BK219 := n7_
                    have BK231 := n8_
                    have HB := n9_
                    clear n0_ n1_ n2_ n3_ n4_ n5_ n6_ n7_ n8_ n9_
                    (try clear hb)
                    (try clear hb2)
                    (try clear hk)
                    (try clear hi)
                    obtain ⟨Ao115, co115, eo115⟩ := Kd.R_slice HO251.out
                    (first | subst eo115 | (injection eo115 with f1_ f2_ f3_; have f4_ := f1_.symm; have f5_ := f3_.symm; clear f1_ f2_ f3_; subst f4_; subst f5_))
                    refine hK.out _ _ ⟨B.bc BK192 0, B.bc BK192 1, B.bc BK192 2, B.bc BK192 3, B.bc BK193 0, B.bc BK193 1, B.bc BK193 2, B.bc BK193 3⟩ (fun hHeld => ?_)
                    clear hK K
                    refine norm_ (a' := ?_) ?_ ?_
                    rotate_left
                    · show Act.put _ (some 83) _ = _
                      simp only [Act.put, List.setIfInBounds_toArray, List.set_cons_zero, List.set_cons_succ, i64_w, i32_w]
                      rfl
                    refine two_ (i := 4) (j := 8) (Ni := some 84) (Nj := some 14) #[true, true, true, true, true, false, false, false, false, false, false] #[true, true, true, true, false, false, false, false, true, false, false] rfl rfl rfl rfl (two_of HT_.out (by kernel_rfl)) (by decide) (by decide) (fun K hK => ?_) (fun K hK => ?_)
                    · skip
                      refine goes_ Try.func12 (by kernel_rfl) rfl #[.agg #[.int .i64 t246, .int .i64 t247, .int .i64 t248, .slice Ao115 t249.length co115], .agg #[.int .i64 t252, .int .i64 t253, .int .i64 t254, .int .i64 t255]] (by rfl) rfl rfl B.am ?_
                      with_reducible refine (impl_CropImage.calls t246 t247 t248 _ _ t249 t252 t253 t254 t255 t256 t257 t258 t259 t262 _ ?side1 ?side2 A102.out).mono ?_
                      (case side1 => exact B.kc ((Kd.R_reads' HO251.out).2.2))
                      (case side2 => exact (Kd.R_reads' HO251.out).2.1)
                      rintro e w116 ⟨v260, rfl, ho0, hb⟩
                      refine ⟨_, rfl, ?_⟩
                      have n0_ := Aside0.mk (Kd.R_elder' (B.kr HO_213003) (Kd.R_base ho0) hb)
                      have n1_ := Aside0.mk (Kd.R_elder' (B.kr HO_220003) (Kd.R_base ho0) hb)
                      have n2_ := Aside0.mk (Kd.R_elder' (B.kr HO_232003) (Kd.R_base ho0) hb)
                      have n3_ := Aside0.mk (Kd.R_elder' (B.kr HO251) (Kd.R_base ho0) hb)
                      have n4_ := Aside0.mk (Kd.R_lower (Kd.R_new' (Kd.R_new' (Kd.R_new' (Kd.R_new' ho0 (Kd.R_lt (B.kr HO_213003))) (Kd.R_lt (B.kr HO_220003))) (Kd.R_lt (B.kr HO_232003))) (Kd.R_lt (B.kr HO251))) (below_size (B.bl HB)))
                      have n5_ := Aside0.mk (blk_below (B.kb BK192) hb)
                      have n6_ := Aside0.mk (blk_below (B.kb BK193) hb)
                      have n7_ := Aside0.mk (blk_below (B.kb BK212) hb)
                      have n8_ := Aside0.mk (blk_below (B.kb BK219) hb)
                      have n9_ := Aside0.mk (blk_below (B.kb BK231) hb)
                      have n10_ := Aside0.mk (below_step (B.bl HB) hb)
                      clear HO_213003 HO_220003 HO_232003 HO251 BK192 BK193 BK212 BK219 BK231 HB
                      have HO_213003 := n0_
                      have HO_220003 := n1_
                      have HO_232003 := n2_
                      have HO251 := n3_
                      have HO261 := n4_
                      have BK192 := n5_
                      have BK193 := n6_
                      have BK212 := n7_
                      have BK219 := n8_
                      have BK231 := n9_
                      have HB := n10_
                      clear n0_ n1_ n2_ n3_ n4_ n5_ n6_ n7_ n8_ n9_ n10_
                      (try clear hb)
                      (try clear hb2)
                      (try clear hk)
                      (try clear hi)
                      (try clear ho0)
                      refine hK.out _ _ ⟨B.bc BK192 0, B.bc BK192 1, B.bc BK192 2, B.bc BK192 3, B.bc BK193 0, B.bc BK193 1, B.bc BK193 2, B.bc BK193 3⟩ (fun hHeld => ?_)
                      clear hK K
                      refine norm_ (a' := ?_) ?_ ?_
                      rotate_left
                      · show Act.put _ (some 84) _ = _
                        simp only [Act.put, List.setIfInBounds_toArray, List.set_cons_zero, List.set_cons_succ, i64_w, i32_w]
                        rfl
                      refine pure_ (i := 5) (N := some 79) (v := ?_) (a' := ?_) #[true, true, true, true, true, true, false, false, false, false, false] rfl rfl (any_of HT_.out (by kernel_rfl)) (fun _ _ _ h => h) (Or.inl ⟨by rfl, ?_⟩) ?_ ?_
                      rotate_left
                      · intro w'
                        go_simp
                        with_reducible rfl
                      rotate_left
                      · simp only [Act.put, List.setIfInBounds_toArray, List.set_cons_zero, List.set_cons_succ, i64_w, i32_w]
                        rfl
                      refine pure_ (i := 6) (N := some 85) (v := ?_) (a' := ?_) #[true, true, true, true, true, true, true, false, false, false, false] rfl rfl (any_of HT_.out (by kernel_rfl)) (fun _ _ _ h => h) (Or.inl ⟨by rfl, ?_⟩) ?_ ?_
                      rotate_left
                      · intro w'
                        go_simp
                        with_reducible rfl
                      rotate_left
                      · simp only [Act.put, List.setIfInBounds_toArray, List.set_cons_zero, List.set_cons_succ, i64_w, i32_w]
                        rfl
                      refine pure_ (i := 7) (N := some 86) (v := ?_) (a' := ?_) #[true, true, true, true, true, true, true, true, false, false, false] rfl rfl (any_of HT_.out (by kernel_rfl)) (fun _ _ _ h => h) (Or.inl ⟨by rfl, ?_⟩) ?_ ?_
                      rotate_left
                      · intro w'
                        go_simp
                        with_reducible rfl
                      rotate_left
                      · simp only [Act.put, List.setIfInBounds_toArray, List.set_cons_zero, List.set_cons_succ, i64_w, i32_w]
                        rfl
                      refine one_ (i := 8) (N := some 14) #[true, true, true, true, true, true, true, true, true, false, false] rfl rfl (one_of HT_.out (by kernel_rfl)) (by decide) (fun K hK => ?_)
                      refine box_step ?hg (N := 14) ?hd (cs := #[.int .i64 0, .int .i64 0, .int .i64 0, .slice none 0 0]) (t := 28) ?hr ?_; (case hd => rfl); (case hg => rfl); (case hr => first | (go_simp; done) | (go_simp; rfl))
                      intro gb263 hg w117 hbox hb
                      have n0_ := Aside0.mk (Kd.R_below (B.kr HO_213003) hb)
                      have n1_ := Aside0.mk (Kd.R_below (B.kr HO_220003) hb)
                      have n2_ := Aside0.mk (Kd.R_below (B.kr HO_232003) hb)
                      have n3_ := Aside0.mk (Kd.R_below (B.kr HO251) hb)
                      have n4_ := Aside0.mk (Kd.R_below (B.kr HO261) hb)
                      have n5_ := Aside0.mk (blk_below (B.kb BK192) hb)
                      have n6_ := Aside0.mk (blk_below (B.kb BK193) hb)
                      have n7_ := Aside0.mk (blk_below (B.kb BK212) hb)
                      have n8_ := Aside0.mk (blk_below (B.kb BK219) hb)
                      have n9_ := Aside0.mk (blk_below (B.kb BK231) hb)
                      have n10_ := Aside0.mk (below_step (B.bl HB) hb)
                      have n11_ := Aside0.mk (hbox)
                      have n12_ := Aside0.mk (B.nle hg (below_size (B.bl HB)))
                      have n13_ := Aside0.mk (B.nle hg (below_size (B.bl HB)))
                      have n14_ := Aside0.mk (B.nlt hg (blk_lt (B.kb BK192)))
                      have n15_ := Aside0.mk (B.ngt hg (blk_lt (B.kb BK192)))
                      have n16_ := Aside0.mk (B.nlt hg (blk_lt (B.kb BK193)))
                      have n17_ := Aside0.mk (B.ngt hg (blk_lt (B.kb BK193)))
                      have n18_ := Aside0.mk (B.nlt hg (blk_lt (B.kb BK212)))
                      have n19_ := Aside0.mk (B.ngt hg (blk_lt (B.kb BK212)))
                      have n20_ := Aside0.mk (B.nlt hg (blk_lt (B.kb BK219)))
                      have n21_ := Aside0.mk (B.ngt hg (blk_lt (B.kb BK219)))
                      have n22_ := Aside0.mk (B.nlt hg (blk_lt (B.kb BK231)))
                      have n23_ := Aside0.mk (B.ngt hg (blk_lt (B.kb BK231)))
                      clear HO_213003 HO_220003 HO_232003 HO251 HO261 BK192 BK193 BK212 BK219 BK231 HB
                      have HO_213003 := n0_
                      have HO_220003 := n1_
                      have HO_232003 := n2_
                      have HO251 := n3_
                      have HO261 := n4_
                      have BK192 := n5_
                      have BK193 := n6_
                      have BK212 := n7_
                      have BK219 := n8_
                      have BK231 := n9_
                      have HB := n10_
                      have BK263 := n11_
                      have GW263 := n12_
                      have GE263 := n13_
                      have NB192_263 := n14_
                      have NB263_192 := n15_
                      have NB193_263 := n16_
                      have NB263_193 := n17_
                      have NB212_263 := n18_
                      have NB263_212 := n19_
                      have NB219_263 := n20_
                      have NB263_219 := n21_
                      have NB231_263 := n22_
                      have NB263_231 := n23_
                      clear n0_ n1_ n2_ n3_ n4_ n5_ n6_ n7_ n8_ n9_ n10_ n11_ n12_ n13_ n14_ n15_ n16_ n17_ n18_ n19_ n20_ n21_ n22_ n23_
                      clear hb hbox hg
                      refine hK.out _ _ ⟨B.bc BK192 0, B.bc BK192 1, B.bc BK192 2, B.bc BK192 3, B.bc BK193 0, B.bc BK193 1, B.bc BK193 2, B.bc BK193 3⟩ (fun hHeld => ?_)
                      clear hK K
                      refine norm_ (a' := ?_) ?_ ?_
                      rotate_left
                      · show Act.put _ (some 14) _ = _
                        simp only [Act.put, List.setIfInBounds_toArray, List.set_cons_zero, List.set_cons_succ, i64_w, i32_w]
                        rfl
                      exact norm_ (by simp only [putAll, Act.put, List.setIfInBounds_toArray, List.set_cons_zero, List.set_cons_succ]) (hCont (.slice Ao115 t249.length co115, v260, gb263) _ ⟨hHeld, (B.kr0 (Kd.R_mono HO251.out (fun _ hk => ⟨hk.2, ⟨hk.1.1.1.2, ⟨hk.1.1.2, hk.1.2⟩⟩⟩))), (B.kr0 (Kd.R_mono HO261.out (fun _ hk => ⟨hk.2, ⟨hk.1.1.1.2, ⟨hk.1.1.2, hk.1.2⟩⟩⟩))), (B.kr0 (Kd.R_mono HO_213003.out (fun _ hk => ⟨hk.1.2, ⟨hk.2, ⟨hk.1.1.1, hk.1.1.2⟩⟩⟩))), (B.kr0 (Kd.R_mono HO_220003.out (fun _ hk => ⟨hk.1.2, ⟨hk.2, ⟨hk.1.1.1, hk.1.1.2⟩⟩⟩))), (B.kr0 (Kd.R_mono HO_232003.out (fun _ hk => ⟨hk.1.2, ⟨hk.2, ⟨hk.1.1.1, hk.1.1.2⟩⟩⟩))), (B.kb BK192), (B.kb BK193), (B.kb BK212), (B.kb BK219), (B.kb BK231), (B.kb BK263), GW263.out, GE263.out, NB192_263.out, NB263_192.out, NB193_263.out, NB263_193.out, NB212_263.out, NB263_212.out, NB219_263.out, NB263_219.out, NB231_263.out, NB263_231.out, (B.bl HB)⟩)
                    skip
                    refine box_step ?hg (N := 14) ?hd (cs := #[.int .i64 0, .int .i64 0, .int .i64 0, .slice none 0 0]) (t := 28) ?hr ?_; (case hd => rfl); (case hg => rfl); (case hr => first | (go_simp; done) | (go_simp; rfl))
                    intro gb263 hg w115 hbox hb
                    have n0_ := Aside0.mk (Kd.R_below (B.kr HO_213003) hb)
                    have n1_ := Aside0.mk (Kd.R_below (B.kr HO_220003) hb)
                    have n2_ := Aside0.mk (Kd.R_below (B.kr HO_232003) hb)
                    have n3_ := Aside0.mk (Kd.R_below (B.kr HO251) hb)
                    have n4_ := Aside0.mk (blk_below (B.kb BK192) hb)
                    have n5_ := Aside0.mk (blk_below (B.kb BK193) hb)
                    have n6_ := Aside0.mk (blk_below (B.kb BK212) hb)
                    have n7_ := Aside0.mk (blk_below (B.kb BK219) hb)
                    have n8_ := Aside0.mk (blk_below (B.kb BK231) hb)
                    have n9_ := Aside0.mk (below_step (B.bl HB) hb)
                    have n10_ := Aside0.mk (hbox)
                    have n11_ := Aside0.mk (B.nle hg (below_size (B.bl HB)))
                    have n12_ := Aside0.mk (B.nle hg (below_size (B.bl HB)))
                    have n13_ := Aside0.mk (B.nlt hg (blk_lt (B.kb BK192)))
                    have n14_ := Aside0.mk (B.ngt hg (blk_lt (B.kb BK192)))
                    have n15_ := Aside0.mk (B.nlt hg (blk_lt (B.kb BK193)))
                    have n16_ := Aside0.mk (B.ngt hg (blk_lt (B.kb BK193)))
                    have n17_ := Aside0.mk (B.nlt hg (blk_lt (B.kb BK212)))
                    have n18_ := Aside0.mk (B.ngt hg (blk_lt (B.kb BK212)))
                    have n19_ := Aside0.mk (B.nlt hg (blk_lt (B.kb BK219)))
                    have n20_ := Aside0.mk (B.ngt hg (blk_lt (B.kb BK219)))
                    have n21_ := Aside0.mk (B.nlt hg (blk_lt (B.kb BK231)))
                    have n22_ := Aside0.mk (B.ngt hg (blk_lt (B.kb BK231)))
                    clear HO_213003 HO_220003 HO_232003 HO251 BK192 BK193 BK212 BK219 BK231 HB
                    have HO_213003 := n0_
                    have HO_220003 := n1_
                    have HO_232003 := n2_
                    have HO251 := n3_
                    have BK192 := n4_
                    have BK193 := n5_
                    have BK212 := n6_
                    have BK219 := n7_
                    have BK231 := n8_
                    have HB := n9_
                    have BK263 := n10_
                    have GW263 := n11_
                    have GE263 := n12_
                    have NB192_263 := n13_
                    have NB263_192 := n14_
                    have NB193_263 := n15_
                    have NB263_193 := n16_
                    have NB212_263 := n17_
                    have NB263_212 := n18_
                    have NB219_263 := n19_
                    have NB263_219 := n20_
                    have NB231_263 := n21_
                    have NB263_231 := n22_
                    clear n0_ n1_ n2_ n3_ n4_ n5_ n6_ n7_ n8_ n9_ n10_ n11_ n12_ n13_ n14_ n15_ n16_ n17_ n18_ n19_ n20_ n21_ n22_
                    clear hb hbox hg
                    obtain ⟨Ao116, co116, eo116⟩ := Kd.R_slice HO251.out
                    (first | subst eo116 | (injection eo116 with f1_ f2_ f3_; have f4_ := f1_.symm; have f5_ := f3_.symm; clear f1_ f2_ f3_; subst f4_; subst f5_))
                    refine hK.out _ _ ⟨B.bc BK192 0, B.bc BK192 1, B.bc BK192 2, B.bc BK192 3, B.bc BK193 0, B.bc BK193 1, B.bc BK193 2, B.bc BK193 3⟩ (fun hHeld => ?_)
                    clear hK K
                    refine norm_ (a' := ?_) ?_ ?_
                    rotate_left
                    · show Act.put _ (some 14) _ = _
                      simp only [Act.put, List.setIfInBounds_toArray, List.set_cons_zero, List.set_cons_succ, i64_w, i32_w]
                      rfl
                    refine one_ (i := 4) (N := some 84) #[true, true, true, true, true, false, false, false, true, false, false] rfl rfl (one_of HT_.out (by kernel_rfl)) (by decide) (fun K hK => ?_)
                    refine goes_ Try.func12 (by kernel_rfl) rfl #[.agg #[.int .i64 t246, .int .i64 t247, .int .i64 t248, .slice Ao116 t249.length co116], .agg #[.int .i64 t252, .int .i64 t253, .int .i64 t254, .int .i64 t255]] (by rfl) rfl rfl B.am ?_
                    with_reducible refine (impl_CropImage.calls t246 t247 t248 _ _ t249 t252 t253 t254 t255 t256 t257 t258 t259 t262 _ ?side1 ?side2 A102.out).mono ?_
                    (case side1 => exact B.kc ((Kd.R_reads' HO251.out).2.2))
                    (case side2 => exact (Kd.R_reads' HO251.out).2.1)
                    rintro e w117 ⟨v260, rfl, ho0, hb⟩
                    refine ⟨_, rfl, ?_⟩
                    have n0_ := Aside0.mk (Kd.R_elder' (B.kr HO_213003) (Kd.R_base ho0) hb)
                    have n1_ := Aside0.mk (Kd.R_elder' (B.kr HO_220003) (Kd.R_base ho0) hb)
                    have n2_ := Aside0.mk (Kd.R_elder' (B.kr HO_232003) (Kd.R_base ho0) hb)
                    have n3_ := Aside0.mk (Kd.R_elder' (B.kr HO251) (Kd.R_base ho0) hb)
                    have n4_ := Aside0.mk (Kd.R_lower (Kd.R_new' (Kd.R_new' (Kd.R_new' (Kd.R_new' ho0 (Kd.R_lt (B.kr HO_213003))) (Kd.R_lt (B.kr HO_220003))) (Kd.R_lt (B.kr HO_232003))) (Kd.R_lt (B.kr HO251))) (below_size (B.bl HB)))
                    have n5_ := Aside0.mk (blk_below (B.kb BK192) hb)
                    have n6_ := Aside0.mk (blk_below (B.kb BK193) hb)
                    have n7_ := Aside0.mk (blk_below (B.kb BK212) hb)
                    have n8_ := Aside0.mk (blk_below (B.kb BK219) hb)
                    have n9_ := Aside0.mk (blk_below (B.kb BK231) hb)
                    have n10_ := Aside0.mk (blk_below (B.kb BK263) hb)
                    have n11_ := Aside0.mk (below_step (B.bl HB) hb)
                    clear HO_213003 HO_220003 HO_232003 HO251 BK192 BK193 BK212 BK219 BK231 BK263 HB
                    have HO_213003 := n0_
                    have HO_220003 := n1_
                    have HO_232003 := n2_
                    have HO251 := n3_
                    have HO261 := n4_
                    have BK192 := n5_
                    have BK193 := n6_
                    have BK212 := n7_
                    have BK219 := n8_
                    have BK231 := n9_
                    have BK263 := n10_
                    have HB := n11_
                    clear n0_ n1_ n2_ n3_ n4_ n5_ n6_ n7_ n8_ n9_ n10_ n11_
                    (try clear hb)
                    (try clear hb2)
                    (try clear hk)
                    (try clear hi)
                    (try clear ho0)
                    refine hK.out _ _ ⟨B.bc BK192 0, B.bc BK192 1, B.bc BK192 2, B.bc BK192 3, B.bc BK193 0, B.bc BK193 1, B.bc BK193 2, B.bc BK193 3⟩ (fun hHeld => ?_)
                    clear hK K
                    refine norm_ (a' := ?_) ?_ ?_
                    rotate_left
                    · show Act.put _ (some 84) _ = _
                      simp only [Act.put, List.setIfInBounds_toArray, List.set_cons_zero, List.set_cons_succ, i64_w, i32_w]
                      rfl
                    refine pure_ (i := 5) (N := some 79) (v := ?_) (a' := ?_) #[true, true, true, true, true, true, false, false, true, false, false] rfl rfl (any_of HT_.out (by kernel_rfl)) (fun _ _ _ h => h) (Or.inl ⟨by rfl, ?_⟩) ?_ ?_
                    rotate_left
                    · intro w'
                      go_simp
                      with_reducible rfl
                    rotate_left
                    · simp only [Act.put, List.setIfInBounds_toArray, List.set_cons_zero, List.set_cons_succ, i64_w, i32_w]
                      rfl
                    refine pure_ (i := 6) (N := some 85) (v := ?_) (a' := ?_) #[true, true, true, true, true, true, true, false, true, false, false] rfl rfl (any_of HT_.out (by kernel_rfl)) (fun _ _ _ h => h) (Or.inl ⟨by rfl, ?_⟩) ?_ ?_
                    rotate_left
                    · intro w'
                      go_simp
                      with_reducible rfl
                    rotate_left
                    · simp only [Act.put, List.setIfInBounds_toArray, List.set_cons_zero, List.set_cons_succ, i64_w, i32_w]
                      rfl
                    refine pure_ (i := 7) (N := some 86) (v := ?_) (a' := ?_) #[true, true, true, true, true, true, true, true, true, false, false] rfl rfl (any_of HT_.out (by kernel_rfl)) (fun _ _ _ h => h) (Or.inl ⟨by rfl, ?_⟩) ?_ ?_
                    rotate_left
                    · intro w'
                      go_simp
                      with_reducible rfl
                    rotate_left
                    · simp only [Act.put, List.setIfInBounds_toArray, List.set_cons_zero, List.set_cons_succ, i64_w, i32_w]
                      rfl
                    exact norm_ (by simp only [putAll, Act.put, List.setIfInBounds_toArray, List.set_cons_zero, List.set_cons_succ]) (hCont (.slice Ao116 t249.length co116, v260, gb263) _ ⟨hHeld, (B.kr0 (Kd.R_mono HO251.out (fun _ hk => ⟨hk.2, ⟨hk.1.1.1.2, ⟨hk.1.1.2, hk.1.2⟩⟩⟩))), (B.kr0 (Kd.R_mono HO261.out (fun _ hk => ⟨hk.2, ⟨hk.1.1.1.2, ⟨hk.1.1.2, hk.1.2⟩⟩⟩))), (B.kr0 (Kd.R_mono HO_213003.out (fun _ hk => ⟨hk.1.2, ⟨hk.2, ⟨hk.1.1.1, hk.1.1.2⟩⟩⟩))), (B.kr0 (Kd.R_mono HO_220003.out (fun _ hk => ⟨hk.1.2, ⟨hk.2, ⟨hk.1.1.1, hk.1.1.2⟩⟩⟩))), (B.kr0 (Kd.R_mono HO_232003.out (fun _ hk => ⟨hk.1.2, ⟨hk.2, ⟨hk.1.1.1, hk.1.1.2⟩⟩⟩))), (B.kb BK192), (B.kb BK193), (B.kb BK212), (B.kb BK219), (B.kb BK231), (B.kb BK263), GW263.out, GE263.out, NB192_263.out, NB263_192.out, NB193_263.out, NB263_193.out, NB212_263.out, NB263_212.out, NB219_263.out, NB263_219.out, NB231_263.out, NB263_231.out, (B.bl HB)⟩)
                  skip
                  refine box_step ?hg (N := 14) ?hd (cs := #[.int .i64 0, .int .i64 0, .int .i64 0, .slice none 0 0]) (t := 28) ?hr ?_; (case hd => rfl); (case hg => rfl); (case hr => first | (go_simp; done) | (go_simp; rfl))
                  intro gb263 hg w114 hbox hb
                  have n0_ := Aside0.mk (Kd.R_below (B.kr HO_213003) hb)
                  have n1_ := Aside0.mk (Kd.R_below (B.kr HO_220003) hb)
                  have n2_ := Aside0.mk (Kd.R_below (B.kr HO_232003) hb)
                  have n3_ := Aside0.mk (Kd.R_below (B.kr HO251) hb)
                  have n4_ := Aside0.mk (blk_below (B.kb BK192) hb)
                  have n5_ := Aside0.mk (blk_below (B.kb BK193) hb)
                  have n6_ := Aside0.mk (blk_below (B.kb BK212) hb)
                  have n7_ := Aside0.mk (blk_below (B.kb BK219) hb)
                  have n8_ := Aside0.mk (blk_below (B.kb BK231) hb)
                  have n9_ := Aside0.mk (below_step (B.bl HB) hb)
                  have n10_ := Aside0.mk (hbox)
                  have n11_ := Aside0.mk (B.nle hg (below_size (B.bl HB)))
                  have n12_ := Aside0.mk (B.nle hg (below_size (B.bl HB)))
                  have n13_ := Aside0.mk (B.nlt hg (blk_lt (B.kb BK192)))
                  have n14_ := Aside0.mk (B.ngt hg (blk_lt (B.kb BK192)))
                  have n15_ := Aside0.mk (B.nlt hg (blk_lt (B.kb BK193)))
                  have n16_ := Aside0.mk (B.ngt hg (blk_lt (B.kb BK193)))
                  have n17_ := Aside0.mk (B.nlt hg (blk_lt (B.kb BK212)))
                  have n18_ := Aside0.mk (B.ngt hg (blk_lt (B.kb BK212)))
                  have n19_ := Aside0.mk (B.nlt hg (blk_lt (B.kb BK219)))
                  have n20_ := Aside0.mk (B.ngt hg (blk_lt (B.kb BK219)))
                  have n21_ := Aside0.mk (B.nlt hg (blk_lt (B.kb BK231)))
                  have n22_ := Aside0.mk (B.ngt hg (blk_lt (B.kb BK231)))
                  clear HO_213003 HO_220003 HO_232003 HO251 BK192 BK193 BK212 BK219 BK231 HB
                  have HO_213003 := n0_
                  have HO_220003 := n1_
                  have HO_232003 := n2_
                  have HO251 := n3_
                  have BK192 := n4_
                  have BK193 := n5_
                  have BK212 := n6_
                  have BK219 := n7_
                  have BK231 := n8_
                  have HB := n9_
                  have BK263 := n10_
                  have GW263 := n11_
                  have GE263 := n12_
                  have NB192_263 := n13_
                  have NB263_192 := n14_
                  have NB193_263 := n15_
                  have NB263_193 := n16_
                  have NB212_263 := n17_
                  have NB263_212 := n18_
                  have NB219_263 := n19_
                  have NB263_219 := n20_
                  have NB231_263 := n21_
                  have NB263_231 := n22_
                  clear n0_ n1_ n2_ n3_ n4_ n5_ n6_ n7_ n8_ n9_ n10_ n11_ n12_ n13_ n14_ n15_ n16_ n17_ n18_ n19_ n20_ n21_ n22_
                  clear hb hbox hg
                  refine hK.out _ _ ⟨B.bc BK192 0, B.bc BK192 1, B.bc BK192 2, B.bc BK192 3, B.bc BK193 0, B.bc BK193 1, B.bc BK193 2, B.bc BK193 3⟩ (fun hHeld => ?_)
                  clear hK K
                  refine norm_ (a' := ?_) ?_ ?_
                  rotate_left
                  · show Act.put _ (some 14) _ = _
                    simp only [Act.put, List.setIfInBounds_toArray, List.set_cons_zero, List.set_cons_succ, i64_w, i32_w]
                    rfl
                  refine one_ (i := 3) (N := some 83) #[true, true, true, true, false, false, false, false, true, false, false] rfl rfl (one_of HT_.out (by kernel_rfl)) (by decide) (fun K hK => ?_)
                  refine goes_ Try.func11 (by kernel_rfl) rfl #[.agg #[.int .i64 a1_0, .int .i64 a1_1, .int .i64 a1_2, .int .i64 a1_3]] (by rfl) rfl rfl B.am ?_
                  with_reducible refine (laws_toBox.calls a1_0 a1_1 a1_2 a1_3 t252 t253 t254 t255 _ A101.out).mono ?_
                  rintro e w115 ⟨rfl, hb⟩
                  refine ⟨_, rfl, ?_⟩
                  have n0_ := Aside0.mk (Kd.R_below (B.kr HO_213003) hb)
                  have n1_ := Aside0.mk (Kd.R_below (B.kr HO_220003) hb)
                  have n2_ := Aside0.mk (Kd.R_below (B.kr HO_232003) hb)
                  have n3_ := Aside0.mk (Kd.R_below (B.kr HO251) hb)
                  have n4_ := Aside0.mk (blk_below (B.kb BK192) hb)
                  have n5_ := Aside0.mk (blk_below (B.kb BK193) hb)
                  have n6_ := Aside0.mk (blk_below (B.kb BK212) hb)
                  have n7_ := Aside0.mk (blk_below (B.kb BK219) hb)
                  have n8_ := Aside0.mk (blk_below (B.kb BK231) hb)
                  have n9_ := Aside0.mk (blk_below (B.kb BK263) hb)
                  have n10_ := Aside0.mk (below_step (B.bl HB) hb)
                  clear HO_213003 HO_220003 HO_232003 HO251 BK192 BK193 BK212 BK219 BK231 BK263 HB
                  have HO_213003 := n0_
                  have HO_220003 := n1_
                  have HO_232003 := n2_
                  have HO251 := n3_
                  have BK192 := n4_
                  have BK193 := n5_
                  have BK212 := n6_
                  have BK219 := n7_
                  have BK231 := n8_
                  have BK263 := n9_
                  have HB := n10_
                  clear n0_ n1_ n2_ n3_ n4_ n5_ n6_ n7_ n8_ n9_ n10_
                  (try clear hb)
                  (try clear hb2)
                  (try clear hk)
                  (try clear hi)
                  obtain ⟨Ao116, co116, eo116⟩ := Kd.R_slice HO251.out
                  (first | subst eo116 | (injection eo116 with f1_ f2_ f3_; have f4_ := f1_.symm; have f5_ := f3_.symm; clear f1_ f2_ f3_; subst f4_; subst f5_))
                  refine hK.out _ _ ⟨B.bc BK192 0, B.bc BK192 1, B.bc BK192 2, B.bc BK192 3, B.bc BK193 0, B.bc BK193 1, B.bc BK193 2, B.bc BK193 3⟩ (fun hHeld => ?_)
                  clear hK K
                  refine norm_ (a' := ?_) ?_ ?_
                  rotate_left
                  · show Act.put _ (some 83) _ = _
                    simp only [Act.put, List.setIfInBounds_toArray, List.set_cons_zero, List.set_cons_succ, i64_w, i32_w]
                    rfl
                  refine one_ (i := 4) (N := some 84) #[true, true, true, true, true, false, false, false, true, false, false] rfl rfl (one_of HT_.out (by kernel_rfl)) (by decide) (fun K hK => ?_)
                  refine goes_ Try.func12 (by kernel_rfl) rfl #[.agg #[.int .i64 t246, .int .i64 t247, .int .i64 t248, .slice Ao116 t249.length co116], .agg #[.int .i64 t252, .int .i64 t253, .int .i64 t254, .int .i64 t255]] (by rfl) rfl rfl B.am ?_
                  with_reducible refine (impl_CropImage.calls t246 t247 t248 _ _ t249 t252 t253 t254 t255 t256 t257 t258 t259 t262 _ ?side1 ?side2 A102.out).mono ?_
                  (case side1 => exact B.kc ((Kd.R_reads' HO251.out).2.2))
                  (case side2 => exact (Kd.R_reads' HO251.out).2.1)
                  rintro e w117 ⟨v260, rfl, ho0, hb⟩
                  refine ⟨_, rfl, ?_⟩
                  have n0_ := Aside0.mk (Kd.R_elder' (B.kr HO_213003) (Kd.R_base ho0) hb)
                  have n1_ := Aside0.mk (Kd.R_elder' (B.kr HO_220003) (Kd.R_base ho0) hb)
                  have n2_ := Aside0.mk (Kd.R_elder' (B.kr HO_232003) (Kd.R_base ho0) hb)
                  have n3_ := Aside0.mk (Kd.R_elder' (B.kr HO251) (Kd.R_base ho0) hb)
                  have n4_ := Aside0.mk (Kd.R_lower (Kd.R_new' (Kd.R_new' (Kd.R_new' (Kd.R_new' ho0 (Kd.R_lt (B.kr HO_213003))) (Kd.R_lt (B.kr HO_220003))) (Kd.R_lt (B.kr HO_232003))) (Kd.R_lt (B.kr HO251))) (below_size (B.bl HB)))
                  have n5_ := Aside0.mk (blk_below (B.kb BK192) hb)
                  have n6_ := Aside0.mk (blk_below (B.kb BK193) hb)
                  have n7_ := Aside0.mk (blk_below (B.kb BK212) hb)
                  have n8_ := Aside0.mk (blk_below (B.kb BK219) hb)
                  have n9_ := Aside0.mk (blk_below (B.kb BK231) hb)
                  have n10_ := Aside0.mk (blk_below (B.kb BK263) hb)
                  have n11_ := Aside0.mk (below_step (B.bl HB) hb)
                  clear HO_213003 HO_220003 HO_232003 HO251 BK192 BK193 BK212 BK219 BK231 BK263 HB
                  have HO_213003 := n0_
                  have HO_220003 := n1_
                  have HO_232003 := n2_
                  have HO251 := n3_
                  have HO261 := n4_
                  have BK192 := n5_
                  have BK193 := n6_
                  have BK212 := n7_
                  have BK219 := n8_
                  have BK231 := n9_
                  have BK263 := n10_
                  have HB := n11_
                  clear n0_ n1_ n2_ n3_ n4_ n5_ n6_ n7_ n8_ n9_ n10_ n11_
                  (try clear hb)
                  (try clear hb2)
                  (try clear hk)
                  (try clear hi)
                  (try clear ho0)
                  refine hK.out _ _ ⟨B.bc BK192 0, B.bc BK192 1, B.bc BK192 2, B.bc BK192 3, B.bc BK193 0, B.bc BK193 1, B.bc BK193 2, B.bc BK193 3⟩ (fun hHeld => ?_)
                  clear hK K
                  refine norm_ (a' := ?_) ?_ ?_
                  rotate_left
                  · show Act.put _ (some 84) _ = _
                    simp only [Act.put, List.setIfInBounds_toArray, List.set_cons_zero, List.set_cons_succ, i64_w, i32_w]
                    rfl
                  refine pure_ (i := 5) (N := some 79) (v := ?_) (a' := ?_) #[true, true, true, true, true, true, false, false, true, false, false] rfl rfl (any_of HT_.out (by kernel_rfl)) (fun _ _ _ h => h) (Or.inl ⟨by rfl, ?_⟩) ?_ ?_
                  rotate_left
                  · intro w'
                    go_simp
                    with_reducible rfl
                  rotate_left
                  · simp only [Act.put, List.setIfInBounds_toArray, List.set_cons_zero, List.set_cons_succ, i64_w, i32_w]
                    rfl
                  refine pure_ (i := 6) (N := some 85) (v := ?_) (a' := ?_) #[true, true, true, true, true, true, true, false, true, false, false] rfl rfl (any_of HT_.out (by kernel_rfl)) (fun _ _ _ h => h) (Or.inl ⟨by rfl, ?_⟩) ?_ ?_
                  rotate_left
                  · intro w'
                    go_simp
                    with_reducible rfl
                  rotate_left
                  · simp only [Act.put, List.setIfInBounds_toArray, List.set_cons_zero, List.set_cons_succ, i64_w, i32_w]
                    rfl
                  refine pure_ (i := 7) (N := some 86) (v := ?_) (a' := ?_) #[true, true, true, true, true, true, true, true, true, false, false] rfl rfl (any_of HT_.out (by kernel_rfl)) (fun _ _ _ h => h) (Or.inl ⟨by rfl, ?_⟩) ?_ ?_
                  rotate_left
                  · intro w'
                    go_simp
                    with_reducible rfl
                  rotate_left
                  · simp only [Act.put, List.setIfInBounds_toArray, List.set_cons_zero, List.set_cons_succ, i64_w, i32_w]
                    rfl
                  exact norm_ (by simp only [putAll, Act.put, List.setIfInBounds_toArray, List.set_cons_zero, List.set_cons_succ]) (hCont (.slice Ao116 t249.length co116, v260, gb263) _ ⟨hHeld, (B.kr0 (Kd.R_mono HO251.out (fun _ hk => ⟨hk.2, ⟨hk.1.1.1.2, ⟨hk.1.1.2, hk.1.2⟩⟩⟩))), (B.kr0 (Kd.R_mono HO261.out (fun _ hk => ⟨hk.2, ⟨hk.1.1.1.2, ⟨hk.1.1.2, hk.1.2⟩⟩⟩))), (B.kr0 (Kd.R_mono HO_213003.out (fun _ hk => ⟨hk.1.2, ⟨hk.2, ⟨hk.1.1.1, hk.1.1.2⟩⟩⟩))), (B.kr0 (Kd.R_mono HO_220003.out (fun _ hk => ⟨hk.1.2, ⟨hk.2, ⟨hk.1.1.1, hk.1.1.2⟩⟩⟩))), (B.kr0 (Kd.R_mono HO_232003.out (fun _ hk => ⟨hk.1.2, ⟨hk.2, ⟨hk.1.1.1, hk.1.1.2⟩⟩⟩))), (B.kb BK192), (B.kb BK193), (B.kb BK212), (B.kb BK219), (B.kb BK231), (B.kb BK263), GW263.out, GE263.out, NB192_263.out, NB263_192.out, NB193_263.out, NB263_193.out, NB212_263.out, NB263_212.out, NB219_263.out, NB263_219.out, NB231_263.out, NB263_231.out, (B.bl HB)⟩)
                skip
                refine box_step ?hg (N := 14) ?hd (cs := #[.int .i64 0, .int .i64 0, .int .i64 0, .slice none 0 0]) (t := 28) ?hr ?_; (case hd => rfl); (case hg => rfl); (case hr => first | (go_simp; done) | (go_simp; rfl))
                intro gb263 hg w113 hbox hb
                have n0_ := Aside0.mk (Kd.R_below (B.kr HO_213003) hb)
                have n1_ := Aside0.mk (Kd.R_below (B.kr HO_220003) hb)
                have n2_ := Aside0.mk (Kd.R_below (B.kr HO_232003) hb)
                have n3_ := Aside0.mk (blk_below (B.kb BK192) hb)
                have n4_ := Aside0.mk (blk_below (B.kb BK193) hb)
                have n5_ := Aside0.mk (blk_below (B.kb BK212) hb)
                have n6_ := Aside0.mk (blk_below (B.kb BK219) hb)
                have n7_ := Aside0.mk (blk_below (B.kb BK231) hb)
                have n8_ := Aside0.mk (below_step (B.bl HB) hb)
                have n9_ := Aside0.mk (hbox)
                have n10_ := Aside0.mk (B.nle hg (below_size (B.bl HB)))
                have n11_ := Aside0.mk (B.nle hg (below_size (B.bl HB)))
                have n12_ := Aside0.mk (B.nlt hg (blk_lt (B.kb BK192)))
                have n13_ := Aside0.mk (B.ngt hg (blk_lt (B.kb BK192)))
                have n14_ := Aside0.mk (B.nlt hg (blk_lt (B.kb BK193)))
                have n15_ := Aside0.mk (B.ngt hg (blk_lt (B.kb BK193)))
                have n16_ := Aside0.mk (B.nlt hg (blk_lt (B.kb BK212)))
                have n17_ := Aside0.mk (B.ngt hg (blk_lt (B.kb BK212)))
                have n18_ := Aside0.mk (B.nlt hg (blk_lt (B.kb BK219)))
                have n19_ := Aside0.mk (B.ngt hg (blk_lt (B.kb BK219)))
                have n20_ := Aside0.mk (B.nlt hg (blk_lt (B.kb BK231)))
                have n21_ := Aside0.mk (B.ngt hg (blk_lt (B.kb BK231)))
                clear HO_213003 HO_220003 HO_232003 BK192 BK193 BK212 BK219 BK231 HB
                have HO_213003 := n0_
                have HO_220003 := n1_
                have HO_232003 := n2_
                have BK192 := n3_
                have BK193 := n4_
                have BK212 := n5_
                have BK219 := n6_
                have BK231 := n7_
                have HB := n8_
                have BK263 := n9_
                have GW263 := n10_
                have GE263 := n11_
                have NB192_263 := n12_
                have NB263_192 := n13_
                have NB193_263 := n14_
                have NB263_193 := n15_
                have NB212_263 := n16_
                have NB263_212 := n17_
                have NB219_263 := n18_
                have NB263_219 := n19_
                have NB231_263 := n20_
                have NB263_231 := n21_
                clear n0_ n1_ n2_ n3_ n4_ n5_ n6_ n7_ n8_ n9_ n10_ n11_ n12_ n13_ n14_ n15_ n16_ n17_ n18_ n19_ n20_ n21_
                clear hb hbox hg
                refine hK.out _ _ ⟨B.bc BK192 0, B.bc BK192 1, B.bc BK192 2, B.bc BK192 3, B.bc BK193 0, B.bc BK193 1, B.bc BK193 2, B.bc BK193 3⟩ (fun hHeld => ?_)
                clear hK K
                refine norm_ (a' := ?_) ?_ ?_
                rotate_left
                · show Act.put _ (some 14) _ = _
                  simp only [Act.put, List.setIfInBounds_toArray, List.set_cons_zero, List.set_cons_succ, i64_w, i32_w]
                  rfl
                refine one_ (i := 1) (N := some 81) #[true, true, true, false, false, false, false, false, true, false, false] rfl rfl (one_of HT_.out (by kernel_rfl)) (by decide) (fun K hK => ?_)
                refine goes_ Try.func10 (by kernel_rfl) rfl #[.agg #[.int .i64 a0_0, .int .i64 a0_1, .int .i64 a0_2, .slice A0_3 l0_3.length c0_3]] (by rfl) rfl rfl B.am ?_
                with_reducible refine (laws_toImage.calls kj70 a0_0 a0_1 a0_2 _ _ l0_3 t246 t247 t248 t249 _ ?side1 ?side2 A100.out).mono ?_
                (case side1 => exact B.kc (Kd.C_below HR0_3.out HB.out))
                (case side2 => exact HC0_3.out)
                rintro e w114 ⟨v250, rfl, ho0, hb⟩
                refine ⟨_, rfl, ?_⟩
                have n0_ := Aside0.mk (Kd.R_elder' (B.kr HO_213003) (Kd.R_base ho0) hb)
                have n1_ := Aside0.mk (Kd.R_elder' (B.kr HO_220003) (Kd.R_base ho0) hb)
                have n2_ := Aside0.mk (Kd.R_elder' (B.kr HO_232003) (Kd.R_base ho0) hb)
                have n3_ := Aside0.mk (Kd.R_lower (Kd.R_new' (Kd.R_new' (Kd.R_new' ho0 (Kd.R_lt (B.kr HO_213003))) (Kd.R_lt (B.kr HO_220003))) (Kd.R_lt (B.kr HO_232003))) (below_size (B.bl HB)))
                have n4_ := Aside0.mk (blk_below (B.kb BK192) hb)
                have n5_ := Aside0.mk (blk_below (B.kb BK193) hb)
                have n6_ := Aside0.mk (blk_below (B.kb BK212) hb)
                have n7_ := Aside0.mk (blk_below (B.kb BK219) hb)
                have n8_ := Aside0.mk (blk_below (B.kb BK231) hb)
                have n9_ := Aside0.mk (blk_below (B.kb BK263) hb)
                have n10_ := Aside0.mk (below_step (B.bl HB) hb)
                clear HO_213003 HO_220003 HO_232003 BK192 BK193 BK212 BK219 BK231 BK263 HB
                have HO_213003 := n0_
                have HO_220003 := n1_
                have HO_232003 := n2_
                have HO251 := n3_
                have BK192 := n4_
                have BK193 := n5_
                have BK212 := n6_
                have BK219 := n7_
                have BK231 := n8_
                have BK263 := n9_
                have HB := n10_
                clear n0_ n1_ n2_ n3_ n4_ n5_ n6_ n7_ n8_ n9_ n10_
                (try clear hb)
                (try clear hb2)
                (try clear hk)
                (try clear hi)
                (try clear ho0)
                refine hK.out _ _ ⟨B.bc BK192 0, B.bc BK192 1, B.bc BK192 2, B.bc BK192 3, B.bc BK193 0, B.bc BK193 1, B.bc BK193 2, B.bc BK193 3⟩ (fun hHeld => ?_)
                clear hK K
                refine norm_ (a' := ?_) ?_ ?_
                rotate_left
                · show Act.put _ (some 81) _ = _
                  simp only [Act.put, List.setIfInBounds_toArray, List.set_cons_zero, List.set_cons_succ, i64_w, i32_w]
                  rfl
                refine one_ (i := 3) (N := some 83) #[true, true, true, true, false, false, false, false, true, false, false] rfl rfl (one_of HT_.out (by kernel_rfl)) (by decide) (fun K hK => ?_)
                refine goes_ Try.func11 (by kernel_rfl) rfl #[.agg #[.int .i64 a1_0, .int .i64 a1_1, .int .i64 a1_2, .int .i64 a1_3]] (by rfl) rfl rfl B.am ?_
                with_reducible refine (laws_toBox.calls a1_0 a1_1 a1_2 a1_3 t252 t253 t254 t255 _ A101.out).mono ?_
                rintro e w115 ⟨rfl, hb⟩
                refine ⟨_, rfl, ?_⟩
                have n0_ := Aside0.mk (Kd.R_below (B.kr HO_213003) hb)
                have n1_ := Aside0.mk (Kd.R_below (B.kr HO_220003) hb)
                have n2_ := Aside0.mk (Kd.R_below (B.kr HO_232003) hb)
                have n3_ := Aside0.mk (Kd.R_below (B.kr HO251) hb)
                have n4_ := Aside0.mk (blk_below (B.kb BK192) hb)
                have n5_ := Aside0.mk (blk_below (B.kb BK193) hb)
                have n6_ := Aside0.mk (blk_below (B.kb BK212) hb)
                have n7_ := Aside0.mk (blk_below (B.kb BK219) hb)
                have n8_ := Aside0.mk (blk_below (B.kb BK231) hb)
                have n9_ := Aside0.mk (blk_below (B.kb BK263) hb)
                have n10_ := Aside0.mk (below_step (B.bl HB) hb)
                clear HO_213003 HO_220003 HO_232003 HO251 BK192 BK193 BK212 BK219 BK231 BK263 HB
                have HO_213003 := n0_
                have HO_220003 := n1_
                have HO_232003 := n2_
                have HO251 := n3_
                have BK192 := n4_
                have BK193 := n5_
                have BK212 := n6_
                have BK219 := n7_
                have BK231 := n8_
                have BK263 := n9_
                have HB := n10_
                clear n0_ n1_ n2_ n3_ n4_ n5_ n6_ n7_ n8_ n9_ n10_
                (try clear hb)
                (try clear hb2)
                (try clear hk)
                (try clear hi)
                obtain ⟨Ao116, co116, eo116⟩ := Kd.R_slice HO251.out
                (first | subst eo116 | (injection eo116 with f1_ f2_ f3_; have f4_ := f1_.symm; have f5_ := f3_.symm; clear f1_ f2_ f3_; subst f4_; subst f5_))
                refine hK.out _ _ ⟨B.bc BK192 0, B.bc BK192 1, B.bc BK192 2, B.bc BK192 3, B.bc BK193 0, B.bc BK193 1, B.bc BK193 2, B.bc BK193 3⟩ (fun hHeld => ?_)
                clear hK K
                refine norm_ (a' := ?_) ?_ ?_
                rotate_left
                · show Act.put _ (some 83) _ = _
                  simp only [Act.put, List.setIfInBounds_toArray, List.set_cons_zero, List.set_cons_succ, i64_w, i32_w]
                  rfl
                refine one_ (i := 4) (N := some 84) #[true, true, true, true, true, false, false, false, true, false, false] rfl rfl (one_of HT_.out (by kernel_rfl)) (by decide) (fun K hK => ?_)
                refine goes_ Try.func12 (by kernel_rfl) rfl #[.agg #[.int .i64 t246, .int .i64 t247, .int .i64 t248, .slice Ao116 t249.length co116], .agg #[.int .i64 t252, .int .i64 t253, .int .i64 t254, .int .i64 t255]] (by rfl) rfl rfl B.am ?_
                with_reducible refine (impl_CropImage.calls t246 t247 t248 _ _ t249 t252 t253 t254 t255 t256 t257 t258 t259 t262 _ ?side1 ?side2 A102.out).mono ?_
                (case side1 => exact B.kc ((Kd.R_reads' HO251.out).2.2))
                (case side2 => exact (Kd.R_reads' HO251.out).2.1)
                rintro e w117 ⟨v260, rfl, ho0, hb⟩
                refine ⟨_, rfl, ?_⟩
                have n0_ := Aside0.mk (Kd.R_elder' (B.kr HO_213003) (Kd.R_base ho0) hb)
                have n1_ := Aside0.mk (Kd.R_elder' (B.kr HO_220003) (Kd.R_base ho0) hb)
                have n2_ := Aside0.mk (Kd.R_elder' (B.kr HO_232003) (Kd.R_base ho0) hb)
                have n3_ := Aside0.mk (Kd.R_elder' (B.kr HO251) (Kd.R_base ho0) hb)
                have n4_ := Aside0.mk (Kd.R_lower (Kd.R_new' (Kd.R_new' (Kd.R_new' (Kd.R_new' ho0 (Kd.R_lt (B.kr HO_213003))) (Kd.R_lt (B.kr HO_220003))) (Kd.R_lt (B.kr HO_232003))) (Kd.R_lt (B.kr HO251))) (below_size (B.bl HB)))
                have n5_ := Aside0.mk (blk_below (B.kb BK192) hb)
                have n6_ := Aside0.mk (blk_below (B.kb BK193) hb)
                have n7_ := Aside0.mk (blk_below (B.kb BK212) hb)
                have n8_ := Aside0.mk (blk_below (B.kb BK219) hb)
                have n9_ := Aside0.mk (blk_below (B.kb BK231) hb)
                have n10_ := Aside0.mk (blk_below (B.kb BK263) hb)
                have n11_ := Aside0.mk (below_step (B.bl HB) hb)
                clear HO_213003 HO_220003 HO_232003 HO251 BK192 BK193 BK212 BK219 BK231 BK263 HB
                have HO_213003 := n0_
                have HO_220003 := n1_
                have HO_232003 := n2_
                have HO251 := n3_
                have HO261 := n4_
                have BK192 := n5_
                have BK193 := n6_
                have BK212 := n7_
                have BK219 := n8_
                have BK231 := n9_
                have BK263 := n10_
                have HB := n11_
                clear n0_ n1_ n2_ n3_ n4_ n5_ n6_ n7_ n8_ n9_ n10_ n11_
                (try clear hb)
                (try clear hb2)
                (try clear hk)
                (try clear hi)
                (try clear ho0)
                refine hK.out _ _ ⟨B.bc BK192 0, B.bc BK192 1, B.bc BK192 2, B.bc BK192 3, B.bc BK193 0, B.bc BK193 1, B.bc BK193 2, B.bc BK193 3⟩ (fun hHeld => ?_)
                clear hK K
                refine norm_ (a' := ?_) ?_ ?_
                rotate_left
                · show Act.put _ (some 84) _ = _
                  simp only [Act.put, List.setIfInBounds_toArray, List.set_cons_zero, List.set_cons_succ, i64_w, i32_w]
                  rfl
                refine pure_ (i := 5) (N := some 79) (v := ?_) (a' := ?_) #[true, true, true, true, true, true, false, false, true, false, false] rfl rfl (any_of HT_.out (by kernel_rfl)) (fun _ _ _ h => h) (Or.inl ⟨by rfl, ?_⟩) ?_ ?_
                rotate_left
                · intro w'
                  go_simp
                  with_reducible rfl
                rotate_left
                · simp only [Act.put, List.setIfInBounds_toArray, List.set_cons_zero, List.set_cons_succ, i64_w, i32_w]
                  rfl
                refine pure_ (i := 6) (N := some 85) (v := ?_) (a' := ?_) #[true, true, true, true, true, true, true, false, true, false, false] rfl rfl (any_of HT_.out (by kernel_rfl)) (fun _ _ _ h => h) (Or.inl ⟨by rfl, ?_⟩) ?_ ?_
                rotate_left
                · intro w'
                  go_simp
                  with_reducible rfl
                rotate_left
                · simp only [Act.put, List.setIfInBounds_toArray, List.set_cons_zero, List.set_cons_succ, i64_w, i32_w]
                  rfl
                refine pure_ (i := 7) (N := some 86) (v := ?_) (a' := ?_) #[true, true, true, true, true, true, true, true, true, false, false] rfl rfl (any_of HT_.out (by kernel_rfl)) (fun _ _ _ h => h) (Or.inl ⟨by rfl, ?_⟩) ?_ ?_
                rotate_left
                · intro w'
                  go_simp
                  with_reducible rfl
                rotate_left
                · simp only [Act.put, List.setIfInBounds_toArray, List.set_cons_zero, List.set_cons_succ, i64_w, i32_w]
                  rfl
                exact norm_ (by simp only [putAll, Act.put, List.setIfInBounds_toArray, List.set_cons_zero, List.set_cons_succ]) (hCont (.slice Ao116 t249.length co116, v260, gb263) _ ⟨hHeld, (B.kr0 (Kd.R_mono HO251.out (fun _ hk => ⟨hk.2, ⟨hk.1.1.1.2, ⟨hk.1.1.2, hk.1.2⟩⟩⟩))), (B.kr0 (Kd.R_mono HO261.out (fun _ hk => ⟨hk.2, ⟨hk.1.1.1.2, ⟨hk.1.1.2, hk.1.2⟩⟩⟩))), (B.kr0 (Kd.R_mono HO_213003.out (fun _ hk => ⟨hk.1.2, ⟨hk.2, ⟨hk.1.1.1, hk.1.1.2⟩⟩⟩))), (B.kr0 (Kd.R_mono HO_220003.out (fun _ hk => ⟨hk.1.2, ⟨hk.2, ⟨hk.1.1.1, hk.1.1.2⟩⟩⟩))), (B.kr0 (Kd.R_mono HO_232003.out (fun _ hk => ⟨hk.1.2, ⟨hk.2, ⟨hk.1.1.1, hk.1.1.2⟩⟩⟩))), (B.kb BK192), (B.kb BK193), (B.kb BK212), (B.kb BK219), (B.kb BK231), (B.kb BK263), GW263.out, GE263.out, NB192_263.out, NB263_192.out, NB193_263.out, NB263_193.out, NB212_263.out, NB263_212.out, NB219_263.out, NB263_219.out, NB231_263.out, NB263_231.out, (B.bl HB)⟩)
              rintro ⟨v250, v260, gb263⟩ w118 ⟨hS_, h0_, h1_, h2_, h3_, h4_, h5_, h6_, h7_, h8_, h9_, h10_, h11_, h12_, h13_, h14_, h15_, h16_, h17_, h18_, h19_, h20_, h21_, h22_, h23_⟩
              have n0_ : Aside0 (Kd.R (Kd.int .i64) 3 w118 w.heap.size (fun k_ => some k_ ≠ (v260 : Value).ownBlock ∧ some k_ ≠ (.slice Ao32 t208.length co32 : Value).ownBlock ∧ some k_ ≠ (.slice Ao42 t241.length co42 : Value).ownBlock ∧ some k_ ≠ (.slice Ao52 t227.length co52 : Value).ownBlock) v250 t249) := ⟨h0_⟩
              have n1_ : Aside0 (Kd.R (Kd.int .i64) 3 w118 w.heap.size (fun k_ => some k_ ≠ (v250 : Value).ownBlock ∧ some k_ ≠ (.slice Ao32 t208.length co32 : Value).ownBlock ∧ some k_ ≠ (.slice Ao42 t241.length co42 : Value).ownBlock ∧ some k_ ≠ (.slice Ao52 t227.length co52 : Value).ownBlock) v260 t259) := ⟨h1_⟩
              have n2_ : Aside0 (Kd.R (Kd.int .i64) 3 w118 w.heap.size (fun k_ => some k_ ≠ (v250 : Value).ownBlock ∧ some k_ ≠ (v260 : Value).ownBlock ∧ some k_ ≠ (.slice Ao42 t241.length co42 : Value).ownBlock ∧ some k_ ≠ (.slice Ao52 t227.length co52 : Value).ownBlock) (.slice Ao32 t208.length co32) t208) := ⟨h2_⟩
              have n3_ : Aside0 (Kd.R (Kd.int .i64) 3 w118 w.heap.size (fun k_ => some k_ ≠ (v250 : Value).ownBlock ∧ some k_ ≠ (v260 : Value).ownBlock ∧ some k_ ≠ (.slice Ao32 t208.length co32 : Value).ownBlock ∧ some k_ ≠ (.slice Ao52 t227.length co52 : Value).ownBlock) (.slice Ao42 t241.length co42) t241) := ⟨h3_⟩
              have n4_ : Aside0 (Kd.R (Kd.int .i64) 3 w118 w.heap.size (fun k_ => some k_ ≠ (v250 : Value).ownBlock ∧ some k_ ≠ (v260 : Value).ownBlock ∧ some k_ ≠ (.slice Ao32 t208.length co32 : Value).ownBlock ∧ some k_ ≠ (.slice Ao42 t241.length co42 : Value).ownBlock) (.slice Ao52 t227.length co52) t244) := ⟨h4_⟩
              have n5_ : Aside0 (w118.heap[gb192]? = some (.cells #[.int .i64 a0_0, .int .i64 a0_1, .int .i64 a0_2, .slice A0_3 l0_3.length c0_3] 24 (0, 0))) := ⟨h5_⟩
              have n6_ : Aside0 (w118.heap[gb193]? = some (.cells #[.int .i64 a1_0, .int .i64 a1_1, .int .i64 a1_2, .int .i64 a1_3] 26 (0, 0))) := ⟨h6_⟩
              have n7_ : Aside0 (w118.heap[gb212]? = some (.cells #[.int .i64 t205, .int .i64 t206, .int .i64 t207, .slice Ao32 t208.length co32] 28 (0, 0))) := ⟨h7_⟩
              have n8_ : Aside0 (w118.heap[gb219]? = some (.cells #[.int .i64 t213, .int .i64 t214, .int .i64 t215, .slice Ao42 t241.length co42] 28 (0, 0))) := ⟨h8_⟩
              have n9_ : Aside0 (w118.heap[gb231]? = some (.cells #[.int .i64 t224, .int .i64 t225, .int .i64 t226, .slice Ao52 t227.length co52] 28 (0, 0))) := ⟨h9_⟩
              have n10_ : Aside0 (w118.heap[gb263]? = some (.cells #[.int .i64 0, .int .i64 0, .int .i64 0, .slice none 0 0] 28 (0, 0))) := ⟨h10_⟩
              have n11_ : Aside0 (w.heap.size ≤ gb263) := ⟨h11_⟩
              have n12_ : Aside0 (w.heap.size ≤ gb263) := ⟨h12_⟩
              have n13_ : Aside0 (gb192 ≠ gb263) := ⟨h13_⟩
              have n14_ : Aside0 (gb263 ≠ gb192) := ⟨h14_⟩
              have n15_ : Aside0 (gb193 ≠ gb263) := ⟨h15_⟩
              have n16_ : Aside0 (gb263 ≠ gb193) := ⟨h16_⟩
              have n17_ : Aside0 (gb212 ≠ gb263) := ⟨h17_⟩
              have n18_ : Aside0 (gb263 ≠ gb212) := ⟨h18_⟩
              have n19_ : Aside0 (gb219 ≠ gb263) := ⟨h19_⟩
              have n20_ : Aside0 (gb263 ≠ gb219) := ⟨h20_⟩
              have n21_ : Aside0 (gb231 ≠ gb263) := ⟨h21_⟩
              have n22_ : Aside0 (gb263 ≠ gb231) := ⟨h22_⟩
              have n23_ : Aside0 (Below w.heap.size w w118) := ⟨h23_⟩
              clear HO_213003 HO_220003 HO_232003 BK192 BK193 BK212 BK219 BK231 HB
              clear h0_ h1_ h2_ h3_ h4_ h5_ h6_ h7_ h8_ h9_ h10_ h11_ h12_ h13_ h14_ h15_ h16_ h17_ h18_ h19_ h20_ h21_ h22_ h23_
              have HO251 := n0_
              have HO261 := n1_
              have HO_213003 := n2_
              have HO_220003 := n3_
              have HO_232003 := n4_
              have BK192 := n5_
              have BK193 := n6_
              have BK212 := n7_
              have BK219 := n8_
              have BK231 := n9_
              have BK263 := n10_
              have GW263 := n11_
              have GE263 := n12_
              have NB192_263 := n13_
              have NB263_192 := n14_
              have NB193_263 := n15_
              have NB263_193 := n16_
              have NB212_263 := n17_
              have NB263_212 := n18_
              have NB219_263 := n19_
              have NB263_219 := n20_
              have NB231_263 := n21_
              have NB263_231 := n22_
              have HB := n23_
              clear n0_ n1_ n2_ n3_ n4_ n5_ n6_ n7_ n8_ n9_ n10_ n11_ n12_ n13_ n14_ n15_ n16_ n17_ n18_ n19_ n20_ n21_ n22_ n23_
              have hHeld : w118.cell? ⟨gb192, 0, none⟩ = some (.int .i64 a0_0) ∧ w118.cell? ⟨gb192, 1, none⟩ = some (.int .i64 a0_1) ∧ w118.cell? ⟨gb192, 2, none⟩ = some (.int .i64 a0_2) ∧ w118.cell? ⟨gb192, 3, none⟩ = some (.slice A0_3 l0_3.length c0_3) ∧ w118.cell? ⟨gb193, 0, none⟩ = some (.int .i64 a1_0) ∧ w118.cell? ⟨gb193, 1, none⟩ = some (.int .i64 a1_1) ∧ w118.cell? ⟨gb193, 2, none⟩ = some (.int .i64 a1_2) ∧ w118.cell? ⟨gb193, 3, none⟩ = some (.int .i64 a1_3) := hS_
              obtain ⟨Ao122, co122, eo122⟩ := Kd.R_slice HO261.out
              (first | subst eo122 | (injection eo122 with f1_ f2_ f3_; have f4_ := f1_.symm; have f5_ := f3_.symm; clear f1_ f2_ f3_; subst f4_; subst f5_))
              refine norm_ (a' := ?_) ?_ ?_
              rotate_left
              · simp only [putAll, Act.put, List.setIfInBounds_toArray, List.set_cons_zero, List.set_cons_succ]
                rfl
              refine one_ (i := 9) (N := none) #[true, true, true, true, true, true, true, true, true, true, false] rfl rfl (one_of HT_.out (by kernel_rfl)) (by decide) (fun K hK => ?_)
              have hs119 : w118.cell? ⟨gb263, 0, none⟩ = some (.int .i64 0) := B.bc BK263 0
              have hfs119 := blk_frozen BK263.out 0
              have hns119_0 := NB192_263.out
              have hns119_1 := NB193_263.out
              have hns119_2 := NB212_263.out
              have hns119_3 := NB219_263.out
              have hns119_4 := NB231_263.out
              have hms119_0 := NB263_192.out
              have hms119_1 := NB263_193.out
              have hms119_2 := NB263_212.out
              have hms119_3 := NB263_219.out
              have hms119_4 := NB263_231.out
              have hs120 : w118.cell? ⟨gb263, 1, none⟩ = some (.int .i64 0) := B.bc BK263 1
              have hfs120 := blk_frozen BK263.out 1
              have hns120_0 := NB192_263.out
              have hns120_1 := NB193_263.out
              have hns120_2 := NB212_263.out
              have hns120_3 := NB219_263.out
              have hns120_4 := NB231_263.out
              have hms120_0 := NB263_192.out
              have hms120_1 := NB263_193.out
              have hms120_2 := NB263_212.out
              have hms120_3 := NB263_219.out
              have hms120_4 := NB263_231.out
              have hs121 : w118.cell? ⟨gb263, 2, none⟩ = some (.int .i64 0) := B.bc BK263 2
              have hfs121 := blk_frozen BK263.out 2
              have hns121_0 := NB192_263.out
              have hns121_1 := NB193_263.out
              have hns121_2 := NB212_263.out
              have hns121_3 := NB219_263.out
              have hns121_4 := NB231_263.out
              have hms121_0 := NB263_192.out
              have hms121_1 := NB263_193.out
              have hms121_2 := NB263_212.out
              have hms121_3 := NB263_219.out
              have hms121_4 := NB263_231.out
              have hs123 : w118.cell? ⟨gb263, 3, none⟩ = some (.slice none 0 0) := B.bc BK263 3
              have hfs123 := blk_frozen BK263.out 3
              have hns123_0 := NB192_263.out
              have hns123_1 := NB193_263.out
              have hns123_2 := NB212_263.out
              have hns123_3 := NB219_263.out
              have hns123_4 := NB231_263.out
              have hms123_0 := NB263_192.out
              have hms123_1 := NB263_193.out
              have hms123_2 := NB263_212.out
              have hms123_3 := NB263_219.out
              have hms123_4 := NB263_231.out
              refine skip_ (w1 := ?_) (by rfl) rfl ?_ ?_
              rotate_left
              · go_simp
                rfl
              refine hK.out _ _ ⟨(B.cf4 NB192_263 hHeld.1), (B.cf4 NB192_263 hHeld.2.1), (B.cf4 NB192_263 hHeld.2.2.1), (B.cf4 NB192_263 hHeld.2.2.2.1), (B.cf4 NB193_263 hHeld.2.2.2.2.1), (B.cf4 NB193_263 hHeld.2.2.2.2.2.1), (B.cf4 NB193_263 hHeld.2.2.2.2.2.2.1), (B.cf4 NB193_263 hHeld.2.2.2.2.2.2.2)⟩ (fun hHeld => ?_)
              clear hK K
              refine pure_ (i := 10) (N := some 15) (v := ?_) (a' := ?_) #[true, true, true, true, true, true, true, true, true, true, true] rfl rfl (any_of HT_.out (by kernel_rfl)) (fun _ _ _ h => h) (Or.inl ⟨by rfl, ?_⟩) ?_ ?_
              rotate_left
              · intro w'
                go_simp
                with_reducible rfl
              rotate_left
              · simp only [Act.put, List.setIfInBounds_toArray, List.set_cons_zero, List.set_cons_succ, i64_w, i32_w]
                rfl
              refine done_ (done_of HT_.out (by kernel_rfl)) ?_
              go_upto_region 25 with (fail)
              go_cut [95] (fun v95 wc => ∃ (kq : Nat) (x95_102 : Bool), v95 = .bool x95_102 ∧ Aside0 (laws_FnExactCropImage.j2 kq t243 x95_102 t224 t225 t226 t244 = some r) ∧ Aside0 (kq ≤ kj70) ∧ Aside0 (Kd.R (Kd.int .i64) 3 wc w.heap.size (fun k_ => some k_ ≠ ((.slice Ao42 t241.length co42) : Value).ownBlock ∧ some k_ ≠ ((.slice Ao52 t227.length co52) : Value).ownBlock ∧ some k_ ≠ ((.slice Ao122 t259.length co122) : Value).ownBlock) (.slice Ao32 t208.length co32) t208) ∧ Aside0 (Kd.R (Kd.int .i64) 3 wc w.heap.size (fun k_ => some k_ ≠ ((.slice Ao32 t208.length co32) : Value).ownBlock ∧ some k_ ≠ ((.slice Ao52 t227.length co52) : Value).ownBlock ∧ some k_ ≠ ((.slice Ao122 t259.length co122) : Value).ownBlock) (.slice Ao42 t241.length co42) t241) ∧ Aside0 (Kd.R (Kd.int .i64) 3 wc w.heap.size (fun k_ => some k_ ≠ ((.slice Ao32 t208.length co32) : Value).ownBlock ∧ some k_ ≠ ((.slice Ao42 t241.length co42) : Value).ownBlock ∧ some k_ ≠ ((.slice Ao122 t259.length co122) : Value).ownBlock) (.slice Ao52 t227.length co52) t244) ∧ Aside0 (Kd.R (Kd.int .i64) 3 wc w.heap.size (fun k_ => some k_ ≠ ((.slice Ao32 t208.length co32) : Value).ownBlock ∧ some k_ ≠ ((.slice Ao42 t241.length co42) : Value).ownBlock ∧ some k_ ≠ ((.slice Ao52 t227.length co52) : Value).ownBlock) (.slice Ao122 t259.length co122) t259) ∧ Aside0 (wc.heap[gb192]? = some (.cells #[.int .i64 a0_0, .int .i64 a0_1, .int .i64 a0_2, (.slice A0_3 l0_3.length c0_3)] 24 (0, 0))) ∧ Aside0 (wc.heap[gb193]? = some (.cells #[.int .i64 a1_0, .int .i64 a1_1, .int .i64 a1_2, .int .i64 a1_3] 26 (0, 0))) ∧ Aside0 (wc.heap[gb212]? = some (.cells #[.int .i64 t205, .int .i64 t206, .int .i64 t207, (.slice Ao32 t208.length co32)] 28 (0, 0))) ∧ Aside0 (wc.heap[gb219]? = some (.cells #[.int .i64 t213, .int .i64 t214, .int .i64 t215, (.slice Ao42 t241.length co42)] 28 (0, 0))) ∧ Aside0 (wc.heap[gb231]? = some (.cells #[.int .i64 t224, .int .i64 t225, .int .i64 t226, (.slice Ao52 t227.length co52)] 28 (0, 0))) ∧ Aside0 (wc.heap[gb263]? = some (.cells #[.int .i64 t256, .int .i64 t257, .int .i64 t258, (.slice Ao122 t259.length co122)] 28 (0, 0))) ∧ Aside0 (Below w.heap.size w wc))
              case first =>
                have H := HC103.out
                clear HC103
                replace H := Option.bind_eq_some_iff.mp H
                obtain ⟨t264, A1240, H⟩ := H
                replace H : (if t264 = true then (laws_FnExactCropImage.j2 kj70 t243 (t262 != t211) t224 t225 t226 t244) else (laws_FnExactCropImage.j2 kj70 t243 true t224 t225 t226 t244)) = some r := H
                have A124 := Aside0.mk A1240
                clear A1240
                by_cases c125 : t264 = true
                · subst c125
                  have H1 : (laws_FnExactCropImage.j2 kj70 t243 (t262 != t211) t224 t225 t226 t244) = some r := by rw [if_pos rfl] at H; exact H
                  clear H
                  have H := H1
                  clear H1
                  have H' := Aside0.mk H
                  clear H
                  have hnb126 := NB263_192.out
                  have hnc126 := NB192_263.out
                  have hnb127 := NB263_193.out
                  have hnc127 := NB193_263.out
                  have hnb128 := NB263_212.out
                  have hnc128 := NB212_263.out
                  have hnb129 := NB263_219.out
                  have hnc129 := NB219_263.out
                  have hnb130 := NB263_231.out
                  have hnc130 := NB231_263.out
                  have hcz131_0 : w118.cell? ⟨gb263, 0, none⟩ = some (.int .i64 0) := B.bc BK263 0
                  have hcz131_1 : w118.cell? ⟨gb263, 1, none⟩ = some (.int .i64 0) := B.bc BK263 1
                  have hcz131_2 : w118.cell? ⟨gb263, 2, none⟩ = some (.int .i64 0) := B.bc BK263 2
                  have hcz131_3 : w118.cell? ⟨gb263, 3, none⟩ = some (.slice none 0 0) := B.bc BK263 3
                  have hfz131_0 := blk_frozen BK263.out 0
                  have hfz131_1 := blk_frozen BK263.out 1
                  have hfz131_2 := blk_frozen BK263.out 2
                  have hfz131_3 := blk_frozen BK263.out 3
                  have hnb132 := NB212_192.out
                  have hnc132 := NB192_212.out
                  have hnb133 := NB212_193.out
                  have hnc133 := NB193_212.out
                  have hnb134 := NB212_219.out
                  have hnc134 := NB219_212.out
                  have hnb135 := NB212_231.out
                  have hnc135 := NB231_212.out
                  have hcz136_0 : w118.cell? ⟨gb212, 0, none⟩ = some (.int .i64 t205) := B.bc BK212 0
                  have hcz136_1 : w118.cell? ⟨gb212, 1, none⟩ = some (.int .i64 t206) := B.bc BK212 1
                  have hcz136_2 : w118.cell? ⟨gb212, 2, none⟩ = some (.int .i64 t207) := B.bc BK212 2
                  have hcz136_3 : w118.cell? ⟨gb212, 3, none⟩ = some (.slice Ao32 t208.length co32) := B.bc BK212 3
                  have hfz136_0 := blk_frozen BK212.out 0
                  have hfz136_1 := blk_frozen BK212.out 1
                  have hfz136_2 := blk_frozen BK212.out 2
                  have hfz136_3 := blk_frozen BK212.out 3
                  go_wp2_with (first | ((with_reducible refine gate_callee (f := 13) rfl ?_); refine goesL_ (some 89) rfl rfl Try.func13 (by kernel_rfl) rfl #[.agg #[.int .i64 t256, .int .i64 t257, .int .i64 t258, .slice Ao122 t259.length co122], .agg #[.int .i64 t205, .int .i64 t206, .int .i64 t207, .slice Ao32 t208.length co32]] rfl B.am ?_; (with_reducible refine (laws_eqImage.calls kj70 t256 t257 t258 _ _ t259 t205 t206 t207 _ _ t208 true _ ?side1 ?side2 ?side3 ?side4 A124.out).mono ?_); (case side1 => refine (Kd.R_reads' (e := 3) (base := w.heap.size) (ok := fun k_ => (some k_ ≠ (v250 : Value).ownBlock ∧ (some k_ ≠ (.slice Ao32 t208.length co32 : Value).ownBlock ∧ (some k_ ≠ (.slice Ao42 t241.length co42 : Value).ownBlock ∧ some k_ ≠ (.slice Ao52 t227.length co52 : Value).ownBlock)))) (n := t259.length) (c := co122) ?_).2.2; exact (B.kr0 (B.rs4 HO261 BK263))); (case side2 => exact (Kd.R_reads' HO261.out).2.1); (case side3 => refine (Kd.R_reads' (e := 3) (base := w.heap.size) (ok := fun k_ => (some k_ ≠ (v250 : Value).ownBlock ∧ (some k_ ≠ (.slice Ao122 t259.length co122 : Value).ownBlock ∧ (some k_ ≠ (.slice Ao42 t241.length co42 : Value).ownBlock ∧ some k_ ≠ (.slice Ao52 t227.length co52 : Value).ownBlock)))) (n := t208.length) (c := co32) ?_).2.2; exact (B.kr0 (B.rs4 HO_213003 BK263))); (case side4 => exact (Kd.R_reads' HO_213003.out).2.1); rintro e w137 ⟨rfl, hb⟩; refine ⟨_, rfl, ?_⟩; have n0_ := Aside0.mk (Kd.R_below (B.kr0 (B.rs4 HO_213003 BK263)) hb); have n1_ := Aside0.mk (Kd.R_below (B.kr0 (B.rs4 HO_220003 BK263)) hb); have n2_ := Aside0.mk (Kd.R_below (B.kr0 (B.rs4 HO_232003 BK263)) hb); have n3_ := Aside0.mk (Kd.R_below (B.kr0 (B.rs4 HO251 BK263)) hb); have n4_ := Aside0.mk (Kd.R_below (B.kr0 (B.rs4 HO261 BK263)) hb); have n5_ := Aside0.mk (blk_below (B.kb0 (B.bf4 BK192 NB192_263)) hb); have n6_ := Aside0.mk (blk_below (B.kb0 (B.bf4 BK193 NB193_263)) hb); have n7_ := Aside0.mk (blk_below (B.kb0 (B.bf4 BK212 NB212_263)) hb); have n8_ := Aside0.mk (blk_below (B.kb0 (B.bf4 BK219 NB219_263)) hb); have n9_ := Aside0.mk (blk_below (B.kb0 (B.bf4 BK231 NB231_263)) hb); have n10_ := Aside0.mk (blk_below (g := gb263) (o := .cells #[.int .i64 t256, .int .i64 t257, .int .i64 t258, .slice Ao122 t259.length co122] 28 (0, 0)) (B.kb0 (B.bp4 BK263)) hb); have n11_ := Aside0.mk (below_step (B.bl HB) hb); clear HO_213003 HO_220003 HO_232003 HO251 HO261 BK192 BK193 BK212 BK219 BK231 BK263 HB; have HO_213003 := n0_; have HO_220003 := n1_; have HO_232003 := n2_; have HO251 := n3_; have HO261 := n4_; have BK192 := n5_; have BK193 := n6_; have BK212 := n7_; have BK219 := n8_; have BK231 := n9_; have BK263 := n10_; have HB := n11_; clear n0_ n1_ n2_ n3_ n4_ n5_ n6_ n7_ n8_ n9_ n10_ n11_; (try clear hb); (try clear hb2); (try clear hk); (try clear hi)))
                  go_meet
                  case rel => exact ⟨_, ((t262 != t211)), (by first | rfl | (simp; done) | (simp [*]; done)), H', ⟨by have := HJ15.out; have := HJ70.out; first | omega | exact Nat.le_refl _⟩, ⟨by (try simp only [hl220003_70]); (with_reducible repeat (first | apply Kd.R_alloc | apply Kd.R_drewN | apply Kd.R_drew)); exact Kd.R_mono HO_213003.out (fun _ hk => ⟨hk.2.2.1, ⟨hk.2.2.2, hk.2.1⟩⟩)⟩, ⟨by (try simp only [hl220003_70]); (with_reducible repeat (first | apply Kd.R_alloc | apply Kd.R_drewN | apply Kd.R_drew)); exact Kd.R_mono HO_220003.out (fun _ hk => ⟨hk.2.2.1, ⟨hk.2.2.2, hk.2.1⟩⟩)⟩, ⟨by (try simp only [hl220003_70]); (with_reducible repeat (first | apply Kd.R_alloc | apply Kd.R_drewN | apply Kd.R_drew)); exact Kd.R_mono HO_232003.out (fun _ hk => ⟨hk.2.2.1, ⟨hk.2.2.2, hk.2.1⟩⟩)⟩, ⟨by (try simp only [hl220003_70]); (with_reducible repeat (first | apply Kd.R_alloc | apply Kd.R_drewN | apply Kd.R_drew)); exact Kd.R_mono HO261.out (fun _ hk => ⟨hk.2.1, ⟨hk.2.2.1, hk.2.2.2⟩⟩)⟩, ⟨by (try simp only [hl220003_70]); (with_reducible repeat (first | refine blk_drewN ?_ _ | refine blk_drew ?_ | refine blk_alloc ?_ _)); exact BK192.out⟩, ⟨by (try simp only [hl220003_70]); (with_reducible repeat (first | refine blk_drewN ?_ _ | refine blk_drew ?_ | refine blk_alloc ?_ _)); exact BK193.out⟩, ⟨by (try simp only [hl220003_70]); (with_reducible repeat (first | refine blk_drewN ?_ _ | refine blk_drew ?_ | refine blk_alloc ?_ _)); exact BK212.out⟩, ⟨by (try simp only [hl220003_70]); (with_reducible repeat (first | refine blk_drewN ?_ _ | refine blk_drew ?_ | refine blk_alloc ?_ _)); exact BK219.out⟩, ⟨by (try simp only [hl220003_70]); (with_reducible repeat (first | refine blk_drewN ?_ _ | refine blk_drew ?_ | refine blk_alloc ?_ _)); exact BK231.out⟩, ⟨by (try simp only [hl220003_70]); (with_reducible repeat (first | refine blk_drewN ?_ _ | refine blk_drew ?_ | refine blk_alloc ?_ _)); exact BK263.out⟩, ⟨B.bl HB⟩⟩
                replace c125 := Bool.eq_false_iff.mpr c125
                subst c125
                have H1 : (laws_FnExactCropImage.j2 kj70 t243 true t224 t225 t226 t244) = some r := by rw [if_neg (show ¬ (false = true) by decide)] at H; exact H
                clear H
                have H := H1
                clear H1
                exact absurd ht_.out (by revert H; cases kj70 <;> intro H <;> simp [laws_FnExactCropImage.j2] at H <;> (first | (subst H; decide) | simp [← H] | simp [H]))
              case rest =>
                clear HC103
                try clear c1
                try clear p2
                try clear c10
                try clear c11
                try clear c12
                try clear c13
                try clear c125
                try clear c126
                try clear c127
                try clear c128
                try clear c129
                try clear c130
                try clear c132
                try clear c133
                try clear c134
                try clear c135
                try clear hcz131_0
                try clear hcz131_1
                try clear hcz131_2
                try clear hcz131_3
                try clear hcz136_0
                try clear hcz136_1
                try clear hcz136_2
                try clear hcz136_3
                try clear hfz131_0
                try clear hfz131_1
                try clear hfz131_2
                try clear hfz131_3
                try clear hfz136_0
                try clear hfz136_1
                try clear hfz136_2
                try clear hfz136_3
                obtain ⟨kq, x95_102, rfl, HA, HJ102, HO_213003, HO_220003, HO_232003, HO_264003, BK192, BK193, BK212, BK219, BK231, BK263, HB⟩ := hcut
                have hl232003_102 := (Kd.R_reads' HO_232003.out).1
                rw [hl232003_102] at HO_232003
                (try simp only [hl232003_102])
                (try simp only [hl232003_102] at BK192)
                (try simp only [hl232003_102] at BK193)
                (try simp only [hl232003_102] at BK212)
                (try simp only [hl232003_102] at BK219)
                (try simp only [hl232003_102] at BK231)
                (try simp only [hl232003_102] at BK263)
                (try simp only [hl232003_102] at HO_213003)
                (try simp only [hl232003_102] at HO_220003)
                (try simp only [hl232003_102] at HO_264003)
                cases kq with
                | zero => exact absurd HA.out (by simp [laws_FnExactCropImage.j2])
                | succ kj102 =>
                  have H := HA.out
                  clear HA
                  simp only [laws_FnExactCropImage.j2] at H
                  by_cases c138 : x95_102 = true
                  · subst c138
                    have H1 : (some false) = some r := by rw [if_pos rfl] at H; exact H
                    clear H
                    have H := H1
                    clear H1
                    obtain rfl := Option.some.inj H
                    exact absurd ht_.out (by decide)
                  replace c138 := Bool.eq_false_iff.mpr c138
                  subst c138
                  have H1 : ((laws_heldImage.f kj102 t224 t225 t226 t244 1).bind fun t265 => (if t265 < 0 then (some false) else (if t265 = t243 then (some true) else (some false)))) = some r := by rw [if_neg (show ¬ (false = true) by decide)] at H; exact H
                  clear H
                  have H := H1
                  clear H1
                  replace H := Option.bind_eq_some_iff.mp H
                  obtain ⟨t265, A1390, H⟩ := H
                  replace H : (if t265 < 0 then (some false) else (if t265 = t243 then (some true) else (some false))) = some r := H
                  have A139 := Aside0.mk A1390
                  clear A1390
                  by_cases c140 : t265 < 0
                  · rw [if_pos c140] at H
                    have c140b0 : decide (t265 < 0) = true := decide_eq_true c140
                    clear c140
                    obtain rfl := Option.some.inj H
                    exact absurd ht_.out (by decide)
                  rw [if_neg c140] at H
                  have c140b0 : decide (t265 < 0) = false := decide_eq_false c140
                  clear c140
                  by_cases c141 : t265 = t243
                  · rw [if_pos c141] at H
                    have c141b0 : (t265 == t243) = true := beq_iff_eq.mpr c141
                    have c141b1 : (t265 != t243) = false := bne_eq_false_iff_eq.mpr c141
                    clear c141
                    obtain rfl := Option.some.inj H
                    simp only [Option.some.injEq, Prod.mk.injEq] at H
                    obtain ⟨rfl⟩ := H
                    have hnb142 := NB231_192.out
                    have hnc142 := NB192_231.out
                    have hnb143 := NB231_193.out
                    have hnc143 := NB193_231.out
                    have hnb144 := NB231_212.out
                    have hnc144 := NB212_231.out
                    have hnb145 := NB231_219.out
                    have hnc145 := NB219_231.out
                    have hnb146 := NB231_263.out
                    have hnc146 := NB263_231.out
                    have hcz147_0 : wc.cell? ⟨gb231, 0, none⟩ = some (.int .i64 t224) := B.bc BK231 0
                    have hcz147_1 : wc.cell? ⟨gb231, 1, none⟩ = some (.int .i64 t225) := B.bc BK231 1
                    have hcz147_2 : wc.cell? ⟨gb231, 2, none⟩ = some (.int .i64 t226) := B.bc BK231 2
                    have hcz147_3 : wc.cell? ⟨gb231, 3, none⟩ = some (.slice Ao52 t244.length co52) := B.bc BK231 3
                    have hfz147_0 := blk_frozen BK231.out 0
                    have hfz147_1 := blk_frozen BK231.out 1
                    have hfz147_2 := blk_frozen BK231.out 2
                    have hfz147_3 := blk_frozen BK231.out 3
                    go_wp2_with (first | ((with_reducible refine gate_callee (f := 15) rfl ?_); refine goesL_ (some 98) rfl rfl Try.func15 (by kernel_rfl) rfl #[.agg #[.int .i64 t224, .int .i64 t225, .int .i64 t226, .slice Ao52 t244.length co52], .int .i64 1] rfl B.am ?_; (with_reducible refine (laws_heldImage.calls kj102 t224 t225 t226 _ _ t244 1 t265 _ ?side1 ?side2 A139.out).mono ?_); (case side1 => exact B.kc ((Kd.R_reads' HO_232003.out).2.2)); (case side2 => exact (Kd.R_reads' HO_232003.out).2.1); rintro e w148 ⟨rfl, hb⟩; refine ⟨_, rfl, ?_⟩; have n0_ := Aside0.mk (Kd.R_below (B.kr HO_213003) hb); have n1_ := Aside0.mk (Kd.R_below (B.kr HO_220003) hb); have n2_ := Aside0.mk (Kd.R_below (B.kr HO_232003) hb); have n3_ := Aside0.mk (Kd.R_below (B.kr HO_264003) hb); have n4_ := Aside0.mk (blk_below (B.kb BK192) hb); have n5_ := Aside0.mk (blk_below (B.kb BK193) hb); have n6_ := Aside0.mk (blk_below (B.kb BK212) hb); have n7_ := Aside0.mk (blk_below (B.kb BK219) hb); have n8_ := Aside0.mk (blk_below (B.kb BK231) hb); have n9_ := Aside0.mk (blk_below (B.kb BK263) hb); have n10_ := Aside0.mk (below_step (B.bl HB) hb); clear HO_213003 HO_220003 HO_232003 HO_264003 BK192 BK193 BK212 BK219 BK231 BK263 HB; have HO_213003 := n0_; have HO_220003 := n1_; have HO_232003 := n2_; have HO_264003 := n3_; have BK192 := n4_; have BK193 := n5_; have BK212 := n6_; have BK219 := n7_; have BK231 := n8_; have BK263 := n9_; have HB := n10_; clear n0_ n1_ n2_ n3_ n4_ n5_ n6_ n7_ n8_ n9_ n10_; (try clear hb); (try clear hb2); (try clear hk); (try clear hi)))
                    go_ret
                    exact ⟨by first | rfl | (simp [errW_none, errW_some] <;> rfl) | (simp [*, errW_none, errW_some] <;> rfl), B.bl HB⟩
                  rw [if_neg c141] at H
                  have c141b0 : (t265 == t243) = false := beq_eq_false_iff_ne.mpr c141
                  have c141b1 : (t265 != t243) = true := bne_iff_ne.mpr c141
                  obtain rfl := Option.some.inj H
                  exact absurd ht_.out (by decide)
            rw [if_neg c99] at H
            have c99b0 : (t245 == t243) = false := beq_eq_false_iff_ne.mpr c99
            have c99b1 : (t245 != t243) = true := bne_iff_ne.mpr c99
            obtain rfl := Option.some.inj H
            exact absurd ht_.out (by decide)
      replace c69 := Bool.eq_false_iff.mpr c69
      subst c69
      have H1 : (some false) = some r := by rw [if_neg (show ¬ (false = true) by decide)] at H; exact H
      clear H
      have H := H1
      clear H1
      obtain rfl := Option.some.inj H
      exact absurd ht_.out (by decide)

end Go.Proofs.Ytmljcnhecjlinaa.Q
