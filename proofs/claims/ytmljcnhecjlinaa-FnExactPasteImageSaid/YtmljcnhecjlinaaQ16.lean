-- Written by a program of this session (the kit's printer, with hand-proved contracts for the functions that it does not take).
import Derived.Test.YtmljcnhecjlinaaQ0
import Derived.Test.YtmljcnhecjlinaaQ7
import Derived.Test.YtmljcnhecjlinaaQ10
import Derived.Test.YtmljcnhecjlinaaQ11
namespace Go.Proofs.Ytmljcnhecjlinaa.Q
open Go.RowKit Go.Proofs.YtmljcnhecjlinaaW.PrintWords Go.Proofs.YtmljcnhecjlinaaW.PrintLast Go.Proofs.YtmljcnhecjlinaaW.PrintMore
attribute [local go_sem] max2_int min2_int max_two min_two max_three min_three max_four min_four   -- for this text's walks alone
set_option linter.unusedVariables false
set_option linter.unusedSimpArgs false

/-! ### laws_FnExactPasteImage: function 6 -/
mutual
def laws_FnExactPasteImage.j0 : Nat → Int → Int → Bool → Bool → Bool → Int → Int → Int → List Int → Int → Int → Int → List Int → Int → Int → Int → List Int → Int → Int → Int → List Int → Int → Int → Int → List Int → Int → Int → Int → List Int → Option (Bool)
  | 0, _, _, _, _, _, _, _, _, _, _, _, _, _, _, _, _, _, _, _, _, _, _, _, _, _, _, _, _, _ => none
  | k + 1, x1, x2, x11, x15, x61, x520000, x520001, x520002, x520003, x521000, x521001, x521002, x521003, x543000, x543001, x543002, x543003, x550000, x550001, x550002, x550003, x557000, x557001, x557002, x557003, x565000, x565001, x565002, x565003 => if x61 = true then (some false) else ((laws_toImage.f k x520000 x520001 x520002 x520003).bind fun bt566 => ((laws_eqImage.f k x550000 x550001 x550002 x550003 bt566.1 bt566.2.1 bt566.2.2.1 bt566.2.2.2).bind fun t572 => (if t572 = true then ((laws_toImage.f k x521000 x521001 x521002 x521003).bind fun bt573 => ((laws_eqImage.f k x557000 x557001 x557002 x557003 bt573.1 bt573.2.1 bt573.2.2.1 bt573.2.2.2).bind fun t579 => (if t579 = true then ((laws_markImage.f k x550000 x550001 x550002 x550003 1).bind fun bt580 => ((laws_markImage.f k x557000 x557001 x557002 x557003 bt580.1).bind fun bt582 => (if bt582.1 < 0 then (laws_FnExactPasteImage.j1 k x1 x2 x11 true x520000 x520001 x520002 x520003 x521000 x521001 x521002 x521003 x543000 x543001 x543002 x543003 x565000 x565001 x565002 x565003) else ((laws_eqImage.f k x565000 x565001 x565002 x565003 x543000 x543001 x543002 x543003).bind fun t584 => (if t584 = true then (laws_FnExactPasteImage.j1 k x1 x2 x11 (x15 != x11) x520000 x520001 x520002 x520003 x521000 x521001 x521002 x521003 x543000 x543001 x543002 x543003 x565000 x565001 x565002 x565003) else (laws_FnExactPasteImage.j1 k x1 x2 x11 true x520000 x520001 x520002 x520003 x521000 x521001 x521002 x521003 x543000 x543001 x543002 x543003 x565000 x565001 x565002 x565003)))))) else (some false)))) else (some false))))
def laws_FnExactPasteImage.j1 : Nat → Int → Int → Bool → Bool → Int → Int → Int → List Int → Int → Int → Int → List Int → Int → Int → Int → List Int → Int → Int → Int → List Int → Option (Bool)
  | 0, _, _, _, _, _, _, _, _, _, _, _, _, _, _, _, _, _, _, _, _ => none
  | k + 1, x1, x2, x11, x90, x520000, x520001, x520002, x520003, x521000, x521001, x521002, x521003, x543000, x543001, x543002, x543003, x565000, x565001, x565002, x565003 => if x90 = true then (some false) else ((laws_markImage.f k x565000 x565001 x565002 x565003 1).bind fun bt585 => ((laws_heldImage.f k x565000 x565001 x565002 bt585.2 1).bind fun t587 => (if t587 < 0 then (some false) else (if t587 = bt585.1 then ((laws_toImage.f k x520000 x520001 x520002 x520003).bind fun bt588 => ((laws_toImage.f k x521000 x521001 x521002 x521003).bind fun bt594 => ((impl_PasteImage.f bt588.1 bt588.2.1 bt588.2.2.1 bt588.2.2.2 x1 x2 bt594.1 bt594.2.1 bt594.2.2.1 bt594.2.2.2).bind fun bt600 => ((laws_eqImage.f k bt600.1 bt600.2.1 bt600.2.2.1 bt600.2.2.2.1 x543000 x543001 x543002 x543003).bind fun t608 => (if t608 = true then (laws_FnExactPasteImage.j2 k bt585.1 (bt600.2.2.2.2 != x11) x565000 x565001 x565002 bt585.2) else (laws_FnExactPasteImage.j2 k bt585.1 true x565000 x565001 x565002 bt585.2)))))) else (some false)))))
def laws_FnExactPasteImage.j2 : Nat → Int → Bool → Int → Int → Int → List Int → Option (Bool)
  | 0, _, _, _, _, _, _ => none
  | k + 1, x17, x120, x565000, x565001, x565002, x565003 => if x120 = true then (some false) else ((laws_heldImage.f k x565000 x565001 x565002 x565003 1).bind fun t609 => (if t609 < 0 then (some false) else (if t609 = x17 then (some true) else (some false))))
end
def laws_FnExactPasteImage.f (k : Nat) (a0_0 : Int) (a0_1 : Int) (a0_2 : Int) (l0_3 : List Int) (a1 : Int) (a2 : Int) (a3_0 : Int) (a3_1 : Int) (a3_2 : Int) (l3_3 : List Int) : Option (Bool) := (laws_szImage.f a0_0 a0_1 a0_2 l0_3 1048576).bind fun t521 => (if t521 < 0 then (some true) else ((laws_szImage.f a3_0 a3_1 a3_2 l3_3 t521).bind fun t522 => (if t522 < 0 then (some true) else ((laws_toImage.f k a0_0 a0_1 a0_2 l0_3).bind fun bt523 => ((laws_toImage.f k a3_0 a3_1 a3_2 l3_3).bind fun bt529 => ((spec_PasteImage.f k bt523.1 bt523.2.1 bt523.2.2.1 bt523.2.2.2 a1 a2 bt529.1 bt529.2.1 bt529.2.2.1 bt529.2.2.2).bind fun bt535 => ((laws_toImage.f k a0_0 a0_1 a0_2 l0_3).bind fun bt543 => ((laws_toImage.f k a3_0 a3_1 a3_2 l3_3).bind fun bt550 => ((impl_PasteImage.f bt543.1 bt543.2.1 bt543.2.2.1 bt543.2.2.2 a1 a2 bt550.1 bt550.2.1 bt550.2.2.1 bt550.2.2.2).bind fun bt557 => ((laws_eqImage.f k bt557.1 bt557.2.1 bt557.2.2.1 bt557.2.2.2.1 bt535.1 bt535.2.1 bt535.2.2.1 bt535.2.2.2.1).bind fun t565 => (if t565 = true then (laws_FnExactPasteImage.j0 k a1 a2 bt535.2.2.2.2 bt557.2.2.2.2 (bt557.2.2.2.2 != bt535.2.2.2.2) a0_0 a0_1 a0_2 l0_3 a3_0 a3_1 a3_2 l3_3 bt535.1 bt535.2.1 bt535.2.2.1 bt535.2.2.2.1 bt543.1 bt543.2.1 bt543.2.2.1 bt543.2.2.2 bt550.1 bt550.2.1 bt550.2.2.1 bt550.2.2.2 bt557.1 bt557.2.1 bt557.2.2.1 bt557.2.2.2.1) else (laws_FnExactPasteImage.j0 k a1 a2 bt535.2.2.2.2 bt557.2.2.2.2 true a0_0 a0_1 a0_2 l0_3 a3_0 a3_1 a3_2 l3_3 bt535.1 bt535.2.1 bt535.2.2.1 bt535.2.2.2.1 bt543.1 bt543.2.1 bt543.2.2.1 bt543.2.2.2 bt550.1 bt550.2.1 bt550.2.2.1 bt550.2.2.2 bt557.1 bt557.2.1 bt557.2.2.1 bt557.2.2.2.1))))))))))))
theorem laws_FnExactPasteImage.mono_l : ∀ k, (∀ y0 y1 y2 y3 y4 y5 y6 y7 y8 y9 y10 y11 y12 y13 y14 y15 y16 y17 y18 y19 y20 y21 y22 y23 y24 y25 y26 y27 y28, LeO (laws_FnExactPasteImage.j0 k y0 y1 y2 y3 y4 y5 y6 y7 y8 y9 y10 y11 y12 y13 y14 y15 y16 y17 y18 y19 y20 y21 y22 y23 y24 y25 y26 y27 y28) (laws_FnExactPasteImage.j0 (k + 1) y0 y1 y2 y3 y4 y5 y6 y7 y8 y9 y10 y11 y12 y13 y14 y15 y16 y17 y18 y19 y20 y21 y22 y23 y24 y25 y26 y27 y28)) ∧ (∀ y0 y1 y2 y3 y4 y5 y6 y7 y8 y9 y10 y11 y12 y13 y14 y15 y16 y17 y18 y19, LeO (laws_FnExactPasteImage.j1 k y0 y1 y2 y3 y4 y5 y6 y7 y8 y9 y10 y11 y12 y13 y14 y15 y16 y17 y18 y19) (laws_FnExactPasteImage.j1 (k + 1) y0 y1 y2 y3 y4 y5 y6 y7 y8 y9 y10 y11 y12 y13 y14 y15 y16 y17 y18 y19)) ∧ (∀ y0 y1 y2 y3 y4 y5, LeO (laws_FnExactPasteImage.j2 k y0 y1 y2 y3 y4 y5) (laws_FnExactPasteImage.j2 (k + 1) y0 y1 y2 y3 y4 y5))
  | 0 => ⟨fun _ _ _ _ _ _ _ _ _ _ _ _ _ _ _ _ _ _ _ _ _ _ _ _ _ _ _ _ _ r h => by simp [laws_FnExactPasteImage.j0] at h, fun _ _ _ _ _ _ _ _ _ _ _ _ _ _ _ _ _ _ _ _ r h => by simp [laws_FnExactPasteImage.j1] at h, fun _ _ _ _ _ _ r h => by simp [laws_FnExactPasteImage.j2] at h⟩
  | k + 1 => by
    obtain ⟨ih0, ih1, ih2⟩ := laws_FnExactPasteImage.mono_l k
    refine ⟨?_, ?_, ?_⟩
    · intro y0 y1 y2 y3 y4 y5 y6 y7 y8 y9 y10 y11 y12 y13 y14 y15 y16 y17 y18 y19 y20 y21 y22 y23 y24 y25 y26 y27 y28
      unfold laws_FnExactPasteImage.j0
      repeat' first
      | (with_reducible exact ih0 _ _ _ _ _ _ _ _ _ _ _ _ _ _ _ _ _ _ _ _ _ _ _ _ _ _ _ _ _)
      | (with_reducible exact ih1 _ _ _ _ _ _ _ _ _ _ _ _ _ _ _ _ _ _ _ _)
      | (with_reducible exact ih2 _ _ _ _ _ _)
      | (with_reducible exact laws_eqImage.mono _ _ _ _ _ _ _ _ _)
      | (with_reducible exact laws_heldImage.mono _ _ _ _ _ _)
      | (with_reducible exact laws_markImage.mono _ _ _ _ _ _)
      | (with_reducible exact laws_toImage.mono _ _ _ _ _)
      | (with_reducible exact spec_PasteImage.mono _ _ _ _ _ _ _ _ _ _ _)
      | (with_reducible exact LeO.refl _)
      | (with_reducible exact LeO.none _)
      | (with_reducible refine LeO.ite ?_ ?_)
      | (with_reducible refine LeO.bind ?_ (fun _ => ?_))
      | exact ih0 _ _ _ _ _ _ _ _ _ _ _ _ _ _ _ _ _ _ _ _ _ _ _ _ _ _ _ _ _
      | exact ih1 _ _ _ _ _ _ _ _ _ _ _ _ _ _ _ _ _ _ _ _
      | exact ih2 _ _ _ _ _ _
      | exact laws_eqImage.mono _ _ _ _ _ _ _ _ _
      | exact laws_heldImage.mono _ _ _ _ _ _
      | exact laws_markImage.mono _ _ _ _ _ _
      | exact laws_toImage.mono _ _ _ _ _
      | exact spec_PasteImage.mono _ _ _ _ _ _ _ _ _ _ _
      | exact LeO.none _
      | refine LeO.ite ?_ ?_
      | refine LeO.bind ?_ (fun _ => ?_)
    · intro y0 y1 y2 y3 y4 y5 y6 y7 y8 y9 y10 y11 y12 y13 y14 y15 y16 y17 y18 y19
      unfold laws_FnExactPasteImage.j1
      repeat' first
      | (with_reducible exact ih0 _ _ _ _ _ _ _ _ _ _ _ _ _ _ _ _ _ _ _ _ _ _ _ _ _ _ _ _ _)
      | (with_reducible exact ih1 _ _ _ _ _ _ _ _ _ _ _ _ _ _ _ _ _ _ _ _)
      | (with_reducible exact ih2 _ _ _ _ _ _)
      | (with_reducible exact laws_eqImage.mono _ _ _ _ _ _ _ _ _)
      | (with_reducible exact laws_heldImage.mono _ _ _ _ _ _)
      | (with_reducible exact laws_markImage.mono _ _ _ _ _ _)
      | (with_reducible exact laws_toImage.mono _ _ _ _ _)
      | (with_reducible exact spec_PasteImage.mono _ _ _ _ _ _ _ _ _ _ _)
      | (with_reducible exact LeO.refl _)
      | (with_reducible exact LeO.none _)
      | (with_reducible refine LeO.ite ?_ ?_)
      | (with_reducible refine LeO.bind ?_ (fun _ => ?_))
      | exact ih0 _ _ _ _ _ _ _ _ _ _ _ _ _ _ _ _ _ _ _ _ _ _ _ _ _ _ _ _ _
      | exact ih1 _ _ _ _ _ _ _ _ _ _ _ _ _ _ _ _ _ _ _ _
      | exact ih2 _ _ _ _ _ _
      | exact laws_eqImage.mono _ _ _ _ _ _ _ _ _
      | exact laws_heldImage.mono _ _ _ _ _ _
      | exact laws_markImage.mono _ _ _ _ _ _
      | exact laws_toImage.mono _ _ _ _ _
      | exact spec_PasteImage.mono _ _ _ _ _ _ _ _ _ _ _
      | exact LeO.none _
      | refine LeO.ite ?_ ?_
      | refine LeO.bind ?_ (fun _ => ?_)
    intro y0 y1 y2 y3 y4 y5
    unfold laws_FnExactPasteImage.j2
    repeat' first
    | (with_reducible exact ih0 _ _ _ _ _ _ _ _ _ _ _ _ _ _ _ _ _ _ _ _ _ _ _ _ _ _ _ _ _)
    | (with_reducible exact ih1 _ _ _ _ _ _ _ _ _ _ _ _ _ _ _ _ _ _ _ _)
    | (with_reducible exact ih2 _ _ _ _ _ _)
    | (with_reducible exact laws_eqImage.mono _ _ _ _ _ _ _ _ _)
    | (with_reducible exact laws_heldImage.mono _ _ _ _ _ _)
    | (with_reducible exact laws_markImage.mono _ _ _ _ _ _)
    | (with_reducible exact laws_toImage.mono _ _ _ _ _)
    | (with_reducible exact spec_PasteImage.mono _ _ _ _ _ _ _ _ _ _ _)
    | (with_reducible exact LeO.refl _)
    | (with_reducible exact LeO.none _)
    | (with_reducible refine LeO.ite ?_ ?_)
    | (with_reducible refine LeO.bind ?_ (fun _ => ?_))
    | exact ih0 _ _ _ _ _ _ _ _ _ _ _ _ _ _ _ _ _ _ _ _ _ _ _ _ _ _ _ _ _
    | exact ih1 _ _ _ _ _ _ _ _ _ _ _ _ _ _ _ _ _ _ _ _
    | exact ih2 _ _ _ _ _ _
    | exact laws_eqImage.mono _ _ _ _ _ _ _ _ _
    | exact laws_heldImage.mono _ _ _ _ _ _
    | exact laws_markImage.mono _ _ _ _ _ _
    | exact laws_toImage.mono _ _ _ _ _
    | exact spec_PasteImage.mono _ _ _ _ _ _ _ _ _ _ _
    | exact LeO.none _
    | refine LeO.ite ?_ ?_
    | refine LeO.bind ?_ (fun _ => ?_)
theorem laws_FnExactPasteImage.mono : ∀ a0 a1 a2 a3 a4 a5 a6 a7 a8 a9 k, LeO (laws_FnExactPasteImage.f k a0 a1 a2 a3 a4 a5 a6 a7 a8 a9) (laws_FnExactPasteImage.f (k + 1) a0 a1 a2 a3 a4 a5 a6 a7 a8 a9) := by
  intro a0 a1 a2 a3 a4 a5 a6 a7 a8 a9 k
  obtain ⟨ih0, ih1, ih2⟩ := laws_FnExactPasteImage.mono_l k
  unfold laws_FnExactPasteImage.f
  repeat' first
      | (with_reducible exact ih0 _ _ _ _ _ _ _ _ _ _ _ _ _ _ _ _ _ _ _ _ _ _ _ _ _ _ _ _ _)
      | (with_reducible exact ih1 _ _ _ _ _ _ _ _ _ _ _ _ _ _ _ _ _ _ _ _)
      | (with_reducible exact ih2 _ _ _ _ _ _)
      | (with_reducible exact laws_eqImage.mono _ _ _ _ _ _ _ _ _)
      | (with_reducible exact laws_heldImage.mono _ _ _ _ _ _)
      | (with_reducible exact laws_markImage.mono _ _ _ _ _ _)
      | (with_reducible exact laws_toImage.mono _ _ _ _ _)
      | (with_reducible exact spec_PasteImage.mono _ _ _ _ _ _ _ _ _ _ _)
      | (with_reducible exact LeO.refl _)
      | (with_reducible exact LeO.none _)
      | (with_reducible refine LeO.ite ?_ ?_)
      | (with_reducible refine LeO.bind ?_ (fun _ => ?_))
      | exact ih0 _ _ _ _ _ _ _ _ _ _ _ _ _ _ _ _ _ _ _ _ _ _ _ _ _ _ _ _ _
      | exact ih1 _ _ _ _ _ _ _ _ _ _ _ _ _ _ _ _ _ _ _ _
      | exact ih2 _ _ _ _ _ _
      | exact laws_eqImage.mono _ _ _ _ _ _ _ _ _
      | exact laws_heldImage.mono _ _ _ _ _ _
      | exact laws_markImage.mono _ _ _ _ _ _
      | exact laws_toImage.mono _ _ _ _ _
      | exact spec_PasteImage.mono _ _ _ _ _ _ _ _ _ _ _
      | exact LeO.none _
      | refine LeO.ite ?_ ?_
      | refine LeO.bind ?_ (fun _ => ?_)
def laws_FnExactPasteImage.T8 : Bool × List (List Nat × List Nat) := (true, [([], []), ([0], [0]), ([], []), ([], []), ([], []), ([4, 1], [4]), ([1, 2, 3, 5, 5], [1, 2, 3, 5]), ([6], [6]), ([7], [7]), ([7], [7]), ([], []), ([10, 8, 6, 0, 1, 2, 3, 4, 5, 6, 7, 8, 10], [8, 10]), ([9, 11, 0, 1, 2, 3, 4, 5, 6, 7, 8, 9, 10, 11], [9])])
def laws_FnExactPasteImage.B8 : List Nat := [0, 1, 0, 0, 0, 19, 63, 127, 255, 255, 0, 1535, 4095]
theorem laws_FnExactPasteImage.tab8 : rtab .any (opsOf Try.f6 8) = laws_FnExactPasteImage.T8 := by kernel_rfl
theorem laws_FnExactPasteImage.bits8 : waitsOk laws_FnExactPasteImage.T8.2 laws_FnExactPasteImage.B8 = true := by kernel_rfl
def laws_FnExactPasteImage.T31 : Bool × List (List Nat × List Nat) := (true, [([], []), ([0], [0]), ([], []), ([], []), ([], []), ([4, 1], [4]), ([1, 2, 3, 5, 5], [1, 2, 3, 5]), ([6], [6]), ([7], [7]), ([7], [7]), ([], []), ([10, 8, 6, 0, 1, 2, 3, 4, 5, 6, 7, 8, 10], [8, 10]), ([9, 11, 0, 1, 2, 3, 4, 5, 6, 7, 8, 9, 10, 11], [9])])
def laws_FnExactPasteImage.B31 : List Nat := [0, 1, 0, 0, 0, 19, 63, 127, 255, 255, 0, 1535, 4095]
theorem laws_FnExactPasteImage.tab31 : rtab .any (opsOf Try.f6 31) = laws_FnExactPasteImage.T31 := by kernel_rfl
theorem laws_FnExactPasteImage.bits31 : waitsOk laws_FnExactPasteImage.T31.2 laws_FnExactPasteImage.B31 = true := by kernel_rfl
set_option maxHeartbeats 8000000 in
set_option maxRecDepth 100000 in
theorem laws_FnExactPasteImage.calls (k : Nat) (a0_0 : Int) (a0_1 : Int) (a0_2 : Int) (A0_3 : Option Addr) (c0_3 : Nat) (l0_3 : List Int) (a1 : Int) (a2 : Int) (a3_0 : Int) (a3_1 : Int) (a3_2 : Int) (A3_3 : Option Addr) (c3_3 : Nat) (l3_3 : List Int) (r : Bool) (w : World) (hr0_3 : Kd.C (Kd.int .i64) w A0_3 l0_3.length l0_3) (hc0_3 : l0_3.length ≤ c0_3) (hr3_3 : Kd.C (Kd.int .i64) w A3_3 l3_3.length l3_3) (hc3_3 : l3_3.length ≤ c3_3) (h : laws_FnExactPasteImage.f k a0_0 a0_1 a0_2 l0_3 a1 a2 a3_0 a3_1 a3_2 l3_3 = some r) (ht_ : Aside0 (r = true)) :
    Calls Try.prog 6 #[.agg #[.int .i64 a0_0, .int .i64 a0_1, .int .i64 a0_2, .slice A0_3 l0_3.length c0_3], .int .i64 a1, .int .i64 a2, .agg #[.int .i64 a3_0, .int .i64 a3_1, .int .i64 a3_2, .slice A3_3 l3_3.length c3_3]] w fun e w' => e = .returned (.bool r) ∧ Below w.heap.size w w' := by
  have hu24 := Try.underlying24
  have hu28 := Try.underlying28
  have HR0_3 := Aside0.mk hr0_3
  have HC0_3 := Aside0.mk hc0_3
  clear hr0_3 hc0_3
  have HR3_3 := Aside0.mk hr3_3
  have HC3_3 := Aside0.mk hc3_3
  clear hr3_3 hc3_3
  have HB := Aside0.mk (Below.refl w.heap.size w)
  have H : ((laws_szImage.f a0_0 a0_1 a0_2 l0_3 1048576).bind fun t521 => (if t521 < 0 then (some true) else ((laws_szImage.f a3_0 a3_1 a3_2 l3_3 t521).bind fun t522 => (if t522 < 0 then (some true) else ((laws_toImage.f k a0_0 a0_1 a0_2 l0_3).bind fun bt523 => ((laws_toImage.f k a3_0 a3_1 a3_2 l3_3).bind fun bt529 => ((spec_PasteImage.f k bt523.1 bt523.2.1 bt523.2.2.1 bt523.2.2.2 a1 a2 bt529.1 bt529.2.1 bt529.2.2.1 bt529.2.2.2).bind fun bt535 => ((laws_toImage.f k a0_0 a0_1 a0_2 l0_3).bind fun bt543 => ((laws_toImage.f k a3_0 a3_1 a3_2 l3_3).bind fun bt550 => ((impl_PasteImage.f bt543.1 bt543.2.1 bt543.2.2.1 bt543.2.2.2 a1 a2 bt550.1 bt550.2.1 bt550.2.2.1 bt550.2.2.2).bind fun bt557 => ((laws_eqImage.f k bt557.1 bt557.2.1 bt557.2.2.1 bt557.2.2.2.1 bt535.1 bt535.2.1 bt535.2.2.1 bt535.2.2.2.1).bind fun t565 => (if t565 = true then (laws_FnExactPasteImage.j0 k a1 a2 bt535.2.2.2.2 bt557.2.2.2.2 (bt557.2.2.2.2 != bt535.2.2.2.2) a0_0 a0_1 a0_2 l0_3 a3_0 a3_1 a3_2 l3_3 bt535.1 bt535.2.1 bt535.2.2.1 bt535.2.2.2.1 bt543.1 bt543.2.1 bt543.2.2.1 bt543.2.2.2 bt550.1 bt550.2.1 bt550.2.2.1 bt550.2.2.2 bt557.1 bt557.2.1 bt557.2.2.1 bt557.2.2.2.1) else (laws_FnExactPasteImage.j0 k a1 a2 bt535.2.2.2.2 bt557.2.2.2.2 true a0_0 a0_1 a0_2 l0_3 a3_0 a3_1 a3_2 l3_3 bt535.1 bt535.2.1 bt535.2.2.1 bt535.2.2.2.1 bt543.1 bt543.2.1 bt543.2.2.1 bt543.2.2.2 bt550.1 bt550.2.1 bt550.2.2.1 bt550.2.2.2 bt557.1 bt557.2.1 bt557.2.2.1 bt557.2.2.2.1))))))))))))) = some r := h
  clear h
  replace H := Option.bind_eq_some_iff.mp H
  obtain ⟨t521, A50, H⟩ := H
  replace H : (if t521 < 0 then (some true) else ((laws_szImage.f a3_0 a3_1 a3_2 l3_3 t521).bind fun t522 => (if t522 < 0 then (some true) else ((laws_toImage.f k a0_0 a0_1 a0_2 l0_3).bind fun bt523 => ((laws_toImage.f k a3_0 a3_1 a3_2 l3_3).bind fun bt529 => ((spec_PasteImage.f k bt523.1 bt523.2.1 bt523.2.2.1 bt523.2.2.2 a1 a2 bt529.1 bt529.2.1 bt529.2.2.1 bt529.2.2.2).bind fun bt535 => ((laws_toImage.f k a0_0 a0_1 a0_2 l0_3).bind fun bt543 => ((laws_toImage.f k a3_0 a3_1 a3_2 l3_3).bind fun bt550 => ((impl_PasteImage.f bt543.1 bt543.2.1 bt543.2.2.1 bt543.2.2.2 a1 a2 bt550.1 bt550.2.1 bt550.2.2.1 bt550.2.2.2).bind fun bt557 => ((laws_eqImage.f k bt557.1 bt557.2.1 bt557.2.2.1 bt557.2.2.2.1 bt535.1 bt535.2.1 bt535.2.2.1 bt535.2.2.2.1).bind fun t565 => (if t565 = true then (laws_FnExactPasteImage.j0 k a1 a2 bt535.2.2.2.2 bt557.2.2.2.2 (bt557.2.2.2.2 != bt535.2.2.2.2) a0_0 a0_1 a0_2 l0_3 a3_0 a3_1 a3_2 l3_3 bt535.1 bt535.2.1 bt535.2.2.1 bt535.2.2.2.1 bt543.1 bt543.2.1 bt543.2.2.1 bt543.2.2.2 bt550.1 bt550.2.1 bt550.2.2.1 bt550.2.2.2 bt557.1 bt557.2.1 bt557.2.2.1 bt557.2.2.2.1) else (laws_FnExactPasteImage.j0 k a1 a2 bt535.2.2.2.2 bt557.2.2.2.2 true a0_0 a0_1 a0_2 l0_3 a3_0 a3_1 a3_2 l3_3 bt535.1 bt535.2.1 bt535.2.2.1 bt535.2.2.2.1 bt543.1 bt543.2.1 bt543.2.2.1 bt543.2.2.2 bt550.1 bt550.2.1 bt550.2.2.1 bt550.2.2.2 bt557.1 bt557.2.1 bt557.2.2.1 bt557.2.2.2.1)))))))))))) = some r := H
  have A5 := Aside0.mk A50
  clear A50
  by_cases c6 : t521 < 0
  · rw [if_pos c6] at H
    have c6b0 : decide (t521 < 0) = true := decide_eq_true c6
    clear c6
    obtain rfl := Option.some.inj H
    simp only [Option.some.injEq, Prod.mk.injEq] at H
    obtain ⟨rfl⟩ := H
    go_enter Try.func6, Try.ntmps6
    go_wp2_with (first | ((with_reducible refine gate_dst (N := 4) rfl ?_); refine box_event ?hg (N := 4) ?hd (cs := #[.int .i64 a0_0, .int .i64 a0_1, .int .i64 a0_2, .slice A0_3 l0_3.length c0_3]) (t := 24) ?hr ?_; (case hd => rfl); (case hg => rfl); (case hr => first | (go_simp; done) | (go_simp; rfl)); intro gb519 hg w7 hbox hb; have n0_ := Aside0.mk (below_step (B.bl HB) hb); have n1_ := Aside0.mk (hbox); have n2_ := Aside0.mk (B.nle hg (below_size (B.bl HB))); have n3_ := Aside0.mk (B.nle hg (below_size (B.bl HB))); clear HB; have HB := n0_; have BK519 := n1_; have GW519 := n2_; have GE519 := n3_; clear n0_ n1_ n2_ n3_; clear hb hbox hg) | ((with_reducible refine gate_dst (N := 7) rfl ?_); refine box_event ?hg (N := 7) ?hd (cs := #[.int .i64 a3_0, .int .i64 a3_1, .int .i64 a3_2, .slice A3_3 l3_3.length c3_3]) (t := 24) ?hr ?_; (case hd => rfl); (case hg => rfl); (case hr => first | (go_simp; done) | (go_simp; rfl)); intro gb520 hg w8 hbox hb; have n0_ := Aside0.mk (blk_below (B.kb BK519) hb); have n1_ := Aside0.mk (below_step (B.bl HB) hb); have n2_ := Aside0.mk (hbox); have n3_ := Aside0.mk (B.nle hg (below_size (B.bl HB))); have n4_ := Aside0.mk (B.nle hg (below_size (B.bl HB))); have n5_ := Aside0.mk (B.nlt hg (blk_lt (B.kb BK519))); have n6_ := Aside0.mk (B.ngt hg (blk_lt (B.kb BK519))); clear BK519 HB; have BK519 := n0_; have HB := n1_; have BK520 := n2_; have GW520 := n3_; have GE520 := n4_; have NB519_520 := n5_; have NB520_519 := n6_; clear n0_ n1_ n2_ n3_ n4_ n5_ n6_; clear hb hbox hg; have hnb9 := NB519_520.out; have hnc9 := NB520_519.out; have hcz10_0 : w8.cell? ⟨gb519, 0, none⟩ = some (.int .i64 a0_0) := B.bc BK519 0; have hcz10_1 : w8.cell? ⟨gb519, 1, none⟩ = some (.int .i64 a0_1) := B.bc BK519 1; have hcz10_2 : w8.cell? ⟨gb519, 2, none⟩ = some (.int .i64 a0_2) := B.bc BK519 2; have hcz10_3 : w8.cell? ⟨gb519, 3, none⟩ = some (.slice A0_3 l0_3.length c0_3) := B.bc BK519 3; have hfz10_0 := blk_frozen BK519.out 0; have hfz10_1 := blk_frozen BK519.out 1; have hfz10_2 := blk_frozen BK519.out 2; have hfz10_3 := blk_frozen BK519.out 3) | ((with_reducible refine gate_callee (f := 8) rfl ?_); refine goesL_ (some 23) rfl rfl Try.func8 (by kernel_rfl) rfl #[.agg #[.int .i64 a0_0, .int .i64 a0_1, .int .i64 a0_2, .slice A0_3 l0_3.length c0_3], .int .i64 1048576] rfl B.am ?_; (with_reducible refine (laws_szImage.calls a0_0 a0_1 a0_2 _ _ l0_3 1048576 t521 _ ?side1 ?side2 A5.out).mono ?_); (case side1 => exact B.kc (Kd.C_below HR0_3.out HB.out)); (case side2 => exact HC0_3.out); rintro e w11 ⟨rfl, hb⟩; refine ⟨_, rfl, ?_⟩; have n0_ := Aside0.mk (blk_below (B.kb BK519) hb); have n1_ := Aside0.mk (blk_below (B.kb BK520) hb); have n2_ := Aside0.mk (below_step (B.bl HB) hb); clear BK519 BK520 HB; have BK519 := n0_; have BK520 := n1_; have HB := n2_; clear n0_ n1_ n2_; (try clear hb); (try clear hb2); (try clear hk); (try clear hi)))
    go_ret
    exact ⟨by first | rfl | (simp [errW_none, errW_some] <;> rfl) | (simp [*, errW_none, errW_some] <;> rfl), B.bl HB⟩
  rw [if_neg c6] at H
  have c6b0 : decide (t521 < 0) = false := decide_eq_false c6
  clear c6
  replace H := Option.bind_eq_some_iff.mp H
  obtain ⟨t522, A120, H⟩ := H
  replace H : (if t522 < 0 then (some true) else ((laws_toImage.f k a0_0 a0_1 a0_2 l0_3).bind fun bt523 => ((laws_toImage.f k a3_0 a3_1 a3_2 l3_3).bind fun bt529 => ((spec_PasteImage.f k bt523.1 bt523.2.1 bt523.2.2.1 bt523.2.2.2 a1 a2 bt529.1 bt529.2.1 bt529.2.2.1 bt529.2.2.2).bind fun bt535 => ((laws_toImage.f k a0_0 a0_1 a0_2 l0_3).bind fun bt543 => ((laws_toImage.f k a3_0 a3_1 a3_2 l3_3).bind fun bt550 => ((impl_PasteImage.f bt543.1 bt543.2.1 bt543.2.2.1 bt543.2.2.2 a1 a2 bt550.1 bt550.2.1 bt550.2.2.1 bt550.2.2.2).bind fun bt557 => ((laws_eqImage.f k bt557.1 bt557.2.1 bt557.2.2.1 bt557.2.2.2.1 bt535.1 bt535.2.1 bt535.2.2.1 bt535.2.2.2.1).bind fun t565 => (if t565 = true then (laws_FnExactPasteImage.j0 k a1 a2 bt535.2.2.2.2 bt557.2.2.2.2 (bt557.2.2.2.2 != bt535.2.2.2.2) a0_0 a0_1 a0_2 l0_3 a3_0 a3_1 a3_2 l3_3 bt535.1 bt535.2.1 bt535.2.2.1 bt535.2.2.2.1 bt543.1 bt543.2.1 bt543.2.2.1 bt543.2.2.2 bt550.1 bt550.2.1 bt550.2.2.1 bt550.2.2.2 bt557.1 bt557.2.1 bt557.2.2.1 bt557.2.2.2.1) else (laws_FnExactPasteImage.j0 k a1 a2 bt535.2.2.2.2 bt557.2.2.2.2 true a0_0 a0_1 a0_2 l0_3 a3_0 a3_1 a3_2 l3_3 bt535.1 bt535.2.1 bt535.2.2.1 bt535.2.2.2.1 bt543.1 bt543.2.1 bt543.2.2.1 bt543.2.2.2 bt550.1 bt550.2.1 bt550.2.2.1 bt550.2.2.2 bt557.1 bt557.2.1 bt557.2.2.1 bt557.2.2.2.1)))))))))) = some r := H
  have A12 := Aside0.mk A120
  clear A120
  by_cases c13 : t522 < 0
  · rw [if_pos c13] at H
    have c13b0 : decide (t522 < 0) = true := decide_eq_true c13
    clear c13
    obtain rfl := Option.some.inj H
    simp only [Option.some.injEq, Prod.mk.injEq] at H
    obtain ⟨rfl⟩ := H
    go_enter Try.func6, Try.ntmps6
    go_wp2_with (first | ((with_reducible refine gate_dst (N := 4) rfl ?_); refine box_event ?hg (N := 4) ?hd (cs := #[.int .i64 a0_0, .int .i64 a0_1, .int .i64 a0_2, .slice A0_3 l0_3.length c0_3]) (t := 24) ?hr ?_; (case hd => rfl); (case hg => rfl); (case hr => first | (go_simp; done) | (go_simp; rfl)); intro gb519 hg w14 hbox hb; have n0_ := Aside0.mk (below_step (B.bl HB) hb); have n1_ := Aside0.mk (hbox); have n2_ := Aside0.mk (B.nle hg (below_size (B.bl HB))); have n3_ := Aside0.mk (B.nle hg (below_size (B.bl HB))); clear HB; have HB := n0_; have BK519 := n1_; have GW519 := n2_; have GE519 := n3_; clear n0_ n1_ n2_ n3_; clear hb hbox hg) | ((with_reducible refine gate_dst (N := 7) rfl ?_); refine box_event ?hg (N := 7) ?hd (cs := #[.int .i64 a3_0, .int .i64 a3_1, .int .i64 a3_2, .slice A3_3 l3_3.length c3_3]) (t := 24) ?hr ?_; (case hd => rfl); (case hg => rfl); (case hr => first | (go_simp; done) | (go_simp; rfl)); intro gb520 hg w15 hbox hb; have n0_ := Aside0.mk (blk_below (B.kb BK519) hb); have n1_ := Aside0.mk (below_step (B.bl HB) hb); have n2_ := Aside0.mk (hbox); have n3_ := Aside0.mk (B.nle hg (below_size (B.bl HB))); have n4_ := Aside0.mk (B.nle hg (below_size (B.bl HB))); have n5_ := Aside0.mk (B.nlt hg (blk_lt (B.kb BK519))); have n6_ := Aside0.mk (B.ngt hg (blk_lt (B.kb BK519))); clear BK519 HB; have BK519 := n0_; have HB := n1_; have BK520 := n2_; have GW520 := n3_; have GE520 := n4_; have NB519_520 := n5_; have NB520_519 := n6_; clear n0_ n1_ n2_ n3_ n4_ n5_ n6_; clear hb hbox hg; have hnb16 := NB519_520.out; have hnc16 := NB520_519.out; have hcz17_0 : w15.cell? ⟨gb519, 0, none⟩ = some (.int .i64 a0_0) := B.bc BK519 0; have hcz17_1 : w15.cell? ⟨gb519, 1, none⟩ = some (.int .i64 a0_1) := B.bc BK519 1; have hcz17_2 : w15.cell? ⟨gb519, 2, none⟩ = some (.int .i64 a0_2) := B.bc BK519 2; have hcz17_3 : w15.cell? ⟨gb519, 3, none⟩ = some (.slice A0_3 l0_3.length c0_3) := B.bc BK519 3; have hfz17_0 := blk_frozen BK519.out 0; have hfz17_1 := blk_frozen BK519.out 1; have hfz17_2 := blk_frozen BK519.out 2; have hfz17_3 := blk_frozen BK519.out 3) | ((with_reducible refine gate_callee (f := 8) rfl ?_); refine goesL_ (some 23) rfl rfl Try.func8 (by kernel_rfl) rfl #[.agg #[.int .i64 a0_0, .int .i64 a0_1, .int .i64 a0_2, .slice A0_3 l0_3.length c0_3], .int .i64 1048576] rfl B.am ?_; (with_reducible refine (laws_szImage.calls a0_0 a0_1 a0_2 _ _ l0_3 1048576 t521 _ ?side1 ?side2 A5.out).mono ?_); (case side1 => exact B.kc (Kd.C_below HR0_3.out HB.out)); (case side2 => exact HC0_3.out); rintro e w18 ⟨rfl, hb⟩; refine ⟨_, rfl, ?_⟩; have n0_ := Aside0.mk (blk_below (B.kb BK519) hb); have n1_ := Aside0.mk (blk_below (B.kb BK520) hb); have n2_ := Aside0.mk (below_step (B.bl HB) hb); clear BK519 BK520 HB; have BK519 := n0_; have BK520 := n1_; have HB := n2_; clear n0_ n1_ n2_; (try clear hb); (try clear hb2); (try clear hk); (try clear hi); have hcz19_0 : w18.cell? ⟨gb520, 0, none⟩ = some (.int .i64 a3_0) := B.bc BK520 0; have hcz19_1 : w18.cell? ⟨gb520, 1, none⟩ = some (.int .i64 a3_1) := B.bc BK520 1; have hcz19_2 : w18.cell? ⟨gb520, 2, none⟩ = some (.int .i64 a3_2) := B.bc BK520 2; have hcz19_3 : w18.cell? ⟨gb520, 3, none⟩ = some (.slice A3_3 l3_3.length c3_3) := B.bc BK520 3; have hfz19_0 := blk_frozen BK520.out 0; have hfz19_1 := blk_frozen BK520.out 1; have hfz19_2 := blk_frozen BK520.out 2; have hfz19_3 := blk_frozen BK520.out 3) | ((with_reducible refine gate_callee (f := 8) rfl ?_); refine goesL_ (some 28) rfl rfl Try.func8 (by kernel_rfl) rfl #[.agg #[.int .i64 a3_0, .int .i64 a3_1, .int .i64 a3_2, .slice A3_3 l3_3.length c3_3], .int .i64 t521] rfl B.am ?_; (with_reducible refine (laws_szImage.calls a3_0 a3_1 a3_2 _ _ l3_3 t521 t522 _ ?side1 ?side2 A12.out).mono ?_); (case side1 => exact B.kc (Kd.C_below HR3_3.out HB.out)); (case side2 => exact HC3_3.out); rintro e w20 ⟨rfl, hb⟩; refine ⟨_, rfl, ?_⟩; have n0_ := Aside0.mk (blk_below (B.kb BK519) hb); have n1_ := Aside0.mk (blk_below (B.kb BK520) hb); have n2_ := Aside0.mk (below_step (B.bl HB) hb); clear BK519 BK520 HB; have BK519 := n0_; have BK520 := n1_; have HB := n2_; clear n0_ n1_ n2_; (try clear hb); (try clear hb2); (try clear hk); (try clear hi)))
    go_ret
    exact ⟨by first | rfl | (simp [errW_none, errW_some] <;> rfl) | (simp [*, errW_none, errW_some] <;> rfl), B.bl HB⟩
  rw [if_neg c13] at H
  have c13b0 : decide (t522 < 0) = false := decide_eq_false c13
  clear c13
  replace H := Option.bind_eq_some_iff.mp H
  obtain ⟨⟨t523, t524, t525, t526⟩, A210, H⟩ := H
  replace H : ((laws_toImage.f k a3_0 a3_1 a3_2 l3_3).bind fun bt529 => ((spec_PasteImage.f k t523 t524 t525 t526 a1 a2 bt529.1 bt529.2.1 bt529.2.2.1 bt529.2.2.2).bind fun bt535 => ((laws_toImage.f k a0_0 a0_1 a0_2 l0_3).bind fun bt543 => ((laws_toImage.f k a3_0 a3_1 a3_2 l3_3).bind fun bt550 => ((impl_PasteImage.f bt543.1 bt543.2.1 bt543.2.2.1 bt543.2.2.2 a1 a2 bt550.1 bt550.2.1 bt550.2.2.1 bt550.2.2.2).bind fun bt557 => ((laws_eqImage.f k bt557.1 bt557.2.1 bt557.2.2.1 bt557.2.2.2.1 bt535.1 bt535.2.1 bt535.2.2.1 bt535.2.2.2.1).bind fun t565 => (if t565 = true then (laws_FnExactPasteImage.j0 k a1 a2 bt535.2.2.2.2 bt557.2.2.2.2 (bt557.2.2.2.2 != bt535.2.2.2.2) a0_0 a0_1 a0_2 l0_3 a3_0 a3_1 a3_2 l3_3 bt535.1 bt535.2.1 bt535.2.2.1 bt535.2.2.2.1 bt543.1 bt543.2.1 bt543.2.2.1 bt543.2.2.2 bt550.1 bt550.2.1 bt550.2.2.1 bt550.2.2.2 bt557.1 bt557.2.1 bt557.2.2.1 bt557.2.2.2.1) else (laws_FnExactPasteImage.j0 k a1 a2 bt535.2.2.2.2 bt557.2.2.2.2 true a0_0 a0_1 a0_2 l0_3 a3_0 a3_1 a3_2 l3_3 bt535.1 bt535.2.1 bt535.2.2.1 bt535.2.2.2.1 bt543.1 bt543.2.1 bt543.2.2.1 bt543.2.2.2 bt550.1 bt550.2.1 bt550.2.2.1 bt550.2.2.2 bt557.1 bt557.2.1 bt557.2.2.1 bt557.2.2.2.1)))))))) = some r := H
  have A21 := Aside0.mk A210
  clear A210
  replace H := Option.bind_eq_some_iff.mp H
  obtain ⟨⟨t529, t530, t531, t532⟩, A220, H⟩ := H
  replace H : ((spec_PasteImage.f k t523 t524 t525 t526 a1 a2 t529 t530 t531 t532).bind fun bt535 => ((laws_toImage.f k a0_0 a0_1 a0_2 l0_3).bind fun bt543 => ((laws_toImage.f k a3_0 a3_1 a3_2 l3_3).bind fun bt550 => ((impl_PasteImage.f bt543.1 bt543.2.1 bt543.2.2.1 bt543.2.2.2 a1 a2 bt550.1 bt550.2.1 bt550.2.2.1 bt550.2.2.2).bind fun bt557 => ((laws_eqImage.f k bt557.1 bt557.2.1 bt557.2.2.1 bt557.2.2.2.1 bt535.1 bt535.2.1 bt535.2.2.1 bt535.2.2.2.1).bind fun t565 => (if t565 = true then (laws_FnExactPasteImage.j0 k a1 a2 bt535.2.2.2.2 bt557.2.2.2.2 (bt557.2.2.2.2 != bt535.2.2.2.2) a0_0 a0_1 a0_2 l0_3 a3_0 a3_1 a3_2 l3_3 bt535.1 bt535.2.1 bt535.2.2.1 bt535.2.2.2.1 bt543.1 bt543.2.1 bt543.2.2.1 bt543.2.2.2 bt550.1 bt550.2.1 bt550.2.2.1 bt550.2.2.2 bt557.1 bt557.2.1 bt557.2.2.1 bt557.2.2.2.1) else (laws_FnExactPasteImage.j0 k a1 a2 bt535.2.2.2.2 bt557.2.2.2.2 true a0_0 a0_1 a0_2 l0_3 a3_0 a3_1 a3_2 l3_3 bt535.1 bt535.2.1 bt535.2.2.1 bt535.2.2.2.1 bt543.1 bt543.2.1 bt543.2.2.1 bt543.2.2.2 bt550.1 bt550.2.1 bt550.2.2.1 bt550.2.2.2 bt557.1 bt557.2.1 bt557.2.2.1 bt557.2.2.2.1))))))) = some r := H
  have A22 := Aside0.mk A220
  clear A220
  replace H := Option.bind_eq_some_iff.mp H
  obtain ⟨⟨t535, t536, t537, t538, t541⟩, A230, H⟩ := H
  replace H : ((laws_toImage.f k a0_0 a0_1 a0_2 l0_3).bind fun bt543 => ((laws_toImage.f k a3_0 a3_1 a3_2 l3_3).bind fun bt550 => ((impl_PasteImage.f bt543.1 bt543.2.1 bt543.2.2.1 bt543.2.2.2 a1 a2 bt550.1 bt550.2.1 bt550.2.2.1 bt550.2.2.2).bind fun bt557 => ((laws_eqImage.f k bt557.1 bt557.2.1 bt557.2.2.1 bt557.2.2.2.1 t535 t536 t537 t538).bind fun t565 => (if t565 = true then (laws_FnExactPasteImage.j0 k a1 a2 t541 bt557.2.2.2.2 (bt557.2.2.2.2 != t541) a0_0 a0_1 a0_2 l0_3 a3_0 a3_1 a3_2 l3_3 t535 t536 t537 t538 bt543.1 bt543.2.1 bt543.2.2.1 bt543.2.2.2 bt550.1 bt550.2.1 bt550.2.2.1 bt550.2.2.2 bt557.1 bt557.2.1 bt557.2.2.1 bt557.2.2.2.1) else (laws_FnExactPasteImage.j0 k a1 a2 t541 bt557.2.2.2.2 true a0_0 a0_1 a0_2 l0_3 a3_0 a3_1 a3_2 l3_3 t535 t536 t537 t538 bt543.1 bt543.2.1 bt543.2.2.1 bt543.2.2.2 bt550.1 bt550.2.1 bt550.2.2.1 bt550.2.2.2 bt557.1 bt557.2.1 bt557.2.2.1 bt557.2.2.2.1)))))) = some r := H
  have A23 := Aside0.mk A230
  clear A230
  replace H := Option.bind_eq_some_iff.mp H
  obtain ⟨⟨t543, t544, t545, t546⟩, A240, H⟩ := H
  replace H : ((laws_toImage.f k a3_0 a3_1 a3_2 l3_3).bind fun bt550 => ((impl_PasteImage.f t543 t544 t545 t546 a1 a2 bt550.1 bt550.2.1 bt550.2.2.1 bt550.2.2.2).bind fun bt557 => ((laws_eqImage.f k bt557.1 bt557.2.1 bt557.2.2.1 bt557.2.2.2.1 t535 t536 t537 t538).bind fun t565 => (if t565 = true then (laws_FnExactPasteImage.j0 k a1 a2 t541 bt557.2.2.2.2 (bt557.2.2.2.2 != t541) a0_0 a0_1 a0_2 l0_3 a3_0 a3_1 a3_2 l3_3 t535 t536 t537 t538 t543 t544 t545 t546 bt550.1 bt550.2.1 bt550.2.2.1 bt550.2.2.2 bt557.1 bt557.2.1 bt557.2.2.1 bt557.2.2.2.1) else (laws_FnExactPasteImage.j0 k a1 a2 t541 bt557.2.2.2.2 true a0_0 a0_1 a0_2 l0_3 a3_0 a3_1 a3_2 l3_3 t535 t536 t537 t538 t543 t544 t545 t546 bt550.1 bt550.2.1 bt550.2.2.1 bt550.2.2.2 bt557.1 bt557.2.1 bt557.2.2.1 bt557.2.2.2.1))))) = some r := H
  have A24 := Aside0.mk A240
  clear A240
  replace H := Option.bind_eq_some_iff.mp H
  obtain ⟨⟨t550, t551, t552, t553⟩, A250, H⟩ := H
  replace H : ((impl_PasteImage.f t543 t544 t545 t546 a1 a2 t550 t551 t552 t553).bind fun bt557 => ((laws_eqImage.f k bt557.1 bt557.2.1 bt557.2.2.1 bt557.2.2.2.1 t535 t536 t537 t538).bind fun t565 => (if t565 = true then (laws_FnExactPasteImage.j0 k a1 a2 t541 bt557.2.2.2.2 (bt557.2.2.2.2 != t541) a0_0 a0_1 a0_2 l0_3 a3_0 a3_1 a3_2 l3_3 t535 t536 t537 t538 t543 t544 t545 t546 t550 t551 t552 t553 bt557.1 bt557.2.1 bt557.2.2.1 bt557.2.2.2.1) else (laws_FnExactPasteImage.j0 k a1 a2 t541 bt557.2.2.2.2 true a0_0 a0_1 a0_2 l0_3 a3_0 a3_1 a3_2 l3_3 t535 t536 t537 t538 t543 t544 t545 t546 t550 t551 t552 t553 bt557.1 bt557.2.1 bt557.2.2.1 bt557.2.2.2.1)))) = some r := H
  have A25 := Aside0.mk A250
  clear A250
  replace H := Option.bind_eq_some_iff.mp H
  obtain ⟨⟨t557, t558, t559, t560, t563⟩, A260, H⟩ := H
  replace H : ((laws_eqImage.f k t557 t558 t559 t560 t535 t536 t537 t538).bind fun t565 => (if t565 = true then (laws_FnExactPasteImage.j0 k a1 a2 t541 t563 (t563 != t541) a0_0 a0_1 a0_2 l0_3 a3_0 a3_1 a3_2 l3_3 t535 t536 t537 t538 t543 t544 t545 t546 t550 t551 t552 t553 t557 t558 t559 t560) else (laws_FnExactPasteImage.j0 k a1 a2 t541 t563 true a0_0 a0_1 a0_2 l0_3 a3_0 a3_1 a3_2 l3_3 t535 t536 t537 t538 t543 t544 t545 t546 t550 t551 t552 t553 t557 t558 t559 t560))) = some r := H
  have A26 := Aside0.mk A260
  clear A260
  have HC27 := Aside0.mk H
  clear H
  go_enter Try.func6, Try.ntmps6
  try go_wp2_with (first | ((with_reducible refine gate_dst (N := 4) rfl ?_); refine box_event ?hg (N := 4) ?hd (cs := #[.int .i64 a0_0, .int .i64 a0_1, .int .i64 a0_2, .slice A0_3 l0_3.length c0_3]) (t := 24) ?hr ?_; (case hd => rfl); (case hg => rfl); (case hr => first | (go_simp; done) | (go_simp; rfl)); intro gb519 hg w28 hbox hb; have n0_ := Aside0.mk (below_step (B.bl HB) hb); have n1_ := Aside0.mk (hbox); have n2_ := Aside0.mk (B.nle hg (below_size (B.bl HB))); have n3_ := Aside0.mk (B.nle hg (below_size (B.bl HB))); clear HB; have HB := n0_; have BK519 := n1_; have GW519 := n2_; have GE519 := n3_; clear n0_ n1_ n2_ n3_; clear hb hbox hg) | ((with_reducible refine gate_dst (N := 7) rfl ?_); refine box_event ?hg (N := 7) ?hd (cs := #[.int .i64 a3_0, .int .i64 a3_1, .int .i64 a3_2, .slice A3_3 l3_3.length c3_3]) (t := 24) ?hr ?_; (case hd => rfl); (case hg => rfl); (case hr => first | (go_simp; done) | (go_simp; rfl)); intro gb520 hg w29 hbox hb; have n0_ := Aside0.mk (blk_below (B.kb BK519) hb); have n1_ := Aside0.mk (below_step (B.bl HB) hb); have n2_ := Aside0.mk (hbox); have n3_ := Aside0.mk (B.nle hg (below_size (B.bl HB))); have n4_ := Aside0.mk (B.nle hg (below_size (B.bl HB))); have n5_ := Aside0.mk (B.nlt hg (blk_lt (B.kb BK519))); have n6_ := Aside0.mk (B.ngt hg (blk_lt (B.kb BK519))); clear BK519 HB; have BK519 := n0_; have HB := n1_; have BK520 := n2_; have GW520 := n3_; have GE520 := n4_; have NB519_520 := n5_; have NB520_519 := n6_; clear n0_ n1_ n2_ n3_ n4_ n5_ n6_; clear hb hbox hg; have hnb30 := NB519_520.out; have hnc30 := NB520_519.out; have hcz31_0 : w29.cell? ⟨gb519, 0, none⟩ = some (.int .i64 a0_0) := B.bc BK519 0; have hcz31_1 : w29.cell? ⟨gb519, 1, none⟩ = some (.int .i64 a0_1) := B.bc BK519 1; have hcz31_2 : w29.cell? ⟨gb519, 2, none⟩ = some (.int .i64 a0_2) := B.bc BK519 2; have hcz31_3 : w29.cell? ⟨gb519, 3, none⟩ = some (.slice A0_3 l0_3.length c0_3) := B.bc BK519 3; have hfz31_0 := blk_frozen BK519.out 0; have hfz31_1 := blk_frozen BK519.out 1; have hfz31_2 := blk_frozen BK519.out 2; have hfz31_3 := blk_frozen BK519.out 3) | ((with_reducible refine gate_callee (f := 8) rfl ?_); refine goesL_ (some 23) rfl rfl Try.func8 (by kernel_rfl) rfl #[.agg #[.int .i64 a0_0, .int .i64 a0_1, .int .i64 a0_2, .slice A0_3 l0_3.length c0_3], .int .i64 1048576] rfl B.am ?_; (with_reducible refine (laws_szImage.calls a0_0 a0_1 a0_2 _ _ l0_3 1048576 t521 _ ?side1 ?side2 A5.out).mono ?_); (case side1 => exact B.kc (Kd.C_below HR0_3.out HB.out)); (case side2 => exact HC0_3.out); rintro e w32 ⟨rfl, hb⟩; refine ⟨_, rfl, ?_⟩; have n0_ := Aside0.mk (blk_below (B.kb BK519) hb); have n1_ := Aside0.mk (blk_below (B.kb BK520) hb); have n2_ := Aside0.mk (below_step (B.bl HB) hb); clear BK519 BK520 HB; have BK519 := n0_; have BK520 := n1_; have HB := n2_; clear n0_ n1_ n2_; (try clear hb); (try clear hb2); (try clear hk); (try clear hi); have hcz33_0 : w32.cell? ⟨gb520, 0, none⟩ = some (.int .i64 a3_0) := B.bc BK520 0; have hcz33_1 : w32.cell? ⟨gb520, 1, none⟩ = some (.int .i64 a3_1) := B.bc BK520 1; have hcz33_2 : w32.cell? ⟨gb520, 2, none⟩ = some (.int .i64 a3_2) := B.bc BK520 2; have hcz33_3 : w32.cell? ⟨gb520, 3, none⟩ = some (.slice A3_3 l3_3.length c3_3) := B.bc BK520 3; have hfz33_0 := blk_frozen BK520.out 0; have hfz33_1 := blk_frozen BK520.out 1; have hfz33_2 := blk_frozen BK520.out 2; have hfz33_3 := blk_frozen BK520.out 3) | ((with_reducible refine gate_callee (f := 8) rfl ?_); refine goesL_ (some 28) rfl rfl Try.func8 (by kernel_rfl) rfl #[.agg #[.int .i64 a3_0, .int .i64 a3_1, .int .i64 a3_2, .slice A3_3 l3_3.length c3_3], .int .i64 t521] rfl B.am ?_; (with_reducible refine (laws_szImage.calls a3_0 a3_1 a3_2 _ _ l3_3 t521 t522 _ ?side1 ?side2 A12.out).mono ?_); (case side1 => exact B.kc (Kd.C_below HR3_3.out HB.out)); (case side2 => exact HC3_3.out); rintro e w34 ⟨rfl, hb⟩; refine ⟨_, rfl, ?_⟩; have n0_ := Aside0.mk (blk_below (B.kb BK519) hb); have n1_ := Aside0.mk (blk_below (B.kb BK520) hb); have n2_ := Aside0.mk (below_step (B.bl HB) hb); clear BK519 BK520 HB; have BK519 := n0_; have BK520 := n1_; have HB := n2_; clear n0_ n1_ n2_; (try clear hb); (try clear hb2); (try clear hk); (try clear hi)))
  have n0_ := Aside0.mk (blk_drew BK519.out)
  have n1_ := Aside0.mk (blk_drew BK520.out)
  have n2_ := Aside0.mk (below_drew1 HB.out)
  clear BK519 BK520 HB
  have BK519 := n0_
  have BK520 := n1_
  have HB := n2_
  clear n0_ n1_ n2_
  refine start_ (n := 13) (S := fun w' => w'.cell? ⟨gb519, 0, none⟩ = some (.int .i64 a0_0) ∧ w'.cell? ⟨gb519, 1, none⟩ = some (.int .i64 a0_1) ∧ w'.cell? ⟨gb519, 2, none⟩ = some (.int .i64 a0_2) ∧ w'.cell? ⟨gb519, 3, none⟩ = some (.slice A0_3 l0_3.length c0_3) ∧ w'.cell? ⟨gb520, 0, none⟩ = some (.int .i64 a3_0) ∧ w'.cell? ⟨gb520, 1, none⟩ = some (.int .i64 a3_1) ∧ w'.cell? ⟨gb520, 2, none⟩ = some (.int .i64 a3_2) ∧ w'.cell? ⟨gb520, 3, none⟩ = some (.slice A3_3 l3_3.length c3_3)) (ds := []) #[false, false, false, false, false, false, false, false, false, false, false, false, false] (by kernel_rfl) rfl rfl ⟨B.bc BK519 0, B.bc BK519 1, B.bc BK519 2, B.bc BK519 3, B.bc BK520 0, B.bc BK520 1, B.bc BK520 2, B.bc BK520 3⟩ (fun hHeld => ?_); refine with_tabW laws_FnExactPasteImage.tab8 laws_FnExactPasteImage.bits8 (fun HT_ HW_ => ?_)
  generalize w34.drew = w35 at BK519 BK520 HB hHeld ⊢
  refine pure_ (i := 2) (N := some 34) (v := ?_) (a' := ?_) #[false, false, true, false, false, false, false, false, false, false, false, false, false] rfl rfl (any_of HT_.out (by kernel_rfl)) (fun _ _ _ h => h) (Or.inl ⟨by rfl, ?_⟩) ?_ ?_
  rotate_left
  · intro w'
    go_simp
    with_reducible rfl
  rotate_left
  · simp only [Act.put, List.setIfInBounds_toArray, List.set_cons_zero, List.set_cons_succ, i64_w, i32_w]
    rfl
  refine pure_ (i := 3) (N := some 35) (v := ?_) (a' := ?_) #[false, false, true, true, false, false, false, false, false, false, false, false, false] rfl rfl (any_of HT_.out (by kernel_rfl)) (fun _ _ _ h => h) (Or.inl ⟨by rfl, ?_⟩) ?_ ?_
  rotate_left
  · intro w'
    go_simp
    with_reducible rfl
  rotate_left
  · simp only [Act.put, List.setIfInBounds_toArray, List.set_cons_zero, List.set_cons_succ, i64_w, i32_w]
    rfl
  refine take_ (i := 0) (N := some 32) (v := ?_) (a' := ?_) #[true, false, true, true, false, false, false, false, false, false, false, false, false] rfl rfl (take_ofW HT_.out HW_.out (by kernel_rfl)) (fun _ _ _ h => h) (Or.inl ⟨by rfl, ?_⟩) hHeld ?_ ?_
  rotate_left
  · rintro w' ⟨s0, s1, s2, s3, s4, s5, s6, s7⟩
    go_simp
    with_reducible rfl
  rotate_left
  · simp only [Act.put, List.setIfInBounds_toArray, List.set_cons_zero, List.set_cons_succ, i64_w, i32_w]
    rfl
  refine take_ (i := 4) (N := some 36) (v := ?_) (a' := ?_) #[true, false, true, true, true, false, false, false, false, false, false, false, false] rfl rfl (take_ofW HT_.out HW_.out (by kernel_rfl)) (fun _ _ _ h => h) (Or.inl ⟨by rfl, ?_⟩) hHeld ?_ ?_
  rotate_left
  · rintro w' ⟨s0, s1, s2, s3, s4, s5, s6, s7⟩
    go_simp
    with_reducible rfl
  rotate_left
  · simp only [Act.put, List.setIfInBounds_toArray, List.set_cons_zero, List.set_cons_succ, i64_w, i32_w]
    rfl
  refine join_ (σ := Value × Value × Value × Nat) 2 #[true, true, true, true, true, true, true, true, true, true, true, false, false] (fun s_ => [(33, .agg #[.int .i64 t523, .int .i64 t524, .int .i64 t525, s_.1]), (37, .agg #[.int .i64 t529, .int .i64 t530, .int .i64 t531, s_.2.1]), (38, .tuple #[.agg #[.int .i64 t535, .int .i64 t536, .int .i64 t537, s_.2.2.1], .bool t541]), (10, .pointer (some ⟨s_.2.2.2, 0, none⟩)), (31, .tuple #[.agg #[.int .i64 t535, .int .i64 t536, .int .i64 t537, s_.2.2.1], .bool t541]), (39, .agg #[.int .i64 t535, .int .i64 t536, .int .i64 t537, s_.2.2.1]), (40, .bool t541)]) (fun s_ w' => (w'.cell? ⟨gb519, 0, none⟩ = some (.int .i64 a0_0) ∧ w'.cell? ⟨gb519, 1, none⟩ = some (.int .i64 a0_1) ∧ w'.cell? ⟨gb519, 2, none⟩ = some (.int .i64 a0_2) ∧ w'.cell? ⟨gb519, 3, none⟩ = some (.slice A0_3 l0_3.length c0_3) ∧ w'.cell? ⟨gb520, 0, none⟩ = some (.int .i64 a3_0) ∧ w'.cell? ⟨gb520, 1, none⟩ = some (.int .i64 a3_1) ∧ w'.cell? ⟨gb520, 2, none⟩ = some (.int .i64 a3_2) ∧ w'.cell? ⟨gb520, 3, none⟩ = some (.slice A3_3 l3_3.length c3_3)) ∧ (Kd.R (Kd.int .i64) 3 w' w.heap.size (fun k_ => some k_ ≠ (s_.2.1 : Value).ownBlock ∧ some k_ ≠ (s_.2.2.1 : Value).ownBlock) s_.1 t526) ∧ (Kd.R (Kd.int .i64) 3 w' w.heap.size (fun k_ => some k_ ≠ (s_.1 : Value).ownBlock ∧ some k_ ≠ (s_.2.2.1 : Value).ownBlock) s_.2.1 t532) ∧ (Kd.R (Kd.int .i64) 3 w' w.heap.size (fun k_ => some k_ ≠ (s_.1 : Value).ownBlock ∧ some k_ ≠ (s_.2.1 : Value).ownBlock) s_.2.2.1 t538) ∧ (w'.heap[gb519]? = some (.cells #[.int .i64 a0_0, .int .i64 a0_1, .int .i64 a0_2, .slice A0_3 l0_3.length c0_3] 24 (0, 0))) ∧ (w'.heap[gb520]? = some (.cells #[.int .i64 a3_0, .int .i64 a3_1, .int .i64 a3_2, .slice A3_3 l3_3.length c3_3] 24 (0, 0))) ∧ (w'.heap[s_.2.2.2]? = some (.cells #[.int .i64 0, .int .i64 0, .int .i64 0, .slice none 0 0] 28 (0, 0))) ∧ (w.heap.size ≤ s_.2.2.2) ∧ (w.heap.size ≤ s_.2.2.2) ∧ (gb519 ≠ s_.2.2.2) ∧ (s_.2.2.2 ≠ gb519) ∧ (gb520 ≠ s_.2.2.2) ∧ (s_.2.2.2 ≠ gb520) ∧ (Below w.heap.size w w')) ?_ ?_
  rotate_left
  · intro hCont
    refine two_ (i := 1) (j := 10) (Ni := some 33) (Nj := some 10) #[true, true, true, true, true, false, false, false, false, false, false, false, false] #[true, false, true, true, true, false, false, false, false, false, true, false, false] rfl rfl rfl rfl (two_of HT_.out (by kernel_rfl)) (by decide) (by decide) (fun K hK => ?_) (fun K hK => ?_)
    · skip
      refine goes_ Try.func10 (by kernel_rfl) rfl #[.agg #[.int .i64 a0_0, .int .i64 a0_1, .int .i64 a0_2, .slice A0_3 l0_3.length c0_3]] (by rfl) rfl rfl B.am ?_
      with_reducible refine (laws_toImage.calls k a0_0 a0_1 a0_2 _ _ l0_3 t523 t524 t525 t526 _ ?side1 ?side2 A21.out).mono ?_
      (case side1 => exact B.kc (Kd.C_below HR0_3.out HB.out))
      (case side2 => exact HC0_3.out)
      rintro e w36 ⟨v527, rfl, ho0, hb⟩
      refine ⟨_, rfl, ?_⟩
      have n0_ := Aside0.mk (Kd.R_lower ho0 (below_size (B.bl HB)))
      have n1_ := Aside0.mk (blk_below (B.kb BK519) hb)
      have n2_ := Aside0.mk (blk_below (B.kb BK520) hb)
      have n3_ := Aside0.mk (below_step (B.bl HB) hb)
      clear BK519 BK520 HB
      have HO528 := n0_
      have BK519 := n1_
      have BK520 := n2_
      have HB := n3_
      clear n0_ n1_ n2_ n3_
      (try clear hb)
      (try clear hb2)
      (try clear hk)
      (try clear hi)
      (try clear ho0)
      refine hK.out _ _ ⟨B.bc BK519 0, B.bc BK519 1, B.bc BK519 2, B.bc BK519 3, B.bc BK520 0, B.bc BK520 1, B.bc BK520 2, B.bc BK520 3⟩ (fun hHeld => ?_)
      clear hK K
      refine norm_ (a' := ?_) ?_ ?_
      rotate_left
      · show Act.put _ (some 33) _ = _
        simp only [Act.put, List.setIfInBounds_toArray, List.set_cons_zero, List.set_cons_succ, i64_w, i32_w]
        rfl
      refine two_ (i := 5) (j := 10) (Ni := some 37) (Nj := some 10) #[true, true, true, true, true, true, false, false, false, false, false, false, false] #[true, true, true, true, true, false, false, false, false, false, true, false, false] rfl rfl rfl rfl (two_of HT_.out (by kernel_rfl)) (by decide) (by decide) (fun K hK => ?_) (fun K hK => ?_)
      · skip
        refine goes_ Try.func10 (by kernel_rfl) rfl #[.agg #[.int .i64 a3_0, .int .i64 a3_1, .int .i64 a3_2, .slice A3_3 l3_3.length c3_3]] (by rfl) rfl rfl B.am ?_
        with_reducible refine (laws_toImage.calls k a3_0 a3_1 a3_2 _ _ l3_3 t529 t530 t531 t532 _ ?side1 ?side2 A22.out).mono ?_
        (case side1 => exact B.kc (Kd.C_below HR3_3.out HB.out))
        (case side2 => exact HC3_3.out)
        rintro e w37 ⟨v533, rfl, ho0, hb⟩
        refine ⟨_, rfl, ?_⟩
        have n0_ := Aside0.mk (Kd.R_elder' (B.kr HO528) (Kd.R_base ho0) hb)
        have n1_ := Aside0.mk (Kd.R_lower (Kd.R_new' ho0 (Kd.R_lt (B.kr HO528))) (below_size (B.bl HB)))
        have n2_ := Aside0.mk (blk_below (B.kb BK519) hb)
        have n3_ := Aside0.mk (blk_below (B.kb BK520) hb)
        have n4_ := Aside0.mk (below_step (B.bl HB) hb)
        clear HO528 BK519 BK520 HB
        have HO528 := n0_
        have HO534 := n1_
        have BK519 := n2_
        have BK520 := n3_
        have HB := n4_
        clear n0_ n1_ n2_ n3_ n4_
        (try clear hb)
        (try clear hb2)
        (try clear hk)
        (try clear hi)
        (try clear ho0)
        obtain ⟨Ao38, co38, eo38⟩ := Kd.R_slice HO528.out
        (first | subst eo38 | (injection eo38 with f1_ f2_ f3_; have f4_ := f1_.symm; have f5_ := f3_.symm; clear f1_ f2_ f3_; subst f4_; subst f5_))
        obtain ⟨Ao39, co39, eo39⟩ := Kd.R_slice HO534.out
        (first | subst eo39 | (injection eo39 with f1_ f2_ f3_; have f4_ := f1_.symm; have f5_ := f3_.symm; clear f1_ f2_ f3_; subst f4_; subst f5_))
        refine hK.out _ _ ⟨B.bc BK519 0, B.bc BK519 1, B.bc BK519 2, B.bc BK519 3, B.bc BK520 0, B.bc BK520 1, B.bc BK520 2, B.bc BK520 3⟩ (fun hHeld => ?_)
        clear hK K
        refine norm_ (a' := ?_) ?_ ?_
        rotate_left
        · show Act.put _ (some 37) _ = _
          simp only [Act.put, List.setIfInBounds_toArray, List.set_cons_zero, List.set_cons_succ, i64_w, i32_w]
          rfl
        refine two_ (i := 6) (j := 10) (Ni := some 38) (Nj := some 10) #[true, true, true, true, true, true, true, false, false, false, false, false, false] #[true, true, true, true, true, true, false, false, false, false, true, false, false] rfl rfl rfl rfl (two_of HT_.out (by kernel_rfl)) (by decide) (by decide) (fun K hK => ?_) (fun K hK => ?_)
        · skip
          refine goes_ Try.func21 (by kernel_rfl) rfl #[.agg #[.int .i64 t523, .int .i64 t524, .int .i64 t525, .slice Ao38 t526.length co38], .int .i64 a1, .int .i64 a2, .agg #[.int .i64 t529, .int .i64 t530, .int .i64 t531, .slice Ao39 t532.length co39]] (by rfl) rfl rfl B.am ?_
          with_reducible refine (spec_PasteImage.calls k t523 t524 t525 _ _ t526 a1 a2 t529 t530 t531 _ _ t532 t535 t536 t537 t538 t541 _ ?side1 ?side2 ?side3 ?side4 A23.out).mono ?_
          (case side1 => exact B.kc ((Kd.R_reads' HO528.out).2.2))
          (case side2 => exact (Kd.R_reads' HO528.out).2.1)
          (case side3 => exact B.kc ((Kd.R_reads' HO534.out).2.2))
          (case side4 => exact (Kd.R_reads' HO534.out).2.1)
          rintro e w40 ⟨v539, rfl, ho0, hb⟩
          refine ⟨_, rfl, ?_⟩
          have n0_ := Aside0.mk (Kd.R_elder' (B.kr HO528) (Kd.R_base ho0) hb)
          have n1_ := Aside0.mk (Kd.R_elder' (B.kr HO534) (Kd.R_base ho0) hb)
          have n2_ := Aside0.mk (Kd.R_lower (Kd.R_new' (Kd.R_new' ho0 (Kd.R_lt (B.kr HO528))) (Kd.R_lt (B.kr HO534))) (below_size (B.bl HB)))
          have n3_ := Aside0.mk (blk_below (B.kb BK519) hb)
          have n4_ := Aside0.mk (blk_below (B.kb BK520) hb)
          have n5_ := Aside0.mk (below_step (B.bl HB) hb)
          clear HO528 HO534 BK519 BK520 HB
          have HO528 := n0_
          have HO534 := n1_
          have HO540 := n2_
          have BK519 := n3_
          have BK520 := n4_
          have HB := n5_
          clear n0_ n1_ n2_ n3_ n4_ n5_
          (try clear hb)
          (try clear hb2)
          (try clear hk)
          (try clear hi)
          (try clear ho0)
          refine hK.out _ _ ⟨B.bc BK519 0, B.bc BK519 1, B.bc BK519 2, B.bc BK519 3, B.bc BK520 0, B.bc BK520 1, B.bc BK520 2, B.bc BK520 3⟩ (fun hHeld => ?_)
          clear hK K
          refine norm_ (a' := ?_) ?_ ?_
          rotate_left
          · show Act.put _ (some 38) _ = _
            simp only [Act.put, List.setIfInBounds_toArray, List.set_cons_zero, List.set_cons_succ, i64_w, i32_w]
            rfl
          refine pure_ (i := 7) (N := some 31) (v := ?_) (a' := ?_) #[true, true, true, true, true, true, true, true, false, false, false, false, false] rfl rfl (any_of HT_.out (by kernel_rfl)) (fun _ _ _ h => h) (Or.inl ⟨by rfl, ?_⟩) ?_ ?_
          rotate_left
          · intro w'
            go_simp
            with_reducible rfl
          rotate_left
          · simp only [Act.put, List.setIfInBounds_toArray, List.set_cons_zero, List.set_cons_succ, i64_w, i32_w]
            rfl
          refine pure_ (i := 8) (N := some 39) (v := ?_) (a' := ?_) #[true, true, true, true, true, true, true, true, true, false, false, false, false] rfl rfl (any_of HT_.out (by kernel_rfl)) (fun _ _ _ h => h) (Or.inl ⟨by rfl, ?_⟩) ?_ ?_
          rotate_left
          · intro w'
            go_simp
            with_reducible rfl
          rotate_left
          · simp only [Act.put, List.setIfInBounds_toArray, List.set_cons_zero, List.set_cons_succ, i64_w, i32_w]
            rfl
          refine pure_ (i := 9) (N := some 40) (v := ?_) (a' := ?_) #[true, true, true, true, true, true, true, true, true, true, false, false, false] rfl rfl (any_of HT_.out (by kernel_rfl)) (fun _ _ _ h => h) (Or.inl ⟨by rfl, ?_⟩) ?_ ?_
          rotate_left
          · intro w'
            go_simp
            with_reducible rfl
          rotate_left
          · simp only [Act.put, List.setIfInBounds_toArray, List.set_cons_zero, List.set_cons_succ, i64_w, i32_w]
            rfl
          refine one_ (i := 10) (N := some 10) #[true, true, true, true, true, true, true, true, true, true, true, false, false] rfl rfl (one_of HT_.out (by kernel_rfl)) (by decide) (fun K hK => ?_)
          refine box_step ?hg (N := 10) ?hd (cs := #[.int .i64 0, .int .i64 0, .int .i64 0, .slice none 0 0]) (t := 28) ?hr ?_; (case hd => rfl); (case hg => rfl); (case hr => first | (go_simp; done) | (go_simp; rfl))
          intro gb542 hg w41 hbox hb
          have n0_ := Aside0.mk (Kd.R_below (B.kr HO528) hb)
          have n1_ := Aside0.mk (Kd.R_below (B.kr HO534) hb)
          have n2_ := Aside0.mk (Kd.R_below (B.kr HO540) hb)
          have n3_ := Aside0.mk (blk_below (B.kb BK519) hb)
          have n4_ := Aside0.mk (blk_below (B.kb BK520) hb)
          have n5_ := Aside0.mk (below_step (B.bl HB) hb)
          have n6_ := Aside0.mk (hbox)
          have n7_ := Aside0.mk (B.nle hg (below_size (B.bl HB)))
          have n8_ := Aside0.mk (B.nle hg (below_size (B.bl HB)))
          have n9_ := Aside0.mk (B.nlt hg (blk_lt (B.kb BK519)))
          have n10_ := Aside0.mk (B.ngt hg (blk_lt (B.kb BK519)))
          have n11_ := Aside0.mk (B.nlt hg (blk_lt (B.kb BK520)))
          have n12_ := Aside0.mk (B.ngt hg (blk_lt (B.kb BK520)))
          clear HO528 HO534 HO540 BK519 BK520 HB
          have HO528 := n0_
          have HO534 := n1_
          have HO540 := n2_
          have BK519 := n3_
          have BK520 := n4_
          have HB := n5_
          have BK542 := n6_
          have GW542 := n7_
          have GE542 := n8_
          have NB519_542 := n9_
          have NB542_519 := n10_
          have NB520_542 := n11_
          have NB542_520 := n12_
          clear n0_ n1_ n2_ n3_ n4_ n5_ n6_ n7_ n8_ n9_ n10_ n11_ n12_
          clear hb hbox hg
          refine hK.out _ _ ⟨B.bc BK519 0, B.bc BK519 1, B.bc BK519 2, B.bc BK519 3, B.bc BK520 0, B.bc BK520 1, B.bc BK520 2, B.bc BK520 3⟩ (fun hHeld => ?_)
          clear hK K
          refine norm_ (a' := ?_) ?_ ?_
          rotate_left
          · show Act.put _ (some 10) _ = _
            simp only [Act.put, List.setIfInBounds_toArray, List.set_cons_zero, List.set_cons_succ, i64_w, i32_w]
            rfl
          exact norm_ (by simp only [putAll, Act.put, List.setIfInBounds_toArray, List.set_cons_zero, List.set_cons_succ]) (hCont (.slice Ao38 t526.length co38, .slice Ao39 t532.length co39, v539, gb542) _ ⟨hHeld, (B.kr0 (Kd.R_mono HO528.out (fun _ hk => ⟨hk.1.2, hk.2⟩))), (B.kr0 (Kd.R_mono HO534.out (fun _ hk => ⟨hk.1.2, hk.2⟩))), (B.kr0 (Kd.R_mono HO540.out (fun _ hk => ⟨hk.1.2, hk.2⟩))), (B.kb BK519), (B.kb BK520), (B.kb BK542), GW542.out, GE542.out, NB519_542.out, NB542_519.out, NB520_542.out, NB542_520.out, (B.bl HB)⟩)
        skip
        refine box_step ?hg (N := 10) ?hd (cs := #[.int .i64 0, .int .i64 0, .int .i64 0, .slice none 0 0]) (t := 28) ?hr ?_; (case hd => rfl); (case hg => rfl); (case hr => first | (go_simp; done) | (go_simp; rfl))
        intro gb542 hg w38 hbox hb
        have n0_ := Aside0.mk (Kd.R_below (B.kr HO528) hb)
        have n1_ := Aside0.mk (Kd.R_below (B.kr HO534) hb)
        have n2_ := Aside0.mk (blk_below (B.kb BK519) hb)
        have n3_ := Aside0.mk (blk_below (B.kb BK520) hb)
        have n4_ := Aside0.mk (below_step (B.bl HB) hb)
        have n5_ := Aside0.mk (hbox)
        have n6_ := Aside0.mk (B.nle hg (below_size (B.bl HB)))
        have n7_ := Aside0.mk (B.nle hg (below_size (B.bl HB)))
        have n8_ := Aside0.mk (B.nlt hg (blk_lt (B.kb BK519)))
        have n9_ := Aside0.mk (B.ngt hg (blk_lt (B.kb BK519)))
        have n10_ := Aside0.mk (B.nlt hg (blk_lt (B.kb BK520)))
        have n11_ := Aside0.mk (B.ngt hg (blk_lt (B.kb BK520)))
        clear HO528 HO534 BK519 BK520 HB
        have HO528 := n0_
        have HO534 := n1_
        have BK519 := n2_
        have BK520 := n3_
        have HB := n4_
        have BK542 := n5_
        have GW542 := n6_
        have GE542 := n7_
        have NB519_542 := n8_
        have NB542_519 := n9_
        have NB520_542 := n10_
        have NB542_520 := n11_
        clear n0_ n1_ n2_ n3_ n4_ n5_ n6_ n7_ n8_ n9_ n10_ n11_
        clear hb hbox hg
        obtain ⟨Ao39, co39, eo39⟩ := Kd.R_slice HO528.out
        (first | subst eo39 | (injection eo39 with f1_ f2_ f3_; have f4_ := f1_.symm; have f5_ := f3_.symm; clear f1_ f2_ f3_; subst f4_; subst f5_))
        obtain ⟨Ao40, co40, eo40⟩ := Kd.R_slice HO534.out
        (first | subst eo40 | (injection eo40 with f1_ f2_ f3_; have f4_ := f1_.symm; have f5_ := f3_.symm; clear f1_ f2_ f3_; subst f4_; subst f5_))
        refine hK.out _ _ ⟨B.bc BK519 0, B.bc BK519 1, B.bc BK519 2, B.bc BK519 3, B.bc BK520 0, B.bc BK520 1, B.bc BK520 2, B.bc BK520 3⟩ (fun hHeld => ?_)
        clear hK K
        refine norm_ (a' := ?_) ?_ ?_
        rotate_left
        · show Act.put _ (some 10) _ = _
          simp only [Act.put, List.setIfInBounds_toArray, List.set_cons_zero, List.set_cons_succ, i64_w, i32_w]
          rfl
        refine one_ (i := 6) (N := some 38) #[true, true, true, true, true, true, true, false, false, false, true, false, false] rfl rfl (one_of HT_.out (by kernel_rfl)) (by decide) (fun K hK => ?_)
        refine goes_ Try.func21 (by kernel_rfl) rfl #[.agg #[.int .i64 t523, .int .i64 t524, .int .i64 t525, .slice Ao39 t526.length co39], .int .i64 a1, .int .i64 a2, .agg #[.int .i64 t529, .int .i64 t530, .int .i64 t531, .slice Ao40 t532.length co40]] (by rfl) rfl rfl B.am ?_
        with_reducible refine (spec_PasteImage.calls k t523 t524 t525 _ _ t526 a1 a2 t529 t530 t531 _ _ t532 t535 t536 t537 t538 t541 _ ?side1 ?side2 ?side3 ?side4 A23.out).mono ?_
        (case side1 => exact B.kc ((Kd.R_reads' HO528.out).2.2))
        (case side2 => exact (Kd.R_reads' HO528.out).2.1)
        (case side3 => exact B.kc ((Kd.R_reads' HO534.out).2.2))
        (case side4 => exact (Kd.R_reads' HO534.out).2.1)
        rintro e w41 ⟨v539, rfl, ho0, hb⟩
        refine ⟨_, rfl, ?_⟩
        have n0_ := Aside0.mk (Kd.R_elder' (B.kr HO528) (Kd.R_base ho0) hb)
        have n1_ := Aside0.mk (Kd.R_elder' (B.kr HO534) (Kd.R_base ho0) hb)
        have n2_ := Aside0.mk (Kd.R_lower (Kd.R_new' (Kd.R_new' ho0 (Kd.R_lt (B.kr HO528))) (Kd.R_lt (B.kr HO534))) (below_size (B.bl HB)))
        have n3_ := Aside0.mk (blk_below (B.kb BK519) hb)
        have n4_ := Aside0.mk (blk_below (B.kb BK520) hb)
        have n5_ := Aside0.mk (blk_below (B.kb BK542) hb)
        have n6_ := Aside0.mk (below_step (B.bl HB) hb)
        clear HO528 HO534 BK519 BK520 BK542 HB
        have HO528 := n0_
        have HO534 := n1_
        have HO540 := n2_
        have BK519 := n3_
        have BK520 := n4_
        have BK542 := n5_
        have HB := n6_
        clear n0_ n1_ n2_ n3_ n4_ n5_ n6_
        (try clear hb)
        (try clear hb2)
        (try clear hk)
        (try clear hi)
        (try clear ho0)
        refine hK.out _ _ ⟨B.bc BK519 0, B.bc BK519 1, B.bc BK519 2, B.bc BK519 3, B.bc BK520 0, B.bc BK520 1, B.bc BK520 2, B.bc BK520 3⟩ (fun hHeld => ?_)
        clear hK K
        refine norm_ (a' := ?_) ?_ ?_
        rotate_left
        · show Act.put _ (some 38) _ = _
          simp only [Act.put, List.setIfInBounds_toArray, List.set_cons_zero, List.set_cons_succ, i64_w, i32_w]
          rfl
        refine pure_ (i := 7) (N := some 31) (v := ?_) (a' := ?_) #[true, true, true, true, true, true, true, true, false, false, true, false, false] rfl rfl (any_of HT_.out (by kernel_rfl)) (fun _ _ _ h => h) (Or.inl ⟨by rfl, ?_⟩) ?_ ?_
        rotate_left
        · intro w'
          go_simp
          with_reducible rfl
        rotate_left
        · simp only [Act.put, List.setIfInBounds_toArray, List.set_cons_zero, List.set_cons_succ, i64_w, i32_w]
          rfl
        refine pure_ (i := 8) (N := some 39) (v := ?_) (a' := ?_) #[true, true, true, true, true, true, true, true, true, false, true, false, false] rfl rfl (any_of HT_.out (by kernel_rfl)) (fun _ _ _ h => h) (Or.inl ⟨by rfl, ?_⟩) ?_ ?_
        rotate_left
        · intro w'
          go_simp
          with_reducible rfl
        rotate_left
        · simp only [Act.put, List.setIfInBounds_toArray, List.set_cons_zero, List.set_cons_succ, i64_w, i32_w]
          rfl
        refine pure_ (i := 9) (N := some 40) (v := ?_) (a' := ?_) #[true, true, true, true, true, true, true, true, true, true, true, false, false] rfl rfl (any_of HT_.out (by kernel_rfl)) (fun _ _ _ h => h) (Or.inl ⟨by rfl, ?_⟩) ?_ ?_
        rotate_left
        · intro w'
          go_simp
          with_reducible rfl
        rotate_left
        · simp only [Act.put, List.setIfInBounds_toArray, List.set_cons_zero, List.set_cons_succ, i64_w, i32_w]
          rfl
        exact norm_ (by simp only [putAll, Act.put, List.setIfInBounds_toArray, List.set_cons_zero, List.set_cons_succ]) (hCont (.slice Ao39 t526.length co39, .slice Ao40 t532.length co40, v539, gb542) _ ⟨hHeld, (B.kr0 (Kd.R_mono HO528.out (fun _ hk => ⟨hk.1.2, hk.2⟩))), (B.kr0 (Kd.R_mono HO534.out (fun _ hk => ⟨hk.1.2, hk.2⟩))), (B.kr0 (Kd.R_mono HO540.out (fun _ hk => ⟨hk.1.2, hk.2⟩))), (B.kb BK519), (B.kb BK520), (B.kb BK542), GW542.out, GE542.out, NB519_542.out, NB542_519.out, NB520_542.out, NB542_520.out, (B.bl HB)⟩)
      skip
      refine box_step ?hg (N := 10) ?hd (cs := #[.int .i64 0, .int .i64 0, .int .i64 0, .slice none 0 0]) (t := 28) ?hr ?_; (case hd => rfl); (case hg => rfl); (case hr => first | (go_simp; done) | (go_simp; rfl))
      intro gb542 hg w37 hbox hb
      have n0_ := Aside0.mk (Kd.R_below (B.kr HO528) hb)
      have n1_ := Aside0.mk (blk_below (B.kb BK519) hb)
      have n2_ := Aside0.mk (blk_below (B.kb BK520) hb)
      have n3_ := Aside0.mk (below_step (B.bl HB) hb)
      have n4_ := Aside0.mk (hbox)
      have n5_ := Aside0.mk (B.nle hg (below_size (B.bl HB)))
      have n6_ := Aside0.mk (B.nle hg (below_size (B.bl HB)))
      have n7_ := Aside0.mk (B.nlt hg (blk_lt (B.kb BK519)))
      have n8_ := Aside0.mk (B.ngt hg (blk_lt (B.kb BK519)))
      have n9_ := Aside0.mk (B.nlt hg (blk_lt (B.kb BK520)))
      have n10_ := Aside0.mk (B.ngt hg (blk_lt (B.kb BK520)))
      clear HO528 BK519 BK520 HB
      have HO528 := n0_
      have BK519 := n1_
      have BK520 := n2_
      have HB := n3_
      have BK542 := n4_
      have GW542 := n5_
      have GE542 := n6_
      have NB519_542 := n7_
      have NB542_519 := n8_
      have NB520_542 := n9_
      have NB542_520 := n10_
      clear n0_ n1_ n2_ n3_ n4_ n5_ n6_ n7_ n8_ n9_ n10_
      clear hb hbox hg
      refine hK.out _ _ ⟨B.bc BK519 0, B.bc BK519 1, B.bc BK519 2, B.bc BK519 3, B.bc BK520 0, B.bc BK520 1, B.bc BK520 2, B.bc BK520 3⟩ (fun hHeld => ?_)
      clear hK K
      refine norm_ (a' := ?_) ?_ ?_
      rotate_left
      · show Act.put _ (some 10) _ = _
        simp only [Act.put, List.setIfInBounds_toArray, List.set_cons_zero, List.set_cons_succ, i64_w, i32_w]
        rfl
      refine one_ (i := 5) (N := some 37) #[true, true, true, true, true, true, false, false, false, false, true, false, false] rfl rfl (one_of HT_.out (by kernel_rfl)) (by decide) (fun K hK => ?_)
      refine goes_ Try.func10 (by kernel_rfl) rfl #[.agg #[.int .i64 a3_0, .int .i64 a3_1, .int .i64 a3_2, .slice A3_3 l3_3.length c3_3]] (by rfl) rfl rfl B.am ?_
      with_reducible refine (laws_toImage.calls k a3_0 a3_1 a3_2 _ _ l3_3 t529 t530 t531 t532 _ ?side1 ?side2 A22.out).mono ?_
      (case side1 => exact B.kc (Kd.C_below HR3_3.out HB.out))
      (case side2 => exact HC3_3.out)
      rintro e w38 ⟨v533, rfl, ho0, hb⟩
      refine ⟨_, rfl, ?_⟩
      have n0_ := Aside0.mk (Kd.R_elder' (B.kr HO528) (Kd.R_base ho0) hb)
      have n1_ := Aside0.mk (Kd.R_lower (Kd.R_new' ho0 (Kd.R_lt (B.kr HO528))) (below_size (B.bl HB)))
      have n2_ := Aside0.mk (blk_below (B.kb BK519) hb)
      have n3_ := Aside0.mk (blk_below (B.kb BK520) hb)
      have n4_ := Aside0.mk (blk_below (B.kb BK542) hb)
      have n5_ := Aside0.mk (below_step (B.bl HB) hb)
      clear HO528 BK519 BK520 BK542 HB
      have HO528 := n0_
      have HO534 := n1_
      have BK519 := n2_
      have BK520 := n3_
      have BK542 := n4_
      have HB := n5_
      clear n0_ n1_ n2_ n3_ n4_ n5_
      (try clear hb)
      (try clear hb2)
      (try clear hk)
      (try clear hi)
      (try clear ho0)
      obtain ⟨Ao39, co39, eo39⟩ := Kd.R_slice HO528.out
      (first | subst eo39 | (injection eo39 with f1_ f2_ f3_; have f4_ := f1_.symm; have f5_ := f3_.symm; clear f1_ f2_ f3_; subst f4_; subst f5_))
      obtain ⟨Ao40, co40, eo40⟩ := Kd.R_slice HO534.out
      (first | subst eo40 | (injection eo40 with f1_ f2_ f3_; have f4_ := f1_.symm; have f5_ := f3_.symm; clear f1_ f2_ f3_; subst f4_; subst f5_))
      refine hK.out _ _ ⟨B.bc BK519 0, B.bc BK519 1, B.bc BK519 2, B.bc BK519 3, B.bc BK520 0, B.bc BK520 1, B.bc BK520 2, B.bc BK520 3⟩ (fun hHeld => ?_)
      clear hK K
      refine norm_ (a' := ?_) ?_ ?_
      rotate_left
      · show Act.put _ (some 37) _ = _
        simp only [Act.put, List.setIfInBounds_toArray, List.set_cons_zero, List.set_cons_succ, i64_w, i32_w]
        rfl
      refine one_ (i := 6) (N := some 38) #[true, true, true, true, true, true, true, false, false, false, true, false, false] rfl rfl (one_of HT_.out (by kernel_rfl)) (by decide) (fun K hK => ?_)
      refine goes_ Try.func21 (by kernel_rfl) rfl #[.agg #[.int .i64 t523, .int .i64 t524, .int .i64 t525, .slice Ao39 t526.length co39], .int .i64 a1, .int .i64 a2, .agg #[.int .i64 t529, .int .i64 t530, .int .i64 t531, .slice Ao40 t532.length co40]] (by rfl) rfl rfl B.am ?_
      with_reducible refine (spec_PasteImage.calls k t523 t524 t525 _ _ t526 a1 a2 t529 t530 t531 _ _ t532 t535 t536 t537 t538 t541 _ ?side1 ?side2 ?side3 ?side4 A23.out).mono ?_
      (case side1 => exact B.kc ((Kd.R_reads' HO528.out).2.2))
      (case side2 => exact (Kd.R_reads' HO528.out).2.1)
      (case side3 => exact B.kc ((Kd.R_reads' HO534.out).2.2))
      (case side4 => exact (Kd.R_reads' HO534.out).2.1)
      rintro e w41 ⟨v539, rfl, ho0, hb⟩
      refine ⟨_, rfl, ?_⟩
      have n0_ := Aside0.mk (Kd.R_elder' (B.kr HO528) (Kd.R_base ho0) hb)
      have n1_ := Aside0.mk (Kd.R_elder' (B.kr HO534) (Kd.R_base ho0) hb)
      have n2_ := Aside0.mk (Kd.R_lower (Kd.R_new' (Kd.R_new' ho0 (Kd.R_lt (B.kr HO528))) (Kd.R_lt (B.kr HO534))) (below_size (B.bl HB)))
      have n3_ := Aside0.mk (blk_below (B.kb BK519) hb)
      have n4_ := Aside0.mk (blk_below (B.kb BK520) hb)
      have n5_ := Aside0.mk (blk_below (B.kb BK542) hb)
      have n6_ := Aside0.mk (below_step (B.bl HB) hb)
      clear HO528 HO534 BK519 BK520 BK542 HB
      have HO528 := n0_
      have HO534 := n1_
      have HO540 := n2_
      have BK519 := n3_
      have BK520 := n4_
      have BK542 := n5_
      have HB := n6_
      clear n0_ n1_ n2_ n3_ n4_ n5_ n6_
      (try clear hb)
      (try clear hb2)
      (try clear hk)
      (try clear hi)
      (try clear ho0)
      refine hK.out _ _ ⟨B.bc BK519 0, B.bc BK519 1, B.bc BK519 2, B.bc BK519 3, B.bc BK520 0, B.bc BK520 1, B.bc BK520 2, B.bc BK520 3⟩ (fun hHeld => ?_)
      clear hK K
      refine norm_ (a' := ?_) ?_ ?_
      rotate_left
      · show Act.put _ (some 38) _ = _
        simp only [Act.put, List.setIfInBounds_toArray, List.set_cons_zero, List.set_cons_succ, i64_w, i32_w]
        rfl
      refine pure_ (i := 7) (N := some 31) (v := ?_) (a' := ?_) #[true, true, true, true, true, true, true, true, false, false, true, false, false] rfl rfl (any_of HT_.out (by kernel_rfl)) (fun _ _ _ h => h) (Or.inl ⟨by rfl, ?_⟩) ?_ ?_
      rotate_left
      · intro w'
        go_simp
        with_reducible rfl
      rotate_left
      · simp only [Act.put, List.setIfInBounds_toArray, List.set_cons_zero, List.set_cons_succ, i64_w, i32_w]
        rfl
      refine pure_ (i := 8) (N := some 39) (v := ?_) (a' := ?_) #[true, true, true, true, true, true, true, true, true, false, true, false, false] rfl rfl (any_of HT_.out (by kernel_rfl)) (fun _ _ _ h => h) (Or.inl ⟨by rfl, ?_⟩) ?_ ?_
      rotate_left
      · intro w'
        go_simp
        with_reducible rfl
      rotate_left
      · simp only [Act.put, List.setIfInBounds_toArray, List.set_cons_zero, List.set_cons_succ, i64_w, i32_w]
        rfl
      refine pure_ (i := 9) (N := some 40) (v := ?_) (a' := ?_) #[true, true, true, true, true, true, true, true, true, true, true, false, false] rfl rfl (any_of HT_.out (by kernel_rfl)) (fun _ _ _ h => h) (Or.inl ⟨by rfl, ?_⟩) ?_ ?_
      rotate_left
      · intro w'
        go_simp
        with_reducible rfl
      rotate_left
      · simp only [Act.put, List.setIfInBounds_toArray, List.set_cons_zero, List.set_cons_succ, i64_w, i32_w]
        rfl
      exact norm_ (by simp only [putAll, Act.put, List.setIfInBounds_toArray, List.set_cons_zero, List.set_cons_succ]) (hCont (.slice Ao39 t526.length co39, .slice Ao40 t532.length co40, v539, gb542) _ ⟨hHeld, (B.kr0 (Kd.R_mono HO528.out (fun _ hk => ⟨hk.1.2, hk.2⟩))), (B.kr0 (Kd.R_mono HO534.out (fun _ hk => ⟨hk.1.2, hk.2⟩))), (B.kr0 (Kd.R_mono HO540.out (fun _ hk => ⟨hk.1.2, hk.2⟩))), (B.kb BK519), (B.kb BK520), (B.kb BK542), GW542.out, GE542.out, NB519_542.out, NB542_519.out, NB520_542.out, NB542_520.out, (B.bl HB)⟩)
    skip
    refine box_step ?hg (N := 10) ?hd (cs := #[.int .i64 0, .int .i64 0, .int .i64 0, .slice none 0 0]) (t := 28) ?hr ?_; (case hd => rfl); (case hg => rfl); (case hr => first | (go_simp; done) | (go_simp; rfl))
    intro gb542 hg w36 hbox hb
    have n0_ := Aside0.mk (blk_below (B.kb BK519) hb)
    have n1_ := Aside0.mk (blk_below (B.kb BK520) hb)
    have n2_ := Aside0.mk (below_step (B.bl HB) hb)
    have n3_ := Aside0.mk (hbox)
    have n4_ := Aside0.mk (B.nle hg (below_size (B.bl HB)))
    have n5_ := Aside0.mk (B.nle hg (below_size (B.bl HB)))
    have n6_ := Aside0.mk (B.nlt hg (blk_lt (B.kb BK519)))
    have n7_ := Aside0.mk (B.ngt hg (blk_lt (B.kb BK519)))
    have n8_ := Aside0.mk (B.nlt hg (blk_lt (B.kb BK520)))
    have n9_ := Aside0.mk (B.ngt hg (blk_lt (B.kb BK520)))
    clear BK519 BK520 HB
    have BK519 := n0_
    have BK520 := n1_
    have HB := n2_
    have BK542 := n3_
    have GW542 := n4_
    have GE542 := n5_
    have NB519_542 := n6_
    have NB542_519 := n7_
    have NB520_542 := n8_
    have NB542_520 := n9_
    clear n0_ n1_ n2_ n3_ n4_ n5_ n6_ n7_ n8_ n9_
    clear hb hbox hg
    refine hK.out _ _ ⟨B.bc BK519 0, B.bc BK519 1, B.bc BK519 2, B.bc BK519 3, B.bc BK520 0, B.bc BK520 1, B.bc BK520 2, B.bc BK520 3⟩ (fun hHeld => ?_)
    clear hK K
    refine norm_ (a' := ?_) ?_ ?_
    rotate_left
    · show Act.put _ (some 10) _ = _
      simp only [Act.put, List.setIfInBounds_toArray, List.set_cons_zero, List.set_cons_succ, i64_w, i32_w]
      rfl
    refine one_ (i := 1) (N := some 33) #[true, true, true, true, true, false, false, false, false, false, true, false, false] rfl rfl (one_of HT_.out (by kernel_rfl)) (by decide) (fun K hK => ?_)
    refine goes_ Try.func10 (by kernel_rfl) rfl #[.agg #[.int .i64 a0_0, .int .i64 a0_1, .int .i64 a0_2, .slice A0_3 l0_3.length c0_3]] (by rfl) rfl rfl B.am ?_
    with_reducible refine (laws_toImage.calls k a0_0 a0_1 a0_2 _ _ l0_3 t523 t524 t525 t526 _ ?side1 ?side2 A21.out).mono ?_
    (case side1 => exact B.kc (Kd.C_below HR0_3.out HB.out))
    (case side2 => exact HC0_3.out)
    rintro e w37 ⟨v527, rfl, ho0, hb⟩
    refine ⟨_, rfl, ?_⟩
    have n0_ := Aside0.mk (Kd.R_lower ho0 (below_size (B.bl HB)))
    have n1_ := Aside0.mk (blk_below (B.kb BK519) hb)
    have n2_ := Aside0.mk (blk_below (B.kb BK520) hb)
    have n3_ := Aside0.mk (blk_below (B.kb BK542) hb)
    have n4_ := Aside0.mk (below_step (B.bl HB) hb)
    clear BK519 BK520 BK542 HB
    have HO528 := n0_
    have BK519 := n1_
    have BK520 := n2_
    have BK542 := n3_
    have HB := n4_
    clear n0_ n1_ n2_ n3_ n4_
    (try clear hb)
    (try clear hb2)
    (try clear hk)
    (try clear hi)
    (try clear ho0)
    refine hK.out _ _ ⟨B.bc BK519 0, B.bc BK519 1, B.bc BK519 2, B.bc BK519 3, B.bc BK520 0, B.bc BK520 1, B.bc BK520 2, B.bc BK520 3⟩ (fun hHeld => ?_)
    clear hK K
    refine norm_ (a' := ?_) ?_ ?_
    rotate_left
    · show Act.put _ (some 33) _ = _
      simp only [Act.put, List.setIfInBounds_toArray, List.set_cons_zero, List.set_cons_succ, i64_w, i32_w]
      rfl
    refine one_ (i := 5) (N := some 37) #[true, true, true, true, true, true, false, false, false, false, true, false, false] rfl rfl (one_of HT_.out (by kernel_rfl)) (by decide) (fun K hK => ?_)
    refine goes_ Try.func10 (by kernel_rfl) rfl #[.agg #[.int .i64 a3_0, .int .i64 a3_1, .int .i64 a3_2, .slice A3_3 l3_3.length c3_3]] (by rfl) rfl rfl B.am ?_
    with_reducible refine (laws_toImage.calls k a3_0 a3_1 a3_2 _ _ l3_3 t529 t530 t531 t532 _ ?side1 ?side2 A22.out).mono ?_
    (case side1 => exact B.kc (Kd.C_below HR3_3.out HB.out))
    (case side2 => exact HC3_3.out)
    rintro e w38 ⟨v533, rfl, ho0, hb⟩
    refine ⟨_, rfl, ?_⟩
    have n0_ := Aside0.mk (Kd.R_elder' (B.kr HO528) (Kd.R_base ho0) hb)
    have n1_ := Aside0.mk (Kd.R_lower (Kd.R_new' ho0 (Kd.R_lt (B.kr HO528))) (below_size (B.bl HB)))
    have n2_ := Aside0.mk (blk_below (B.kb BK519) hb)
    have n3_ := Aside0.mk (blk_below (B.kb BK520) hb)
    have n4_ := Aside0.mk (blk_below (B.kb BK542) hb)
    have n5_ := Aside0.mk (below_step (B.bl HB) hb)
    clear HO528 BK519 BK520 BK542 HB
    have HO528 := n0_
    have HO534 := n1_
    have BK519 := n2_
    have BK520 := n3_
    have BK542 := n4_
    have HB := n5_
    clear n0_ n1_ n2_ n3_ n4_ n5_
    (try clear hb)
    (try clear hb2)
    (try clear hk)
    (try clear hi)
    (try clear ho0)
    obtain ⟨Ao39, co39, eo39⟩ := Kd.R_slice HO528.out
    (first | subst eo39 | (injection eo39 with f1_ f2_ f3_; have f4_ := f1_.symm; have f5_ := f3_.symm; clear f1_ f2_ f3_; subst f4_; subst f5_))
    obtain ⟨Ao40, co40, eo40⟩ := Kd.R_slice HO534.out
    (first | subst eo40 | (injection eo40 with f1_ f2_ f3_; have f4_ := f1_.symm; have f5_ := f3_.symm; clear f1_ f2_ f3_; subst f4_; subst f5_))
    refine hK.out _ _ ⟨B.bc BK519 0, B.bc BK519 1, B.bc BK519 2, B.bc BK519 3, B.bc BK520 0, B.bc BK520 1, B.bc BK520 2, B.bc BK520 3⟩ (fun hHeld => ?_)
    clear hK K
    refine norm_ (a' := ?_) ?_ ?_
    rotate_left
    · show Act.put _ (some 37) _ = _
      simp only [Act.put, List.setIfInBounds_toArray, List.set_cons_zero, List.set_cons_succ, i64_w, i32_w]
      rfl
    refine one_ (i := 6) (N := some 38) #[true, true, true, true, true, true, true, false, false, false, true, false, false] rfl rfl (one_of HT_.out (by kernel_rfl)) (by decide) (fun K hK => ?_)
    refine goes_ Try.func21 (by kernel_rfl) rfl #[.agg #[.int .i64 t523, .int .i64 t524, .int .i64 t525, .slice Ao39 t526.length co39], .int .i64 a1, .int .i64 a2, .agg #[.int .i64 t529, .int .i64 t530, .int .i64 t531, .slice Ao40 t532.length co40]] (by rfl) rfl rfl B.am ?_
    with_reducible refine (spec_PasteImage.calls k t523 t524 t525 _ _ t526 a1 a2 t529 t530 t531 _ _ t532 t535 t536 t537 t538 t541 _ ?side1 ?side2 ?side3 ?side4 A23.out).mono ?_
    (case side1 => exact B.kc ((Kd.R_reads' HO528.out).2.2))
    (case side2 => exact (Kd.R_reads' HO528.out).2.1)
    (case side3 => exact B.kc ((Kd.R_reads' HO534.out).2.2))
    (case side4 => exact (Kd.R_reads' HO534.out).2.1)
    rintro e w41 ⟨v539, rfl, ho0, hb⟩
    refine ⟨_, rfl, ?_⟩
    have n0_ := Aside0.mk (Kd.R_elder' (B.kr HO528) (Kd.R_base ho0) hb)
    have n1_ := Aside0.mk (Kd.R_elder' (B.kr HO534) (Kd.R_base ho0) hb)
    have n2_ := Aside0.mk (Kd.R_lower (Kd.R_new' (Kd.R_new' ho0 (Kd.R_lt (B.kr HO528))) (Kd.R_lt (B.kr HO534))) (below_size (B.bl HB)))
    have n3_ := Aside0.mk (blk_below (B.kb BK519) hb)
    have n4_ := Aside0.mk (blk_below (B.kb BK520) hb)
    have n5_ := Aside0.mk (blk_below (B.kb BK542) hb)
    have n6_ := Aside0.mk (below_step (B.bl HB) hb)
    clear HO528 HO534 BK519 BK520 BK542 HB
    have HO528 := n0_
    have HO534 := n1_
    have HO540 := n2_
    have BK519 := n3_
    have BK520 := n4_
    have BK542 := n5_
    have HB := n6_
    clear n0_ n1_ n2_ n3_ n4_ n5_ n6_
    (try clear hb)
    (try clear hb2)
    (try clear hk)
    (try clear hi)
    (try clear ho0)
    refine hK.out _ _ ⟨B.bc BK519 0, B.bc BK519 1, B.bc BK519 2, B.bc BK519 3, B.bc BK520 0, B.bc BK520 1, B.bc BK520 2, B.bc BK520 3⟩ (fun hHeld => ?_)
    clear hK K
    refine norm_ (a' := ?_) ?_ ?_
    rotate_left
    · show Act.put _ (some 38) _ = _
      simp only [Act.put, List.setIfInBounds_toArray, List.set_cons_zero, List.set_cons_succ, i64_w, i32_w]
      rfl
    refine pure_ (i := 7) (N := some 31) (v := ?_) (a' := ?_) #[true, true, true, true, true, true, true, true, false, false, true, false, false] rfl rfl (any_of HT_.out (by kernel_rfl)) (fun _ _ _ h => h) (Or.inl ⟨by rfl, ?_⟩) ?_ ?_
    rotate_left
    · intro w'
      go_simp
      with_reducible rfl
    rotate_left
    · simp only [Act.put, List.setIfInBounds_toArray, List.set_cons_zero, List.set_cons_succ, i64_w, i32_w]
      rfl
    refine pure_ (i := 8) (N := some 39) (v := ?_) (a' := ?_) #[true, true, true, true, true, true, true, true, true, false, true, false, false] rfl rfl (any_of HT_.out (by kernel_rfl)) (fun _ _ _ h => h) (Or.inl ⟨by rfl, ?_⟩) ?_ ?_
    rotate_left
    · intro w'
      go_simp
      with_reducible rfl
    rotate_left
    · simp only [Act.put, List.setIfInBounds_toArray, List.set_cons_zero, List.set_cons_succ, i64_w, i32_w]
      rfl
    refine pure_ (i := 9) (N := some 40) (v := ?_) (a' := ?_) #[true, true, true, true, true, true, true, true, true, true, true, false, false] rfl rfl (any_of HT_.out (by kernel_rfl)) (fun _ _ _ h => h) (Or.inl ⟨by rfl, ?_⟩) ?_ ?_
    rotate_left
    · intro w'
      go_simp
      with_reducible rfl
    rotate_left
    · simp only [Act.put, List.setIfInBounds_toArray, List.set_cons_zero, List.set_cons_succ, i64_w, i32_w]
      rfl
    exact norm_ (by simp only [putAll, Act.put, List.setIfInBounds_toArray, List.set_cons_zero, List.set_cons_succ]) (hCont (.slice Ao39 t526.length co39, .slice Ao40 t532.length co40, v539, gb542) _ ⟨hHeld, (B.kr0 (Kd.R_mono HO528.out (fun _ hk => ⟨hk.1.2, hk.2⟩))), (B.kr0 (Kd.R_mono HO534.out (fun _ hk => ⟨hk.1.2, hk.2⟩))), (B.kr0 (Kd.R_mono HO540.out (fun _ hk => ⟨hk.1.2, hk.2⟩))), (B.kb BK519), (B.kb BK520), (B.kb BK542), GW542.out, GE542.out, NB519_542.out, NB542_519.out, NB520_542.out, NB542_520.out, (B.bl HB)⟩)
  rintro ⟨v527, v533, v539, gb542⟩ w42 ⟨hS_, h0_, h1_, h2_, h3_, h4_, h5_, h6_, h7_, h8_, h9_, h10_, h11_, h12_⟩
  have n0_ : Aside0 (Kd.R (Kd.int .i64) 3 w42 w.heap.size (fun k_ => some k_ ≠ (v533 : Value).ownBlock ∧ some k_ ≠ (v539 : Value).ownBlock) v527 t526) := ⟨h0_⟩
  have n1_ : Aside0 (Kd.R (Kd.int .i64) 3 w42 w.heap.size (fun k_ => some k_ ≠ (v527 : Value).ownBlock ∧ some k_ ≠ (v539 : Value).ownBlock) v533 t532) := ⟨h1_⟩
  have n2_ : Aside0 (Kd.R (Kd.int .i64) 3 w42 w.heap.size (fun k_ => some k_ ≠ (v527 : Value).ownBlock ∧ some k_ ≠ (v533 : Value).ownBlock) v539 t538) := ⟨h2_⟩
  have n3_ : Aside0 (w42.heap[gb519]? = some (.cells #[.int .i64 a0_0, .int .i64 a0_1, .int .i64 a0_2, .slice A0_3 l0_3.length c0_3] 24 (0, 0))) := ⟨h3_⟩
  have n4_ : Aside0 (w42.heap[gb520]? = some (.cells #[.int .i64 a3_0, .int .i64 a3_1, .int .i64 a3_2, .slice A3_3 l3_3.length c3_3] 24 (0, 0))) := ⟨h4_⟩
  have n5_ : Aside0 (w42.heap[gb542]? = some (.cells #[.int .i64 0, .int .i64 0, .int .i64 0, .slice none 0 0] 28 (0, 0))) := ⟨h5_⟩
  have n6_ : Aside0 (w.heap.size ≤ gb542) := ⟨h6_⟩
  have n7_ : Aside0 (w.heap.size ≤ gb542) := ⟨h7_⟩
  have n8_ : Aside0 (gb519 ≠ gb542) := ⟨h8_⟩
  have n9_ : Aside0 (gb542 ≠ gb519) := ⟨h9_⟩
  have n10_ : Aside0 (gb520 ≠ gb542) := ⟨h10_⟩
  have n11_ : Aside0 (gb542 ≠ gb520) := ⟨h11_⟩
  have n12_ : Aside0 (Below w.heap.size w w42) := ⟨h12_⟩
  clear BK519 BK520 HB
  clear h0_ h1_ h2_ h3_ h4_ h5_ h6_ h7_ h8_ h9_ h10_ h11_ h12_
  have HO528 := n0_
  have HO534 := n1_
  have HO540 := n2_
  have BK519 := n3_
  have BK520 := n4_
  have BK542 := n5_
  have GW542 := n6_
  have GE542 := n7_
  have NB519_542 := n8_
  have NB542_519 := n9_
  have NB520_542 := n10_
  have NB542_520 := n11_
  have HB := n12_
  clear n0_ n1_ n2_ n3_ n4_ n5_ n6_ n7_ n8_ n9_ n10_ n11_ n12_
  have hHeld : w42.cell? ⟨gb519, 0, none⟩ = some (.int .i64 a0_0) ∧ w42.cell? ⟨gb519, 1, none⟩ = some (.int .i64 a0_1) ∧ w42.cell? ⟨gb519, 2, none⟩ = some (.int .i64 a0_2) ∧ w42.cell? ⟨gb519, 3, none⟩ = some (.slice A0_3 l0_3.length c0_3) ∧ w42.cell? ⟨gb520, 0, none⟩ = some (.int .i64 a3_0) ∧ w42.cell? ⟨gb520, 1, none⟩ = some (.int .i64 a3_1) ∧ w42.cell? ⟨gb520, 2, none⟩ = some (.int .i64 a3_2) ∧ w42.cell? ⟨gb520, 3, none⟩ = some (.slice A3_3 l3_3.length c3_3) := hS_
  obtain ⟨Ao46, co46, eo46⟩ := Kd.R_slice HO540.out
  (first | subst eo46 | (injection eo46 with f1_ f2_ f3_; have f4_ := f1_.symm; have f5_ := f3_.symm; clear f1_ f2_ f3_; subst f4_; subst f5_))
  refine norm_ (a' := ?_) ?_ ?_
  rotate_left
  · simp only [putAll, Act.put, List.setIfInBounds_toArray, List.set_cons_zero, List.set_cons_succ]
    rfl
  refine one_ (i := 11) (N := none) #[true, true, true, true, true, true, true, true, true, true, true, true, false] rfl rfl (one_of HT_.out (by kernel_rfl)) (by decide) (fun K hK => ?_)
  have hs43 : w42.cell? ⟨gb542, 0, none⟩ = some (.int .i64 0) := B.bc BK542 0
  have hfs43 := blk_frozen BK542.out 0
  have hns43_0 := NB519_542.out
  have hns43_1 := NB520_542.out
  have hms43_0 := NB542_519.out
  have hms43_1 := NB542_520.out
  have hs44 : w42.cell? ⟨gb542, 1, none⟩ = some (.int .i64 0) := B.bc BK542 1
  have hfs44 := blk_frozen BK542.out 1
  have hns44_0 := NB519_542.out
  have hns44_1 := NB520_542.out
  have hms44_0 := NB542_519.out
  have hms44_1 := NB542_520.out
  have hs45 : w42.cell? ⟨gb542, 2, none⟩ = some (.int .i64 0) := B.bc BK542 2
  have hfs45 := blk_frozen BK542.out 2
  have hns45_0 := NB519_542.out
  have hns45_1 := NB520_542.out
  have hms45_0 := NB542_519.out
  have hms45_1 := NB542_520.out
  have hs47 : w42.cell? ⟨gb542, 3, none⟩ = some (.slice none 0 0) := B.bc BK542 3
  have hfs47 := blk_frozen BK542.out 3
  have hns47_0 := NB519_542.out
  have hns47_1 := NB520_542.out
  have hms47_0 := NB542_519.out
  have hms47_1 := NB542_520.out
  refine skip_ (w1 := ?_) (by rfl) rfl ?_ ?_
  rotate_left
  · go_simp
    rfl
  refine hK.out _ _ ⟨(B.cf4 NB519_542 hHeld.1), (B.cf4 NB519_542 hHeld.2.1), (B.cf4 NB519_542 hHeld.2.2.1), (B.cf4 NB519_542 hHeld.2.2.2.1), (B.cf4 NB520_542 hHeld.2.2.2.2.1), (B.cf4 NB520_542 hHeld.2.2.2.2.2.1), (B.cf4 NB520_542 hHeld.2.2.2.2.2.2.1), (B.cf4 NB520_542 hHeld.2.2.2.2.2.2.2)⟩ (fun hHeld => ?_)
  clear hK K
  refine pure_ (i := 12) (N := some 11) (v := ?_) (a' := ?_) #[true, true, true, true, true, true, true, true, true, true, true, true, true] rfl rfl (any_of HT_.out (by kernel_rfl)) (fun _ _ _ h => h) (Or.inl ⟨by rfl, ?_⟩) ?_ ?_
  rotate_left
  · intro w'
    go_simp
    with_reducible rfl
  rotate_left
  · simp only [Act.put, List.setIfInBounds_toArray, List.set_cons_zero, List.set_cons_succ, i64_w, i32_w]
    rfl
  refine done_ (done_of HT_.out (by kernel_rfl)) ?_
  have hnb48 := NB519_542.out
  have hnc48 := NB542_519.out
  have hcz49_0 : w42.cell? ⟨gb519, 0, none⟩ = some (.int .i64 a0_0) := B.bc BK519 0
  have hcz49_1 : w42.cell? ⟨gb519, 1, none⟩ = some (.int .i64 a0_1) := B.bc BK519 1
  have hcz49_2 : w42.cell? ⟨gb519, 2, none⟩ = some (.int .i64 a0_2) := B.bc BK519 2
  have hcz49_3 : w42.cell? ⟨gb519, 3, none⟩ = some (.slice A0_3 l0_3.length c0_3) := B.bc BK519 3
  have hfz49_0 := blk_frozen BK519.out 0
  have hfz49_1 := blk_frozen BK519.out 1
  have hfz49_2 := blk_frozen BK519.out 2
  have hfz49_3 := blk_frozen BK519.out 3
  go_upto_region 12 with (first | ((with_reducible refine gate_callee (f := 10) rfl ?_); refine goesL_ (some 42) rfl rfl Try.func10 (by kernel_rfl) rfl #[.agg #[.int .i64 a0_0, .int .i64 a0_1, .int .i64 a0_2, .slice A0_3 l0_3.length c0_3]] rfl B.am ?_; (with_reducible refine (laws_toImage.calls k a0_0 a0_1 a0_2 _ _ l0_3 t543 t544 t545 t546 _ ?side1 ?side2 A24.out).mono ?_); (case side1 => exact Kd.C_below HR0_3.out (B.bl HB)); (case side2 => exact HC0_3.out); rintro e w50 ⟨v547, rfl, ho0, hb⟩; refine ⟨_, rfl, ?_⟩; have n0_ := Aside0.mk (Kd.R_elder' (B.kr0 (B.rs4 HO528 BK542)) (Kd.R_base ho0) hb); have n1_ := Aside0.mk (Kd.R_elder' (B.kr0 (B.rs4 HO534 BK542)) (Kd.R_base ho0) hb); have n2_ := Aside0.mk (Kd.R_elder' (B.kr0 (B.rs4 HO540 BK542)) (Kd.R_base ho0) hb); have n3_ := Aside0.mk (Kd.R_lower (Kd.R_new' (Kd.R_new' (Kd.R_new' ho0 (Kd.R_lt (B.kr0 (B.rs4 HO528 BK542)))) (Kd.R_lt (B.kr0 (B.rs4 HO534 BK542)))) (Kd.R_lt (B.kr0 (B.rs4 HO540 BK542)))) (below_size (B.bl HB))); have n4_ := Aside0.mk (blk_below (B.kb0 (B.bf4 BK519 NB519_542)) hb); have n5_ := Aside0.mk (blk_below (B.kb0 (B.bf4 BK520 NB520_542)) hb); have n6_ := Aside0.mk (blk_below (g := gb542) (o := .cells #[.int .i64 t535, .int .i64 t536, .int .i64 t537, .slice Ao46 t538.length co46] 28 (0, 0)) (B.kb0 (B.bp4 BK542)) hb); have n7_ := Aside0.mk (below_step (B.bl HB) hb); clear HO528 HO534 HO540 BK519 BK520 BK542 HB; have HO528 := n0_; have HO534 := n1_; have HO540 := n2_; have HO548 := n3_; have BK519 := n4_; have BK520 := n5_; have BK542 := n6_; have HB := n7_; clear n0_ n1_ n2_ n3_ n4_ n5_ n6_ n7_; (try clear hb); (try clear hb2); (try clear hk); (try clear hi); (try clear ho0)) | ((with_reducible refine gate_dst (N := 12) rfl ?_); refine box_event ?hg (N := 12) ?hd (cs := #[.int .i64 0, .int .i64 0, .int .i64 0, .slice none 0 0]) (t := 28) ?hr ?_; (case hd => rfl); (case hg => rfl); (case hr => first | (go_simp; done) | (go_simp; rfl)); intro gb549 hg w51 hbox hb; have n0_ := Aside0.mk (Kd.R_below (B.kr HO528) hb); have n1_ := Aside0.mk (Kd.R_below (B.kr HO534) hb); have n2_ := Aside0.mk (Kd.R_below (B.kr HO540) hb); have n3_ := Aside0.mk (Kd.R_below (B.kr HO548) hb); have n4_ := Aside0.mk (blk_below (B.kb BK519) hb); have n5_ := Aside0.mk (blk_below (B.kb BK520) hb); have n6_ := Aside0.mk (blk_below (B.kb BK542) hb); have n7_ := Aside0.mk (below_step (B.bl HB) hb); have n8_ := Aside0.mk (hbox); have n9_ := Aside0.mk (B.nle hg (below_size (B.bl HB))); have n10_ := Aside0.mk (B.nle hg (below_size (B.bl HB))); have n11_ := Aside0.mk (B.nlt hg (blk_lt (B.kb BK519))); have n12_ := Aside0.mk (B.ngt hg (blk_lt (B.kb BK519))); have n13_ := Aside0.mk (B.nlt hg (blk_lt (B.kb BK520))); have n14_ := Aside0.mk (B.ngt hg (blk_lt (B.kb BK520))); have n15_ := Aside0.mk (B.nlt hg (blk_lt (B.kb BK542))); have n16_ := Aside0.mk (B.ngt hg (blk_lt (B.kb BK542))); clear HO528 HO534 HO540 HO548 BK519 BK520 BK542 HB; have HO528 := n0_; have HO534 := n1_; have HO540 := n2_; have HO548 := n3_; have BK519 := n4_; have BK520 := n5_; have BK542 := n6_; have HB := n7_; have BK549 := n8_; have GW549 := n9_; have GE549 := n10_; have NB519_549 := n11_; have NB549_519 := n12_; have NB520_549 := n13_; have NB549_520 := n14_; have NB542_549 := n15_; have NB549_542 := n16_; clear n0_ n1_ n2_ n3_ n4_ n5_ n6_ n7_ n8_ n9_ n10_ n11_ n12_ n13_ n14_ n15_ n16_; clear hb hbox hg; have hnb52 := NB549_519.out; have hnc52 := NB519_549.out; have hnb53 := NB549_520.out; have hnc53 := NB520_549.out; have hnb54 := NB549_542.out; have hnc54 := NB542_549.out; have hcz55_0 : w51.cell? ⟨gb549, 0, none⟩ = some (.int .i64 0) := B.bc BK549 0; have hcz55_1 : w51.cell? ⟨gb549, 1, none⟩ = some (.int .i64 0) := B.bc BK549 1; have hcz55_2 : w51.cell? ⟨gb549, 2, none⟩ = some (.int .i64 0) := B.bc BK549 2; have hcz55_3 : w51.cell? ⟨gb549, 3, none⟩ = some (.slice none 0 0) := B.bc BK549 3; have hfz55_0 := blk_frozen BK549.out 0; have hfz55_1 := blk_frozen BK549.out 1; have hfz55_2 := blk_frozen BK549.out 2; have hfz55_3 := blk_frozen BK549.out 3; obtain ⟨Ao56, co56, eo56⟩ := Kd.R_slice HO548.out; subst eo56; have hnb57 := NB520_542.out; have hnc57 := NB542_520.out; have hcz58_0 : w51.cell? ⟨gb520, 0, none⟩ = some (.int .i64 a3_0) := B.bc BK520 0; have hcz58_1 : w51.cell? ⟨gb520, 1, none⟩ = some (.int .i64 a3_1) := B.bc BK520 1; have hcz58_2 : w51.cell? ⟨gb520, 2, none⟩ = some (.int .i64 a3_2) := B.bc BK520 2; have hcz58_3 : w51.cell? ⟨gb520, 3, none⟩ = some (.slice A3_3 l3_3.length c3_3) := B.bc BK520 3; have hfz58_0 := blk_frozen BK520.out 0; have hfz58_1 := blk_frozen BK520.out 1; have hfz58_2 := blk_frozen BK520.out 2; have hfz58_3 := blk_frozen BK520.out 3) | ((with_reducible refine gate_callee (f := 10) rfl ?_); refine goesL_ (some 44) rfl rfl Try.func10 (by kernel_rfl) rfl #[.agg #[.int .i64 a3_0, .int .i64 a3_1, .int .i64 a3_2, .slice A3_3 l3_3.length c3_3]] rfl B.am ?_; (with_reducible refine (laws_toImage.calls k a3_0 a3_1 a3_2 _ _ l3_3 t550 t551 t552 t553 _ ?side1 ?side2 A25.out).mono ?_); (case side1 => exact Kd.C_below HR3_3.out (B.bl HB)); (case side2 => exact HC3_3.out); rintro e w59 ⟨v554, rfl, ho0, hb⟩; refine ⟨_, rfl, ?_⟩; have n0_ := Aside0.mk (Kd.R_elder' (B.kr0 (B.rs4 HO528 BK549)) (Kd.R_base ho0) hb); have n1_ := Aside0.mk (Kd.R_elder' (B.kr0 (B.rs4 HO534 BK549)) (Kd.R_base ho0) hb); have n2_ := Aside0.mk (Kd.R_elder' (B.kr0 (B.rs4 HO540 BK549)) (Kd.R_base ho0) hb); have n3_ := Aside0.mk (Kd.R_elder' (B.kr0 (B.rs4 HO548 BK549)) (Kd.R_base ho0) hb); have n4_ := Aside0.mk (Kd.R_lower (Kd.R_new' (Kd.R_new' (Kd.R_new' (Kd.R_new' ho0 (Kd.R_lt (B.kr0 (B.rs4 HO528 BK549)))) (Kd.R_lt (B.kr0 (B.rs4 HO534 BK549)))) (Kd.R_lt (B.kr0 (B.rs4 HO540 BK549)))) (Kd.R_lt (B.kr0 (B.rs4 HO548 BK549)))) (below_size (B.bl HB))); have n5_ := Aside0.mk (blk_below (B.kb0 (B.bf4 BK519 NB519_549)) hb); have n6_ := Aside0.mk (blk_below (B.kb0 (B.bf4 BK520 NB520_549)) hb); have n7_ := Aside0.mk (blk_below (B.kb0 (B.bf4 BK542 NB542_549)) hb); have n8_ := Aside0.mk (blk_below (g := gb549) (o := .cells #[.int .i64 t543, .int .i64 t544, .int .i64 t545, .slice Ao56 t546.length co56] 28 (0, 0)) (B.kb0 (B.bp4 BK549)) hb); have n9_ := Aside0.mk (below_step (B.bl HB) hb); clear HO528 HO534 HO540 HO548 BK519 BK520 BK542 BK549 HB; have HO528 := n0_; have HO534 := n1_; have HO540 := n2_; have HO548 := n3_; have HO555 := n4_; have BK519 := n5_; have BK520 := n6_; have BK542 := n7_; have BK549 := n8_; have HB := n9_; clear n0_ n1_ n2_ n3_ n4_ n5_ n6_ n7_ n8_ n9_; (try clear hb); (try clear hb2); (try clear hk); (try clear hi); (try clear ho0)) | ((with_reducible refine gate_dst (N := 13) rfl ?_); refine box_event ?hg (N := 13) ?hd (cs := #[.int .i64 0, .int .i64 0, .int .i64 0, .slice none 0 0]) (t := 28) ?hr ?_; (case hd => rfl); (case hg => rfl); (case hr => first | (go_simp; done) | (go_simp; rfl)); intro gb556 hg w60 hbox hb; have n0_ := Aside0.mk (Kd.R_below (B.kr HO528) hb); have n1_ := Aside0.mk (Kd.R_below (B.kr HO534) hb); have n2_ := Aside0.mk (Kd.R_below (B.kr HO540) hb); have n3_ := Aside0.mk (Kd.R_below (B.kr HO548) hb); have n4_ := Aside0.mk (Kd.R_below (B.kr HO555) hb); have n5_ := Aside0.mk (blk_below (B.kb BK519) hb); have n6_ := Aside0.mk (blk_below (B.kb BK520) hb); have n7_ := Aside0.mk (blk_below (B.kb BK542) hb); have n8_ := Aside0.mk (blk_below (B.kb BK549) hb); have n9_ := Aside0.mk (below_step (B.bl HB) hb); have n10_ := Aside0.mk (hbox); have n11_ := Aside0.mk (B.nle hg (below_size (B.bl HB))); have n12_ := Aside0.mk (B.nle hg (below_size (B.bl HB))); have n13_ := Aside0.mk (B.nlt hg (blk_lt (B.kb BK519))); have n14_ := Aside0.mk (B.ngt hg (blk_lt (B.kb BK519))); have n15_ := Aside0.mk (B.nlt hg (blk_lt (B.kb BK520))); have n16_ := Aside0.mk (B.ngt hg (blk_lt (B.kb BK520))); have n17_ := Aside0.mk (B.nlt hg (blk_lt (B.kb BK542))); have n18_ := Aside0.mk (B.ngt hg (blk_lt (B.kb BK542))); have n19_ := Aside0.mk (B.nlt hg (blk_lt (B.kb BK549))); have n20_ := Aside0.mk (B.ngt hg (blk_lt (B.kb BK549))); clear HO528 HO534 HO540 HO548 HO555 BK519 BK520 BK542 BK549 HB; have HO528 := n0_; have HO534 := n1_; have HO540 := n2_; have HO548 := n3_; have HO555 := n4_; have BK519 := n5_; have BK520 := n6_; have BK542 := n7_; have BK549 := n8_; have HB := n9_; have BK556 := n10_; have GW556 := n11_; have GE556 := n12_; have NB519_556 := n13_; have NB556_519 := n14_; have NB520_556 := n15_; have NB556_520 := n16_; have NB542_556 := n17_; have NB556_542 := n18_; have NB549_556 := n19_; have NB556_549 := n20_; clear n0_ n1_ n2_ n3_ n4_ n5_ n6_ n7_ n8_ n9_ n10_ n11_ n12_ n13_ n14_ n15_ n16_ n17_ n18_ n19_ n20_; clear hb hbox hg; have hnb61 := NB556_519.out; have hnc61 := NB519_556.out; have hnb62 := NB556_520.out; have hnc62 := NB520_556.out; have hnb63 := NB556_542.out; have hnc63 := NB542_556.out; have hnb64 := NB556_549.out; have hnc64 := NB549_556.out; have hcz65_0 : w60.cell? ⟨gb556, 0, none⟩ = some (.int .i64 0) := B.bc BK556 0; have hcz65_1 : w60.cell? ⟨gb556, 1, none⟩ = some (.int .i64 0) := B.bc BK556 1; have hcz65_2 : w60.cell? ⟨gb556, 2, none⟩ = some (.int .i64 0) := B.bc BK556 2; have hcz65_3 : w60.cell? ⟨gb556, 3, none⟩ = some (.slice none 0 0) := B.bc BK556 3; have hfz65_0 := blk_frozen BK556.out 0; have hfz65_1 := blk_frozen BK556.out 1; have hfz65_2 := blk_frozen BK556.out 2; have hfz65_3 := blk_frozen BK556.out 3; obtain ⟨Ao66, co66, eo66⟩ := Kd.R_slice HO555.out; subst eo66; have hcz67_0 : w60.cell? ⟨gb549, 0, none⟩ = some (.int .i64 t543) := B.bc BK549 0; have hcz67_1 : w60.cell? ⟨gb549, 1, none⟩ = some (.int .i64 t544) := B.bc BK549 1; have hcz67_2 : w60.cell? ⟨gb549, 2, none⟩ = some (.int .i64 t545) := B.bc BK549 2; have hcz67_3 : w60.cell? ⟨gb549, 3, none⟩ = some (.slice Ao56 t546.length co56) := B.bc BK549 3; have hfz67_0 := blk_frozen BK549.out 0; have hfz67_1 := blk_frozen BK549.out 1; have hfz67_2 := blk_frozen BK549.out 2; have hfz67_3 := blk_frozen BK549.out 3) | ((with_reducible refine gate_callee (f := 18) rfl ?_); refine goesL_ (some 50) rfl rfl Try.func18 (by kernel_rfl) rfl #[.agg #[.int .i64 t543, .int .i64 t544, .int .i64 t545, .slice Ao56 t546.length co56], .int .i64 a1, .int .i64 a2, .agg #[.int .i64 t550, .int .i64 t551, .int .i64 t552, .slice Ao66 t553.length co66]] rfl B.am ?_; (with_reducible refine (impl_PasteImage.calls t543 t544 t545 _ _ t546 a1 a2 t550 t551 t552 _ _ t553 t557 t558 t559 t560 t563 _ ?side1 ?side2 ?side3 ?side4 A26.out).mono ?_); (case side1 => refine (Kd.R_reads' (e := 3) (base := w.heap.size) (ok := fun k_ => ((((True ∧ some k_ ≠ (v527 : Value).ownBlock) ∧ some k_ ≠ (v533 : Value).ownBlock) ∧ some k_ ≠ (.slice Ao46 t538.length co46 : Value).ownBlock) ∧ some k_ ≠ (.slice Ao66 t553.length co66 : Value).ownBlock)) (n := t546.length) (c := co56) ?_).2.2; exact (B.kr0 (B.rs4 HO548 BK556))); (case side2 => exact (Kd.R_reads' HO548.out).2.1); (case side3 => refine (Kd.R_reads' (e := 3) (base := w.heap.size) (ok := fun k_ => ((((True ∧ some k_ ≠ (v527 : Value).ownBlock) ∧ some k_ ≠ (v533 : Value).ownBlock) ∧ some k_ ≠ (.slice Ao46 t538.length co46 : Value).ownBlock) ∧ some k_ ≠ (.slice Ao56 t546.length co56 : Value).ownBlock)) (n := t553.length) (c := co66) ?_).2.2; exact (B.kr0 (B.rs4 HO555 BK556))); (case side4 => exact (Kd.R_reads' HO555.out).2.1); rintro e w68 ⟨v561, rfl, ho0, hb⟩; refine ⟨_, rfl, ?_⟩; have n0_ := Aside0.mk (Kd.R_elder' (B.kr0 (B.rs4 HO528 BK556)) (Kd.R_base ho0) hb); have n1_ := Aside0.mk (Kd.R_elder' (B.kr0 (B.rs4 HO534 BK556)) (Kd.R_base ho0) hb); have n2_ := Aside0.mk (Kd.R_elder' (B.kr0 (B.rs4 HO540 BK556)) (Kd.R_base ho0) hb); have n3_ := Aside0.mk (Kd.R_elder' (B.kr0 (B.rs4 HO548 BK556)) (Kd.R_base ho0) hb); have n4_ := Aside0.mk (Kd.R_elder' (B.kr0 (B.rs4 HO555 BK556)) (Kd.R_base ho0) hb); have n5_ := Aside0.mk (Kd.R_lower (Kd.R_new' (Kd.R_new' (Kd.R_new' (Kd.R_new' (Kd.R_new' ho0 (Kd.R_lt (B.kr0 (B.rs4 HO528 BK556)))) (Kd.R_lt (B.kr0 (B.rs4 HO534 BK556)))) (Kd.R_lt (B.kr0 (B.rs4 HO540 BK556)))) (Kd.R_lt (B.kr0 (B.rs4 HO548 BK556)))) (Kd.R_lt (B.kr0 (B.rs4 HO555 BK556)))) (below_size (B.bl HB))); have n6_ := Aside0.mk (blk_below (B.kb0 (B.bf4 BK519 NB519_556)) hb); have n7_ := Aside0.mk (blk_below (B.kb0 (B.bf4 BK520 NB520_556)) hb); have n8_ := Aside0.mk (blk_below (B.kb0 (B.bf4 BK542 NB542_556)) hb); have n9_ := Aside0.mk (blk_below (B.kb0 (B.bf4 BK549 NB549_556)) hb); have n10_ := Aside0.mk (blk_below (g := gb556) (o := .cells #[.int .i64 t550, .int .i64 t551, .int .i64 t552, .slice Ao66 t553.length co66] 28 (0, 0)) (B.kb0 (B.bp4 BK556)) hb); have n11_ := Aside0.mk (below_step (B.bl HB) hb); clear HO528 HO534 HO540 HO548 HO555 BK519 BK520 BK542 BK549 BK556 HB; have HO528 := n0_; have HO534 := n1_; have HO540 := n2_; have HO548 := n3_; have HO555 := n4_; have HO562 := n5_; have BK519 := n6_; have BK520 := n7_; have BK542 := n8_; have BK549 := n9_; have BK556 := n10_; have HB := n11_; clear n0_ n1_ n2_ n3_ n4_ n5_ n6_ n7_ n8_ n9_ n10_ n11_; (try clear hb); (try clear hb2); (try clear hk); (try clear hi); (try clear ho0)) | ((with_reducible refine gate_dst (N := 14) rfl ?_); refine box_event ?hg (N := 14) ?hd (cs := #[.int .i64 0, .int .i64 0, .int .i64 0, .slice none 0 0]) (t := 28) ?hr ?_; (case hd => rfl); (case hg => rfl); (case hr => first | (go_simp; done) | (go_simp; rfl)); intro gb564 hg w69 hbox hb; have n0_ := Aside0.mk (Kd.R_below (B.kr HO528) hb); have n1_ := Aside0.mk (Kd.R_below (B.kr HO534) hb); have n2_ := Aside0.mk (Kd.R_below (B.kr HO540) hb); have n3_ := Aside0.mk (Kd.R_below (B.kr HO548) hb); have n4_ := Aside0.mk (Kd.R_below (B.kr HO555) hb); have n5_ := Aside0.mk (Kd.R_below (B.kr HO562) hb); have n6_ := Aside0.mk (blk_below (B.kb BK519) hb); have n7_ := Aside0.mk (blk_below (B.kb BK520) hb); have n8_ := Aside0.mk (blk_below (B.kb BK542) hb); have n9_ := Aside0.mk (blk_below (B.kb BK549) hb); have n10_ := Aside0.mk (blk_below (B.kb BK556) hb); have n11_ := Aside0.mk (below_step (B.bl HB) hb); have n12_ := Aside0.mk (hbox); have n13_ := Aside0.mk (B.nle hg (below_size (B.bl HB))); have n14_ := Aside0.mk (B.nle hg (below_size (B.bl HB))); have n15_ := Aside0.mk (B.nlt hg (blk_lt (B.kb BK519))); have n16_ := Aside0.mk (B.ngt hg (blk_lt (B.kb BK519))); have n17_ := Aside0.mk (B.nlt hg (blk_lt (B.kb BK520))); have n18_ := Aside0.mk (B.ngt hg (blk_lt (B.kb BK520))); have n19_ := Aside0.mk (B.nlt hg (blk_lt (B.kb BK542))); have n20_ := Aside0.mk (B.ngt hg (blk_lt (B.kb BK542))); have n21_ := Aside0.mk (B.nlt hg (blk_lt (B.kb BK549))); have n22_ := Aside0.mk (B.ngt hg (blk_lt (B.kb BK549))); have n23_ := Aside0.mk (B.nlt hg (blk_lt (B.kb BK556))); have n24_ := Aside0.mk (B.ngt hg (blk_lt (B.kb BK556))); clear HO528 HO534 HO540 HO548 HO555 HO562 BK519 BK520 BK542 BK549 BK556 HB; have HO528 := n0_; have HO534 := n1_; have HO540 := n2_; have HO548 := n3_; have HO555 := n4_; have HO562 := n5_; have BK519 := n6_; have BK520 := n7_; have BK542 := n8_; have BK549 := n9_; have BK556 := n10_; have HB := n11_; have BK564 := n12_; have GW564 := n13_; have GE564 := n14_; have NB519_564 := n15_; have NB564_519 := n16_; have NB520_564 := n17_; have NB564_520 := n18_; have NB542_564 := n19_; have NB564_542 := n20_; have NB549_564 := n21_; have NB564_549 := n22_; have NB556_564 := n23_; have NB564_556 := n24_; clear n0_ n1_ n2_ n3_ n4_ n5_ n6_ n7_ n8_ n9_ n10_ n11_ n12_ n13_ n14_ n15_ n16_ n17_ n18_ n19_ n20_ n21_ n22_ n23_ n24_; clear hb hbox hg; have hnb70 := NB564_519.out; have hnc70 := NB519_564.out; have hnb71 := NB564_520.out; have hnc71 := NB520_564.out; have hnb72 := NB564_542.out; have hnc72 := NB542_564.out; have hnb73 := NB564_549.out; have hnc73 := NB549_564.out; have hnb74 := NB564_556.out; have hnc74 := NB556_564.out; have hcz75_0 : w69.cell? ⟨gb564, 0, none⟩ = some (.int .i64 0) := B.bc BK564 0; have hcz75_1 : w69.cell? ⟨gb564, 1, none⟩ = some (.int .i64 0) := B.bc BK564 1; have hcz75_2 : w69.cell? ⟨gb564, 2, none⟩ = some (.int .i64 0) := B.bc BK564 2; have hcz75_3 : w69.cell? ⟨gb564, 3, none⟩ = some (.slice none 0 0) := B.bc BK564 3; have hfz75_0 := blk_frozen BK564.out 0; have hfz75_1 := blk_frozen BK564.out 1; have hfz75_2 := blk_frozen BK564.out 2; have hfz75_3 := blk_frozen BK564.out 3; obtain ⟨Ao76, co76, eo76⟩ := Kd.R_slice HO562.out; subst eo76))
  (try simp only [Act.put, List.setIfInBounds_toArray, List.set_cons_zero, List.set_cons_succ])
  go_cut [61] (fun v61 wc => ∃ (kq : Nat) (x61_26 : Bool), v61 = .bool x61_26 ∧ Aside0 (laws_FnExactPasteImage.j0 kq a1 a2 t541 t563 x61_26 a0_0 a0_1 a0_2 l0_3 a3_0 a3_1 a3_2 l3_3 t535 t536 t537 t538 t543 t544 t545 t546 t550 t551 t552 t553 t557 t558 t559 t560 = some r) ∧ Aside0 (kq ≤ k) ∧ Aside0 (Kd.R (Kd.int .i64) 3 wc w.heap.size (fun k_ => some k_ ≠ ((.slice Ao56 t546.length co56) : Value).ownBlock ∧ some k_ ≠ ((.slice Ao66 t553.length co66) : Value).ownBlock ∧ some k_ ≠ ((.slice Ao76 t560.length co76) : Value).ownBlock) (.slice Ao46 t538.length co46) t538) ∧ Aside0 (Kd.R (Kd.int .i64) 3 wc w.heap.size (fun k_ => some k_ ≠ ((.slice Ao46 t538.length co46) : Value).ownBlock ∧ some k_ ≠ ((.slice Ao66 t553.length co66) : Value).ownBlock ∧ some k_ ≠ ((.slice Ao76 t560.length co76) : Value).ownBlock) (.slice Ao56 t546.length co56) t546) ∧ Aside0 (Kd.R (Kd.int .i64) 3 wc w.heap.size (fun k_ => some k_ ≠ ((.slice Ao46 t538.length co46) : Value).ownBlock ∧ some k_ ≠ ((.slice Ao56 t546.length co56) : Value).ownBlock ∧ some k_ ≠ ((.slice Ao76 t560.length co76) : Value).ownBlock) (.slice Ao66 t553.length co66) t553) ∧ Aside0 (Kd.R (Kd.int .i64) 3 wc w.heap.size (fun k_ => some k_ ≠ ((.slice Ao46 t538.length co46) : Value).ownBlock ∧ some k_ ≠ ((.slice Ao56 t546.length co56) : Value).ownBlock ∧ some k_ ≠ ((.slice Ao66 t553.length co66) : Value).ownBlock) (.slice Ao76 t560.length co76) t560) ∧ Aside0 (wc.heap[gb519]? = some (.cells #[.int .i64 a0_0, .int .i64 a0_1, .int .i64 a0_2, (.slice A0_3 l0_3.length c0_3)] 24 (0, 0))) ∧ Aside0 (wc.heap[gb520]? = some (.cells #[.int .i64 a3_0, .int .i64 a3_1, .int .i64 a3_2, (.slice A3_3 l3_3.length c3_3)] 24 (0, 0))) ∧ Aside0 (wc.heap[gb542]? = some (.cells #[.int .i64 t535, .int .i64 t536, .int .i64 t537, (.slice Ao46 t538.length co46)] 28 (0, 0))) ∧ Aside0 (wc.heap[gb549]? = some (.cells #[.int .i64 t543, .int .i64 t544, .int .i64 t545, (.slice Ao56 t546.length co56)] 28 (0, 0))) ∧ Aside0 (wc.heap[gb556]? = some (.cells #[.int .i64 t550, .int .i64 t551, .int .i64 t552, (.slice Ao66 t553.length co66)] 28 (0, 0))) ∧ Aside0 (wc.heap[gb564]? = some (.cells #[.int .i64 t557, .int .i64 t558, .int .i64 t559, (.slice Ao76 t560.length co76)] 28 (0, 0))) ∧ Aside0 (Below w.heap.size w wc))
  case first =>
    have H := HC27.out
    clear HC27
    replace H := Option.bind_eq_some_iff.mp H
    obtain ⟨t565, A770, H⟩ := H
    replace H : (if t565 = true then (laws_FnExactPasteImage.j0 k a1 a2 t541 t563 (t563 != t541) a0_0 a0_1 a0_2 l0_3 a3_0 a3_1 a3_2 l3_3 t535 t536 t537 t538 t543 t544 t545 t546 t550 t551 t552 t553 t557 t558 t559 t560) else (laws_FnExactPasteImage.j0 k a1 a2 t541 t563 true a0_0 a0_1 a0_2 l0_3 a3_0 a3_1 a3_2 l3_3 t535 t536 t537 t538 t543 t544 t545 t546 t550 t551 t552 t553 t557 t558 t559 t560)) = some r := H
    have A77 := Aside0.mk A770
    clear A770
    by_cases c78 : t565 = true
    · subst c78
      have H1 : (laws_FnExactPasteImage.j0 k a1 a2 t541 t563 (t563 != t541) a0_0 a0_1 a0_2 l0_3 a3_0 a3_1 a3_2 l3_3 t535 t536 t537 t538 t543 t544 t545 t546 t550 t551 t552 t553 t557 t558 t559 t560) = some r := by rw [if_pos rfl] at H; exact H
      clear H
      have H := H1
      clear H1
      have H' := Aside0.mk H
      clear H
      have hnb79 := NB564_519.out
      have hnc79 := NB519_564.out
      have hnb80 := NB564_520.out
      have hnc80 := NB520_564.out
      have hnb81 := NB564_542.out
      have hnc81 := NB542_564.out
      have hnb82 := NB564_549.out
      have hnc82 := NB549_564.out
      have hnb83 := NB564_556.out
      have hnc83 := NB556_564.out
      have hcz84_0 : w69.cell? ⟨gb564, 0, none⟩ = some (.int .i64 0) := B.bc BK564 0
      have hcz84_1 : w69.cell? ⟨gb564, 1, none⟩ = some (.int .i64 0) := B.bc BK564 1
      have hcz84_2 : w69.cell? ⟨gb564, 2, none⟩ = some (.int .i64 0) := B.bc BK564 2
      have hcz84_3 : w69.cell? ⟨gb564, 3, none⟩ = some (.slice none 0 0) := B.bc BK564 3
      have hfz84_0 := blk_frozen BK564.out 0
      have hfz84_1 := blk_frozen BK564.out 1
      have hfz84_2 := blk_frozen BK564.out 2
      have hfz84_3 := blk_frozen BK564.out 3
      have hnb85 := NB542_519.out
      have hnc85 := NB519_542.out
      have hnb86 := NB542_520.out
      have hnc86 := NB520_542.out
      have hnb87 := NB542_549.out
      have hnc87 := NB549_542.out
      have hnb88 := NB542_556.out
      have hnc88 := NB556_542.out
      have hcz89_0 : w69.cell? ⟨gb542, 0, none⟩ = some (.int .i64 t535) := B.bc BK542 0
      have hcz89_1 : w69.cell? ⟨gb542, 1, none⟩ = some (.int .i64 t536) := B.bc BK542 1
      have hcz89_2 : w69.cell? ⟨gb542, 2, none⟩ = some (.int .i64 t537) := B.bc BK542 2
      have hcz89_3 : w69.cell? ⟨gb542, 3, none⟩ = some (.slice Ao46 t538.length co46) := B.bc BK542 3
      have hfz89_0 := blk_frozen BK542.out 0
      have hfz89_1 := blk_frozen BK542.out 1
      have hfz89_2 := blk_frozen BK542.out 2
      have hfz89_3 := blk_frozen BK542.out 3
      go_wp2_with (first | ((with_reducible refine gate_callee (f := 13) rfl ?_); refine goesL_ (some 55) rfl rfl Try.func13 (by kernel_rfl) rfl #[.agg #[.int .i64 t557, .int .i64 t558, .int .i64 t559, .slice Ao76 t560.length co76], .agg #[.int .i64 t535, .int .i64 t536, .int .i64 t537, .slice Ao46 t538.length co46]] rfl B.am ?_; (with_reducible refine (laws_eqImage.calls k t557 t558 t559 _ _ t560 t535 t536 t537 _ _ t538 true _ ?side1 ?side2 ?side3 ?side4 A77.out).mono ?_); (case side1 => refine (Kd.R_reads' (e := 3) (base := w.heap.size) (ok := fun k_ => (((((True ∧ some k_ ≠ (v527 : Value).ownBlock) ∧ some k_ ≠ (v533 : Value).ownBlock) ∧ some k_ ≠ (.slice Ao46 t538.length co46 : Value).ownBlock) ∧ some k_ ≠ (.slice Ao56 t546.length co56 : Value).ownBlock) ∧ some k_ ≠ (.slice Ao66 t553.length co66 : Value).ownBlock)) (n := t560.length) (c := co76) ?_).2.2; exact (B.kr0 (B.rs4 HO562 BK564))); (case side2 => exact (Kd.R_reads' HO562.out).2.1); (case side3 => refine (Kd.R_reads' (e := 3) (base := w.heap.size) (ok := fun k_ => ((((some k_ ≠ (v527 : Value).ownBlock ∧ some k_ ≠ (v533 : Value).ownBlock) ∧ some k_ ≠ (.slice Ao56 t546.length co56 : Value).ownBlock) ∧ some k_ ≠ (.slice Ao66 t553.length co66 : Value).ownBlock) ∧ some k_ ≠ (.slice Ao76 t560.length co76 : Value).ownBlock)) (n := t538.length) (c := co46) ?_).2.2; exact (B.kr0 (B.rs4 HO540 BK564))); (case side4 => exact (Kd.R_reads' HO540.out).2.1); rintro e w90 ⟨rfl, hb⟩; refine ⟨_, rfl, ?_⟩; have n0_ := Aside0.mk (Kd.R_below (B.kr0 (B.rs4 HO528 BK564)) hb); have n1_ := Aside0.mk (Kd.R_below (B.kr0 (B.rs4 HO534 BK564)) hb); have n2_ := Aside0.mk (Kd.R_below (B.kr0 (B.rs4 HO540 BK564)) hb); have n3_ := Aside0.mk (Kd.R_below (B.kr0 (B.rs4 HO548 BK564)) hb); have n4_ := Aside0.mk (Kd.R_below (B.kr0 (B.rs4 HO555 BK564)) hb); have n5_ := Aside0.mk (Kd.R_below (B.kr0 (B.rs4 HO562 BK564)) hb); have n6_ := Aside0.mk (blk_below (B.kb0 (B.bf4 BK519 NB519_564)) hb); have n7_ := Aside0.mk (blk_below (B.kb0 (B.bf4 BK520 NB520_564)) hb); have n8_ := Aside0.mk (blk_below (B.kb0 (B.bf4 BK542 NB542_564)) hb); have n9_ := Aside0.mk (blk_below (B.kb0 (B.bf4 BK549 NB549_564)) hb); have n10_ := Aside0.mk (blk_below (B.kb0 (B.bf4 BK556 NB556_564)) hb); have n11_ := Aside0.mk (blk_below (g := gb564) (o := .cells #[.int .i64 t557, .int .i64 t558, .int .i64 t559, .slice Ao76 t560.length co76] 28 (0, 0)) (B.kb0 (B.bp4 BK564)) hb); have n12_ := Aside0.mk (below_step (B.bl HB) hb); clear HO528 HO534 HO540 HO548 HO555 HO562 BK519 BK520 BK542 BK549 BK556 BK564 HB; have HO528 := n0_; have HO534 := n1_; have HO540 := n2_; have HO548 := n3_; have HO555 := n4_; have HO562 := n5_; have BK519 := n6_; have BK520 := n7_; have BK542 := n8_; have BK549 := n9_; have BK556 := n10_; have BK564 := n11_; have HB := n12_; clear n0_ n1_ n2_ n3_ n4_ n5_ n6_ n7_ n8_ n9_ n10_ n11_ n12_; (try clear hb); (try clear hb2); (try clear hk); (try clear hi)))
      go_meet
      case rel => exact ⟨_, ((t563 != t541)), (by first | rfl | (simp; done) | (simp [*]; done)), H', ⟨by first | omega | exact Nat.le_refl _⟩, ⟨B.kr0 (Kd.R_mono HO540.out (fun _ hk => ⟨hk.1.1.2, ⟨hk.1.2, hk.2⟩⟩))⟩, ⟨B.kr0 (Kd.R_mono HO548.out (fun _ hk => ⟨hk.1.1.2, ⟨hk.1.2, hk.2⟩⟩))⟩, ⟨B.kr0 (Kd.R_mono HO555.out (fun _ hk => ⟨hk.1.1.2, ⟨hk.1.2, hk.2⟩⟩))⟩, ⟨B.kr0 (Kd.R_mono HO562.out (fun _ hk => ⟨hk.1.1.2, ⟨hk.1.2, hk.2⟩⟩))⟩, ⟨B.kb BK519⟩, ⟨B.kb BK520⟩, ⟨B.kb BK542⟩, ⟨B.kb BK549⟩, ⟨B.kb BK556⟩, ⟨B.kb BK564⟩, ⟨B.bl HB⟩⟩
    replace c78 := Bool.eq_false_iff.mpr c78
    subst c78
    have H1 : (laws_FnExactPasteImage.j0 k a1 a2 t541 t563 true a0_0 a0_1 a0_2 l0_3 a3_0 a3_1 a3_2 l3_3 t535 t536 t537 t538 t543 t544 t545 t546 t550 t551 t552 t553 t557 t558 t559 t560) = some r := by rw [if_neg (show ¬ (false = true) by decide)] at H; exact H
    clear H
    have H := H1
    clear H1
    exact absurd ht_.out (by revert H; cases k <;> intro H <;> simp [laws_FnExactPasteImage.j0] at H <;> (first | (subst H; decide) | simp [← H] | simp [H]))
  case rest =>
    clear HC27
    try clear c1
    try clear c2
    try clear p2
    try clear c3
    try clear c4
    try clear c5
    try clear c6
    try clear c7
    try clear c8
    try clear c10
    try clear c13
    try clear c18
    try clear c21
    try clear c48
    try clear c52
    try clear c53
    try clear c54
    try clear c57
    try clear c61
    try clear c62
    try clear c63
    try clear c64
    try clear c70
    try clear c71
    try clear c72
    try clear c73
    try clear c74
    try clear c78
    try clear c79
    try clear c80
    try clear c81
    try clear c82
    try clear c83
    try clear c85
    try clear c86
    try clear c87
    try clear c88
    try clear hcz49_0
    try clear hcz49_1
    try clear hcz49_2
    try clear hcz49_3
    try clear hcz55_0
    try clear hcz55_1
    try clear hcz55_2
    try clear hcz55_3
    try clear hcz58_0
    try clear hcz58_1
    try clear hcz58_2
    try clear hcz58_3
    try clear hcz65_0
    try clear hcz65_1
    try clear hcz65_2
    try clear hcz65_3
    try clear hcz67_0
    try clear hcz67_1
    try clear hcz67_2
    try clear hcz67_3
    try clear hcz75_0
    try clear hcz75_1
    try clear hcz75_2
    try clear hcz75_3
    try clear hcz84_0
    try clear hcz84_1
    try clear hcz84_2
    try clear hcz84_3
    try clear hcz89_0
    try clear hcz89_1
    try clear hcz89_2
    try clear hcz89_3
    try clear hfz49_0
    try clear hfz49_1
    try clear hfz49_2
    try clear hfz49_3
    try clear hfz55_0
    try clear hfz55_1
    try clear hfz55_2
    try clear hfz55_3
    try clear hfz58_0
    try clear hfz58_1
    try clear hfz58_2
    try clear hfz58_3
    try clear hfz65_0
    try clear hfz65_1
    try clear hfz65_2
    try clear hfz65_3
    try clear hfz67_0
    try clear hfz67_1
    try clear hfz67_2
    try clear hfz67_3
    try clear hfz75_0
    try clear hfz75_1
    try clear hfz75_2
    try clear hfz75_3
    try clear hfz84_0
    try clear hfz84_1
    try clear hfz84_2
    try clear hfz84_3
    try clear hfz89_0
    try clear hfz89_1
    try clear hfz89_2
    try clear hfz89_3
    obtain ⟨kq, x61_26, rfl, HA, HJ26, HO_543003, HO_550003, HO_557003, HO_565003, BK519, BK520, BK542, BK549, BK556, BK564, HB⟩ := hcut
    cases kq with
    | zero => exact absurd HA.out (by simp [laws_FnExactPasteImage.j0])
    | succ kj26 =>
      have H := HA.out
      clear HA
      simp only [laws_FnExactPasteImage.j0] at H
      by_cases c91 : x61_26 = true
      · subst c91
        have H1 : (some false) = some r := by rw [if_pos rfl] at H; exact H
        clear H
        have H := H1
        clear H1
        obtain rfl := Option.some.inj H
        exact absurd ht_.out (by decide)
      replace c91 := Bool.eq_false_iff.mpr c91
      subst c91
      have H1 : ((laws_toImage.f kj26 a0_0 a0_1 a0_2 l0_3).bind fun bt566 => ((laws_eqImage.f kj26 t543 t544 t545 t546 bt566.1 bt566.2.1 bt566.2.2.1 bt566.2.2.2).bind fun t572 => (if t572 = true then ((laws_toImage.f kj26 a3_0 a3_1 a3_2 l3_3).bind fun bt573 => ((laws_eqImage.f kj26 t550 t551 t552 t553 bt573.1 bt573.2.1 bt573.2.2.1 bt573.2.2.2).bind fun t579 => (if t579 = true then ((laws_markImage.f kj26 t543 t544 t545 t546 1).bind fun bt580 => ((laws_markImage.f kj26 t550 t551 t552 t553 bt580.1).bind fun bt582 => (if bt582.1 < 0 then (laws_FnExactPasteImage.j1 kj26 a1 a2 t541 true a0_0 a0_1 a0_2 l0_3 a3_0 a3_1 a3_2 l3_3 t535 t536 t537 t538 t557 t558 t559 t560) else ((laws_eqImage.f kj26 t557 t558 t559 t560 t535 t536 t537 t538).bind fun t584 => (if t584 = true then (laws_FnExactPasteImage.j1 kj26 a1 a2 t541 (t563 != t541) a0_0 a0_1 a0_2 l0_3 a3_0 a3_1 a3_2 l3_3 t535 t536 t537 t538 t557 t558 t559 t560) else (laws_FnExactPasteImage.j1 kj26 a1 a2 t541 true a0_0 a0_1 a0_2 l0_3 a3_0 a3_1 a3_2 l3_3 t535 t536 t537 t538 t557 t558 t559 t560)))))) else (some false)))) else (some false)))) = some r := by rw [if_neg (show ¬ (false = true) by decide)] at H; exact H
      clear H
      have H := H1
      clear H1
      replace H := Option.bind_eq_some_iff.mp H
      obtain ⟨⟨t566, t567, t568, t569⟩, A920, H⟩ := H
      replace H : ((laws_eqImage.f kj26 t543 t544 t545 t546 t566 t567 t568 t569).bind fun t572 => (if t572 = true then ((laws_toImage.f kj26 a3_0 a3_1 a3_2 l3_3).bind fun bt573 => ((laws_eqImage.f kj26 t550 t551 t552 t553 bt573.1 bt573.2.1 bt573.2.2.1 bt573.2.2.2).bind fun t579 => (if t579 = true then ((laws_markImage.f kj26 t543 t544 t545 t546 1).bind fun bt580 => ((laws_markImage.f kj26 t550 t551 t552 t553 bt580.1).bind fun bt582 => (if bt582.1 < 0 then (laws_FnExactPasteImage.j1 kj26 a1 a2 t541 true a0_0 a0_1 a0_2 l0_3 a3_0 a3_1 a3_2 l3_3 t535 t536 t537 t538 t557 t558 t559 t560) else ((laws_eqImage.f kj26 t557 t558 t559 t560 t535 t536 t537 t538).bind fun t584 => (if t584 = true then (laws_FnExactPasteImage.j1 kj26 a1 a2 t541 (t563 != t541) a0_0 a0_1 a0_2 l0_3 a3_0 a3_1 a3_2 l3_3 t535 t536 t537 t538 t557 t558 t559 t560) else (laws_FnExactPasteImage.j1 kj26 a1 a2 t541 true a0_0 a0_1 a0_2 l0_3 a3_0 a3_1 a3_2 l3_3 t535 t536 t537 t538 t557 t558 t559 t560)))))) else (some false)))) else (some false))) = some r := H
      have A92 := Aside0.mk A920
      clear A920
      replace H := Option.bind_eq_some_iff.mp H
      obtain ⟨t572, A930, H⟩ := H
      replace H : (if t572 = true then ((laws_toImage.f kj26 a3_0 a3_1 a3_2 l3_3).bind fun bt573 => ((laws_eqImage.f kj26 t550 t551 t552 t553 bt573.1 bt573.2.1 bt573.2.2.1 bt573.2.2.2).bind fun t579 => (if t579 = true then ((laws_markImage.f kj26 t543 t544 t545 t546 1).bind fun bt580 => ((laws_markImage.f kj26 t550 t551 t552 t553 bt580.1).bind fun bt582 => (if bt582.1 < 0 then (laws_FnExactPasteImage.j1 kj26 a1 a2 t541 true a0_0 a0_1 a0_2 l0_3 a3_0 a3_1 a3_2 l3_3 t535 t536 t537 t538 t557 t558 t559 t560) else ((laws_eqImage.f kj26 t557 t558 t559 t560 t535 t536 t537 t538).bind fun t584 => (if t584 = true then (laws_FnExactPasteImage.j1 kj26 a1 a2 t541 (t563 != t541) a0_0 a0_1 a0_2 l0_3 a3_0 a3_1 a3_2 l3_3 t535 t536 t537 t538 t557 t558 t559 t560) else (laws_FnExactPasteImage.j1 kj26 a1 a2 t541 true a0_0 a0_1 a0_2 l0_3 a3_0 a3_1 a3_2 l3_3 t535 t536 t537 t538 t557 t558 t559 t560)))))) else (some false)))) else (some false)) = some r := H
      have A93 := Aside0.mk A930
      clear A930
      by_cases c94 : t572 = true
      · subst c94
        have H1 : ((laws_toImage.f kj26 a3_0 a3_1 a3_2 l3_3).bind fun bt573 => ((laws_eqImage.f kj26 t550 t551 t552 t553 bt573.1 bt573.2.1 bt573.2.2.1 bt573.2.2.2).bind fun t579 => (if t579 = true then ((laws_markImage.f kj26 t543 t544 t545 t546 1).bind fun bt580 => ((laws_markImage.f kj26 t550 t551 t552 t553 bt580.1).bind fun bt582 => (if bt582.1 < 0 then (laws_FnExactPasteImage.j1 kj26 a1 a2 t541 true a0_0 a0_1 a0_2 l0_3 a3_0 a3_1 a3_2 l3_3 t535 t536 t537 t538 t557 t558 t559 t560) else ((laws_eqImage.f kj26 t557 t558 t559 t560 t535 t536 t537 t538).bind fun t584 => (if t584 = true then (laws_FnExactPasteImage.j1 kj26 a1 a2 t541 (t563 != t541) a0_0 a0_1 a0_2 l0_3 a3_0 a3_1 a3_2 l3_3 t535 t536 t537 t538 t557 t558 t559 t560) else (laws_FnExactPasteImage.j1 kj26 a1 a2 t541 true a0_0 a0_1 a0_2 l0_3 a3_0 a3_1 a3_2 l3_3 t535 t536 t537 t538 t557 t558 t559 t560)))))) else (some false)))) = some r := by rw [if_pos rfl] at H; exact H
        clear H
        have H := H1
        clear H1
        replace H := Option.bind_eq_some_iff.mp H
        obtain ⟨⟨t573, t574, t575, t576⟩, A950, H⟩ := H
        replace H : ((laws_eqImage.f kj26 t550 t551 t552 t553 t573 t574 t575 t576).bind fun t579 => (if t579 = true then ((laws_markImage.f kj26 t543 t544 t545 t546 1).bind fun bt580 => ((laws_markImage.f kj26 t550 t551 t552 t553 bt580.1).bind fun bt582 => (if bt582.1 < 0 then (laws_FnExactPasteImage.j1 kj26 a1 a2 t541 true a0_0 a0_1 a0_2 l0_3 a3_0 a3_1 a3_2 l3_3 t535 t536 t537 t538 t557 t558 t559 t560) else ((laws_eqImage.f kj26 t557 t558 t559 t560 t535 t536 t537 t538).bind fun t584 => (if t584 = true then (laws_FnExactPasteImage.j1 kj26 a1 a2 t541 (t563 != t541) a0_0 a0_1 a0_2 l0_3 a3_0 a3_1 a3_2 l3_3 t535 t536 t537 t538 t557 t558 t559 t560) else (laws_FnExactPasteImage.j1 kj26 a1 a2 t541 true a0_0 a0_1 a0_2 l0_3 a3_0 a3_1 a3_2 l3_3 t535 t536 t537 t538 t557 t558 t559 t560)))))) else (some false))) = some r := H
        have A95 := Aside0.mk A950
        clear A950
        replace H := Option.bind_eq_some_iff.mp H
        obtain ⟨t579, A960, H⟩ := H
        replace H : (if t579 = true then ((laws_markImage.f kj26 t543 t544 t545 t546 1).bind fun bt580 => ((laws_markImage.f kj26 t550 t551 t552 t553 bt580.1).bind fun bt582 => (if bt582.1 < 0 then (laws_FnExactPasteImage.j1 kj26 a1 a2 t541 true a0_0 a0_1 a0_2 l0_3 a3_0 a3_1 a3_2 l3_3 t535 t536 t537 t538 t557 t558 t559 t560) else ((laws_eqImage.f kj26 t557 t558 t559 t560 t535 t536 t537 t538).bind fun t584 => (if t584 = true then (laws_FnExactPasteImage.j1 kj26 a1 a2 t541 (t563 != t541) a0_0 a0_1 a0_2 l0_3 a3_0 a3_1 a3_2 l3_3 t535 t536 t537 t538 t557 t558 t559 t560) else (laws_FnExactPasteImage.j1 kj26 a1 a2 t541 true a0_0 a0_1 a0_2 l0_3 a3_0 a3_1 a3_2 l3_3 t535 t536 t537 t538 t557 t558 t559 t560)))))) else (some false)) = some r := H
        have A96 := Aside0.mk A960
        clear A960
        by_cases c97 : t579 = true
        · subst c97
          have H1 : ((laws_markImage.f kj26 t543 t544 t545 t546 1).bind fun bt580 => ((laws_markImage.f kj26 t550 t551 t552 t553 bt580.1).bind fun bt582 => (if bt582.1 < 0 then (laws_FnExactPasteImage.j1 kj26 a1 a2 t541 true a0_0 a0_1 a0_2 l0_3 a3_0 a3_1 a3_2 l3_3 t535 t536 t537 t538 t557 t558 t559 t560) else ((laws_eqImage.f kj26 t557 t558 t559 t560 t535 t536 t537 t538).bind fun t584 => (if t584 = true then (laws_FnExactPasteImage.j1 kj26 a1 a2 t541 (t563 != t541) a0_0 a0_1 a0_2 l0_3 a3_0 a3_1 a3_2 l3_3 t535 t536 t537 t538 t557 t558 t559 t560) else (laws_FnExactPasteImage.j1 kj26 a1 a2 t541 true a0_0 a0_1 a0_2 l0_3 a3_0 a3_1 a3_2 l3_3 t535 t536 t537 t538 t557 t558 t559 t560)))))) = some r := by rw [if_pos rfl] at H; exact H
          clear H
          have H := H1
          clear H1
          replace H := Option.bind_eq_some_iff.mp H
          obtain ⟨⟨t580, t581⟩, A980, H⟩ := H
          replace H : ((laws_markImage.f kj26 t550 t551 t552 t553 t580).bind fun bt582 => (if bt582.1 < 0 then (laws_FnExactPasteImage.j1 kj26 a1 a2 t541 true a0_0 a0_1 a0_2 l0_3 a3_0 a3_1 a3_2 l3_3 t535 t536 t537 t538 t557 t558 t559 t560) else ((laws_eqImage.f kj26 t557 t558 t559 t560 t535 t536 t537 t538).bind fun t584 => (if t584 = true then (laws_FnExactPasteImage.j1 kj26 a1 a2 t541 (t563 != t541) a0_0 a0_1 a0_2 l0_3 a3_0 a3_1 a3_2 l3_3 t535 t536 t537 t538 t557 t558 t559 t560) else (laws_FnExactPasteImage.j1 kj26 a1 a2 t541 true a0_0 a0_1 a0_2 l0_3 a3_0 a3_1 a3_2 l3_3 t535 t536 t537 t538 t557 t558 t559 t560))))) = some r := H
          have A98 := Aside0.mk A980
          clear A980
          replace H := Option.bind_eq_some_iff.mp H
          obtain ⟨⟨t582, t583⟩, A990, H⟩ := H
          replace H : (if t582 < 0 then (laws_FnExactPasteImage.j1 kj26 a1 a2 t541 true a0_0 a0_1 a0_2 l0_3 a3_0 a3_1 a3_2 l3_3 t535 t536 t537 t538 t557 t558 t559 t560) else ((laws_eqImage.f kj26 t557 t558 t559 t560 t535 t536 t537 t538).bind fun t584 => (if t584 = true then (laws_FnExactPasteImage.j1 kj26 a1 a2 t541 (t563 != t541) a0_0 a0_1 a0_2 l0_3 a3_0 a3_1 a3_2 l3_3 t535 t536 t537 t538 t557 t558 t559 t560) else (laws_FnExactPasteImage.j1 kj26 a1 a2 t541 true a0_0 a0_1 a0_2 l0_3 a3_0 a3_1 a3_2 l3_3 t535 t536 t537 t538 t557 t558 t559 t560)))) = some r := H
          have A99 := Aside0.mk A990
          clear A990
          have HC100 := Aside0.mk H
          clear H
          try go_wp2
          have n0_ := Aside0.mk (Kd.R_drew HO_543003.out)
          have n1_ := Aside0.mk (Kd.R_drew HO_550003.out)
          have n2_ := Aside0.mk (Kd.R_drew HO_557003.out)
          have n3_ := Aside0.mk (Kd.R_drew HO_565003.out)
          have n4_ := Aside0.mk (blk_drew BK519.out)
          have n5_ := Aside0.mk (blk_drew BK520.out)
          have n6_ := Aside0.mk (blk_drew BK542.out)
          have n7_ := Aside0.mk (blk_drew BK549.out)
          have n8_ := Aside0.mk (blk_drew BK556.out)
          have n9_ := Aside0.mk (blk_drew BK564.out)
          have n10_ := Aside0.mk (below_drew1 HB.out)
          clear HO_543003 HO_550003 HO_557003 HO_565003 BK519 BK520 BK542 BK549 BK556 BK564 HB
          have HO_543003 := n0_
          have HO_550003 := n1_
          have HO_557003 := n2_
          have HO_565003 := n3_
          have BK519 := n4_
          have BK520 := n5_
          have BK542 := n6_
          have BK549 := n7_
          have BK556 := n8_
          have BK564 := n9_
          have HB := n10_
          clear n0_ n1_ n2_ n3_ n4_ n5_ n6_ n7_ n8_ n9_ n10_
          refine start_ (n := 5) (S := fun w' => w'.cell? ⟨gb549, 0, none⟩ = some (.int .i64 t543) ∧ w'.cell? ⟨gb549, 1, none⟩ = some (.int .i64 t544) ∧ w'.cell? ⟨gb549, 2, none⟩ = some (.int .i64 t545) ∧ w'.cell? ⟨gb549, 3, none⟩ = some (.slice Ao56 t546.length co56) ∧ w'.cell? ⟨gb519, 0, none⟩ = some (.int .i64 a0_0) ∧ w'.cell? ⟨gb519, 1, none⟩ = some (.int .i64 a0_1) ∧ w'.cell? ⟨gb519, 2, none⟩ = some (.int .i64 a0_2) ∧ w'.cell? ⟨gb519, 3, none⟩ = some (.slice A0_3 l0_3.length c0_3)) (ds := []) #[false, false, false, false, false] (by kernel_rfl) rfl rfl ⟨B.bc BK549 0, B.bc BK549 1, B.bc BK549 2, B.bc BK549 3, B.bc BK519 0, B.bc BK519 1, B.bc BK519 2, B.bc BK519 3⟩ (fun hHeld => ?_)
          generalize wc.drew = w101 at HO_543003 HO_550003 HO_557003 HO_565003 BK519 BK520 BK542 BK549 BK556 BK564 HB hHeld ⊢
          refine take_ (i := 0) (N := some 62) (v := ?_) (a' := ?_) #[true, false, false, false, false] rfl rfl (by kernel_rfl) (fun _ _ _ h => h) (Or.inl ⟨by rfl, ?_⟩) hHeld ?_ ?_
          rotate_left
          · rintro w' ⟨s0, s1, s2, s3, s4, s5, s6, s7⟩
            go_simp
            with_reducible rfl
          rotate_left
          · simp only [Act.put, List.setIfInBounds_toArray, List.set_cons_zero, List.set_cons_succ, i64_w, i32_w]
            rfl
          refine take_ (i := 1) (N := some 63) (v := ?_) (a' := ?_) #[true, true, false, false, false] rfl rfl (by kernel_rfl) (fun _ _ _ h => h) (Or.inl ⟨by rfl, ?_⟩) hHeld ?_ ?_
          rotate_left
          · rintro w' ⟨s0, s1, s2, s3, s4, s5, s6, s7⟩
            go_simp
            with_reducible rfl
          rotate_left
          · simp only [Act.put, List.setIfInBounds_toArray, List.set_cons_zero, List.set_cons_succ, i64_w, i32_w]
            rfl
          refine one_ (i := 2) (N := some 64) #[true, true, true, false, false] rfl rfl (by kernel_rfl) (by decide) (fun K hK => ?_)
          refine goes_ Try.func10 (by kernel_rfl) rfl #[.agg #[.int .i64 a0_0, .int .i64 a0_1, .int .i64 a0_2, .slice A0_3 l0_3.length c0_3]] (by rfl) rfl rfl B.am ?_
          with_reducible refine (laws_toImage.calls kj26 a0_0 a0_1 a0_2 _ _ l0_3 t566 t567 t568 t569 _ ?side1 ?side2 A92.out).mono ?_
          (case side1 => exact B.kc (Kd.C_below HR0_3.out HB.out))
          (case side2 => exact HC0_3.out)
          rintro e w102 ⟨v570, rfl, ho0, hb⟩
          refine ⟨_, rfl, ?_⟩
          have n0_ := Aside0.mk (Kd.R_elder' (B.kr HO_543003) (Kd.R_base ho0) hb)
          have n1_ := Aside0.mk (Kd.R_elder' (B.kr HO_550003) (Kd.R_base ho0) hb)
          have n2_ := Aside0.mk (Kd.R_elder' (B.kr HO_557003) (Kd.R_base ho0) hb)
          have n3_ := Aside0.mk (Kd.R_elder' (B.kr HO_565003) (Kd.R_base ho0) hb)
          have n4_ := Aside0.mk (Kd.R_lower (Kd.R_new' (Kd.R_new' (Kd.R_new' (Kd.R_new' ho0 (Kd.R_lt (B.kr HO_543003))) (Kd.R_lt (B.kr HO_550003))) (Kd.R_lt (B.kr HO_557003))) (Kd.R_lt (B.kr HO_565003))) (below_size (B.bl HB)))
          have n5_ := Aside0.mk (blk_below (B.kb BK519) hb)
          have n6_ := Aside0.mk (blk_below (B.kb BK520) hb)
          have n7_ := Aside0.mk (blk_below (B.kb BK542) hb)
          have n8_ := Aside0.mk (blk_below (B.kb BK549) hb)
          have n9_ := Aside0.mk (blk_below (B.kb BK556) hb)
          have n10_ := Aside0.mk (blk_below (B.kb BK564) hb)
          have n11_ := Aside0.mk (below_step (B.bl HB) hb)
          clear HO_543003 HO_550003 HO_557003 HO_565003 BK519 BK520 BK542 BK549 BK556 BK564 HB
          have HO_543003 := n0_
          have HO_550003 := n1_
          have HO_557003 := n2_
          have HO_565003 := n3_
          have HO571 := n4_
          have BK519 := n5_
          have BK520 := n6_
          have BK542 := n7_
          have BK549 := n8_
          have BK556 := n9_
          have BK564 := n10_
          have HB := n11_
          clear n0_ n1_ n2_ n3_ n4_ n5_ n6_ n7_ n8_ n9_ n10_ n11_
          (try clear hb)
          (try clear hb2)
          (try clear hk)
          (try clear hi)
          (try clear ho0)
          obtain ⟨Ao103, co103, eo103⟩ := Kd.R_slice HO571.out
          (first | subst eo103 | (injection eo103 with f1_ f2_ f3_; have f4_ := f1_.symm; have f5_ := f3_.symm; clear f1_ f2_ f3_; subst f4_; subst f5_))
          refine hK.out _ _ ⟨B.bc BK549 0, B.bc BK549 1, B.bc BK549 2, B.bc BK549 3, B.bc BK519 0, B.bc BK519 1, B.bc BK519 2, B.bc BK519 3⟩ (fun hHeld => ?_)
          clear hK K
          refine norm_ (a' := ?_) ?_ ?_
          rotate_left
          · show Act.put _ (some 64) _ = _
            simp only [Act.put, List.setIfInBounds_toArray, List.set_cons_zero, List.set_cons_succ, i64_w, i32_w]
            rfl
          refine one_ (i := 3) (N := some 65) #[true, true, true, true, false] rfl rfl (by kernel_rfl) (by decide) (fun K hK => ?_)
          refine goes_ Try.func13 (by kernel_rfl) rfl #[.agg #[.int .i64 t543, .int .i64 t544, .int .i64 t545, .slice Ao56 t546.length co56], .agg #[.int .i64 t566, .int .i64 t567, .int .i64 t568, .slice Ao103 t569.length co103]] (by rfl) rfl rfl B.am ?_
          with_reducible refine (laws_eqImage.calls kj26 t543 t544 t545 _ _ t546 t566 t567 t568 _ _ t569 true _ ?side1 ?side2 ?side3 ?side4 A93.out).mono ?_
          (case side1 => exact B.kc ((Kd.R_reads' HO_550003.out).2.2))
          (case side2 => exact (Kd.R_reads' HO_550003.out).2.1)
          (case side3 => exact B.kc ((Kd.R_reads' HO571.out).2.2))
          (case side4 => exact (Kd.R_reads' HO571.out).2.1)
          rintro e w104 ⟨rfl, hb⟩
          refine ⟨_, rfl, ?_⟩
          have n0_ := Aside0.mk (Kd.R_below (B.kr HO_543003) hb)
          have n1_ := Aside0.mk (Kd.R_below (B.kr HO_550003) hb)
          have n2_ := Aside0.mk (Kd.R_below (B.kr HO_557003) hb)
          have n3_ := Aside0.mk (Kd.R_below (B.kr HO_565003) hb)
          have n4_ := Aside0.mk (Kd.R_below (B.kr HO571) hb)
          have n5_ := Aside0.mk (blk_below (B.kb BK519) hb)
          have n6_ := Aside0.mk (blk_below (B.kb BK520) hb)
          have n7_ := Aside0.mk (blk_below (B.kb BK542) hb)
          have n8_ := Aside0.mk (blk_below (B.kb BK549) hb)
          have n9_ := Aside0.mk (blk_below (B.kb BK556) hb)
          have n10_ := Aside0.mk (blk_below (B.kb BK564) hb)
          have n11_ := Aside0.mk (below_step (B.bl HB) hb)
          clear HO_543003 HO_550003 HO_557003 HO_565003 HO571 BK519 BK520 BK542 BK549 BK556 BK564 HB
          have HO_543003 := n0_
          have HO_550003 := n1_
          have HO_557003 := n2_
          have HO_565003 := n3_
          have HO571 := n4_
          have BK519 := n5_
          have BK520 := n6_
          have BK542 := n7_
          have BK549 := n8_
          have BK556 := n9_
          have BK564 := n10_
          have HB := n11_
          clear n0_ n1_ n2_ n3_ n4_ n5_ n6_ n7_ n8_ n9_ n10_ n11_
          (try clear hb)
          (try clear hb2)
          (try clear hk)
          (try clear hi)
          refine hK.out _ _ ⟨B.bc BK549 0, B.bc BK549 1, B.bc BK549 2, B.bc BK549 3, B.bc BK519 0, B.bc BK519 1, B.bc BK519 2, B.bc BK519 3⟩ (fun hHeld => ?_)
          clear hK K
          refine norm_ (a' := ?_) ?_ ?_
          rotate_left
          · show Act.put _ (some 65) _ = _
            simp only [Act.put, List.setIfInBounds_toArray, List.set_cons_zero, List.set_cons_succ, i64_w, i32_w]
            rfl
          refine pure_ (i := 4) (N := some 66) (v := ?_) (a' := ?_) #[true, true, true, true, true] rfl rfl (by kernel_rfl) (fun _ _ _ h => h) (Or.inl ⟨by rfl, ?_⟩) ?_ ?_
          rotate_left
          · intro w'
            go_simp
            with_reducible rfl
          rotate_left
          · simp only [Act.put, List.setIfInBounds_toArray, List.set_cons_zero, List.set_cons_succ, i64_w, i32_w]
            rfl
          refine done_ (by kernel_rfl) ?_
          try go_wp2
          have n0_ := Aside0.mk (Kd.R_drew HO_543003.out)
          have n1_ := Aside0.mk (Kd.R_drew HO_550003.out)
          have n2_ := Aside0.mk (Kd.R_drew HO_557003.out)
          have n3_ := Aside0.mk (Kd.R_drew HO_565003.out)
          have n4_ := Aside0.mk (Kd.R_drew HO571.out)
          have n5_ := Aside0.mk (blk_drew BK519.out)
          have n6_ := Aside0.mk (blk_drew BK520.out)
          have n7_ := Aside0.mk (blk_drew BK542.out)
          have n8_ := Aside0.mk (blk_drew BK549.out)
          have n9_ := Aside0.mk (blk_drew BK556.out)
          have n10_ := Aside0.mk (blk_drew BK564.out)
          have n11_ := Aside0.mk (below_drew1 HB.out)
          clear HO_543003 HO_550003 HO_557003 HO_565003 HO571 BK519 BK520 BK542 BK549 BK556 BK564 HB
          have HO_543003 := n0_
          have HO_550003 := n1_
          have HO_557003 := n2_
          have HO_565003 := n3_
          have HO571 := n4_
          have BK519 := n5_
          have BK520 := n6_
          have BK542 := n7_
          have BK549 := n8_
          have BK556 := n9_
          have BK564 := n10_
          have HB := n11_
          clear n0_ n1_ n2_ n3_ n4_ n5_ n6_ n7_ n8_ n9_ n10_ n11_
          refine start_ (n := 5) (S := fun w' => w'.cell? ⟨gb556, 0, none⟩ = some (.int .i64 t550) ∧ w'.cell? ⟨gb556, 1, none⟩ = some (.int .i64 t551) ∧ w'.cell? ⟨gb556, 2, none⟩ = some (.int .i64 t552) ∧ w'.cell? ⟨gb556, 3, none⟩ = some (.slice Ao66 t553.length co66) ∧ w'.cell? ⟨gb520, 0, none⟩ = some (.int .i64 a3_0) ∧ w'.cell? ⟨gb520, 1, none⟩ = some (.int .i64 a3_1) ∧ w'.cell? ⟨gb520, 2, none⟩ = some (.int .i64 a3_2) ∧ w'.cell? ⟨gb520, 3, none⟩ = some (.slice A3_3 l3_3.length c3_3)) (ds := []) #[false, false, false, false, false] (by kernel_rfl) rfl rfl ⟨B.bc BK556 0, B.bc BK556 1, B.bc BK556 2, B.bc BK556 3, B.bc BK520 0, B.bc BK520 1, B.bc BK520 2, B.bc BK520 3⟩ (fun hHeld => ?_)
          generalize w104.drew = w105 at HO_543003 HO_550003 HO_557003 HO_565003 HO571 BK519 BK520 BK542 BK549 BK556 BK564 HB hHeld ⊢
          refine take_ (i := 0) (N := some 67) (v := ?_) (a' := ?_) #[true, false, false, false, false] rfl rfl (by kernel_rfl) (fun _ _ _ h => h) (Or.inl ⟨by rfl, ?_⟩) hHeld ?_ ?_
          rotate_left
          · rintro w' ⟨s0, s1, s2, s3, s4, s5, s6, s7⟩
            go_simp
            with_reducible rfl
          rotate_left
          · simp only [Act.put, List.setIfInBounds_toArray, List.set_cons_zero, List.set_cons_succ, i64_w, i32_w]
            rfl
          refine take_ (i := 1) (N := some 68) (v := ?_) (a' := ?_) #[true, true, false, false, false] rfl rfl (by kernel_rfl) (fun _ _ _ h => h) (Or.inl ⟨by rfl, ?_⟩) hHeld ?_ ?_
          rotate_left
          · rintro w' ⟨s0, s1, s2, s3, s4, s5, s6, s7⟩
            go_simp
            with_reducible rfl
          rotate_left
          · simp only [Act.put, List.setIfInBounds_toArray, List.set_cons_zero, List.set_cons_succ, i64_w, i32_w]
            rfl
          refine one_ (i := 2) (N := some 69) #[true, true, true, false, false] rfl rfl (by kernel_rfl) (by decide) (fun K hK => ?_)
          refine goes_ Try.func10 (by kernel_rfl) rfl #[.agg #[.int .i64 a3_0, .int .i64 a3_1, .int .i64 a3_2, .slice A3_3 l3_3.length c3_3]] (by rfl) rfl rfl B.am ?_
          with_reducible refine (laws_toImage.calls kj26 a3_0 a3_1 a3_2 _ _ l3_3 t573 t574 t575 t576 _ ?side1 ?side2 A95.out).mono ?_
          (case side1 => exact B.kc (Kd.C_below HR3_3.out HB.out))
          (case side2 => exact HC3_3.out)
          rintro e w106 ⟨v577, rfl, ho0, hb⟩
          refine ⟨_, rfl, ?_⟩
          have n0_ := Aside0.mk (Kd.R_elder' (B.kr HO_543003) (Kd.R_base ho0) hb)
          have n1_ := Aside0.mk (Kd.R_elder' (B.kr HO_550003) (Kd.R_base ho0) hb)
          have n2_ := Aside0.mk (Kd.R_elder' (B.kr HO_557003) (Kd.R_base ho0) hb)
          have n3_ := Aside0.mk (Kd.R_elder' (B.kr HO_565003) (Kd.R_base ho0) hb)
          have n4_ := Aside0.mk (Kd.R_elder' (B.kr HO571) (Kd.R_base ho0) hb)
          have n5_ := Aside0.mk (Kd.R_lower (Kd.R_new' (Kd.R_new' (Kd.R_new' (Kd.R_new' (Kd.R_new' ho0 (Kd.R_lt (B.kr HO_543003))) (Kd.R_lt (B.kr HO_550003))) (Kd.R_lt (B.kr HO_557003))) (Kd.R_lt (B.kr HO_565003))) (Kd.R_lt (B.kr HO571))) (below_size (B.bl HB)))
          have n6_ := Aside0.mk (blk_below (B.kb BK519) hb)
          have n7_ := Aside0.mk (blk_below (B.kb BK520) hb)
          have n8_ := Aside0.mk (blk_below (B.kb BK542) hb)
          have n9_ := Aside0.mk (blk_below (B.kb BK549) hb)
          have n10_ := Aside0.mk (blk_below (B.kb BK556) hb)
          have n11_ := Aside0.mk (blk_below (B.kb BK564) hb)
          have n12_ := Aside0.mk (below_step (B.bl HB) hb)
          clear HO_543003 HO_550003 HO_557003 HO_565003 HO571 BK519 BK520 BK542 BK549 BK556 BK564 HB
          have HO_543003 := n0_
          have HO_550003 := n1_
          have HO_557003 := n2_
          have HO_565003 := n3_
          have HO571 := n4_
          have HO578 := n5_
          have BK519 := n6_
          have BK520 := n7_
          have BK542 := n8_
          have BK549 := n9_
          have BK556 := n10_
          have BK564 := n11_
          have HB := n12_
          clear n0_ n1_ n2_ n3_ n4_ n5_ n6_ n7_ n8_ n9_ n10_ n11_ n12_
          (try clear hb)
          (try clear hb2)
          (try clear hk)
          (try clear hi)
          (try clear ho0)
          obtain ⟨Ao107, co107, eo107⟩ := Kd.R_slice HO578.out
          (first | subst eo107 | (injection eo107 with f1_ f2_ f3_; have f4_ := f1_.symm; have f5_ := f3_.symm; clear f1_ f2_ f3_; subst f4_; subst f5_))
          refine hK.out _ _ ⟨B.bc BK556 0, B.bc BK556 1, B.bc BK556 2, B.bc BK556 3, B.bc BK520 0, B.bc BK520 1, B.bc BK520 2, B.bc BK520 3⟩ (fun hHeld => ?_)
          clear hK K
          refine norm_ (a' := ?_) ?_ ?_
          rotate_left
          · show Act.put _ (some 69) _ = _
            simp only [Act.put, List.setIfInBounds_toArray, List.set_cons_zero, List.set_cons_succ, i64_w, i32_w]
            rfl
          refine one_ (i := 3) (N := some 70) #[true, true, true, true, false] rfl rfl (by kernel_rfl) (by decide) (fun K hK => ?_)
          refine goes_ Try.func13 (by kernel_rfl) rfl #[.agg #[.int .i64 t550, .int .i64 t551, .int .i64 t552, .slice Ao66 t553.length co66], .agg #[.int .i64 t573, .int .i64 t574, .int .i64 t575, .slice Ao107 t576.length co107]] (by rfl) rfl rfl B.am ?_
          with_reducible refine (laws_eqImage.calls kj26 t550 t551 t552 _ _ t553 t573 t574 t575 _ _ t576 true _ ?side1 ?side2 ?side3 ?side4 A96.out).mono ?_
          (case side1 => exact B.kc ((Kd.R_reads' HO_557003.out).2.2))
          (case side2 => exact (Kd.R_reads' HO_557003.out).2.1)
          (case side3 => exact B.kc ((Kd.R_reads' HO578.out).2.2))
          (case side4 => exact (Kd.R_reads' HO578.out).2.1)
          rintro e w108 ⟨rfl, hb⟩
          refine ⟨_, rfl, ?_⟩
          have n0_ := Aside0.mk (Kd.R_below (B.kr HO_543003) hb)
          have n1_ := Aside0.mk (Kd.R_below (B.kr HO_550003) hb)
          have n2_ := Aside0.mk (Kd.R_below (B.kr HO_557003) hb)
          have n3_ := Aside0.mk (Kd.R_below (B.kr HO_565003) hb)
          have n4_ := Aside0.mk (Kd.R_below (B.kr HO571) hb)
          have n5_ := Aside0.mk (Kd.R_below (B.kr HO578) hb)
          have n6_ := Aside0.mk (blk_below (B.kb BK519) hb)
          have n7_ := Aside0.mk (blk_below (B.kb BK520) hb)
          have n8_ := Aside0.mk (blk_below (B.kb BK542) hb)
          have n9_ := Aside0.mk (blk_below (B.kb BK549) hb)
          have n10_ := Aside0.mk (blk_below (B.kb BK556) hb)
          have n11_ := Aside0.mk (blk_below (B.kb BK564) hb)
          have n12_ := Aside0.mk (below_step (B.bl HB) hb)
          clear HO_543003 HO_550003 HO_557003 HO_565003 HO571 HO578 BK519 BK520 BK542 BK549 BK556 BK564 HB
          have HO_543003 := n0_
          have HO_550003 := n1_
          have HO_557003 := n2_
          have HO_565003 := n3_
          have HO571 := n4_
          have HO578 := n5_
          have BK519 := n6_
          have BK520 := n7_
          have BK542 := n8_
          have BK549 := n9_
          have BK556 := n10_
          have BK564 := n11_
          have HB := n12_
          clear n0_ n1_ n2_ n3_ n4_ n5_ n6_ n7_ n8_ n9_ n10_ n11_ n12_
          (try clear hb)
          (try clear hb2)
          (try clear hk)
          (try clear hi)
          refine hK.out _ _ ⟨B.bc BK556 0, B.bc BK556 1, B.bc BK556 2, B.bc BK556 3, B.bc BK520 0, B.bc BK520 1, B.bc BK520 2, B.bc BK520 3⟩ (fun hHeld => ?_)
          clear hK K
          refine norm_ (a' := ?_) ?_ ?_
          rotate_left
          · show Act.put _ (some 70) _ = _
            simp only [Act.put, List.setIfInBounds_toArray, List.set_cons_zero, List.set_cons_succ, i64_w, i32_w]
            rfl
          refine pure_ (i := 4) (N := some 71) (v := ?_) (a' := ?_) #[true, true, true, true, true] rfl rfl (by kernel_rfl) (fun _ _ _ h => h) (Or.inl ⟨by rfl, ?_⟩) ?_ ?_
          rotate_left
          · intro w'
            go_simp
            with_reducible rfl
          rotate_left
          · simp only [Act.put, List.setIfInBounds_toArray, List.set_cons_zero, List.set_cons_succ, i64_w, i32_w]
            rfl
          refine done_ (by kernel_rfl) ?_
          have hnb109 := NB549_519.out
          have hnc109 := NB519_549.out
          have hnb110 := NB549_520.out
          have hnc110 := NB520_549.out
          have hnb111 := NB549_542.out
          have hnc111 := NB542_549.out
          have hnb112 := NB549_556.out
          have hnc112 := NB556_549.out
          have hnb113 := NB549_564.out
          have hnc113 := NB564_549.out
          have hcz114_0 : w108.cell? ⟨gb549, 0, none⟩ = some (.int .i64 t543) := B.bc BK549 0
          have hcz114_1 : w108.cell? ⟨gb549, 1, none⟩ = some (.int .i64 t544) := B.bc BK549 1
          have hcz114_2 : w108.cell? ⟨gb549, 2, none⟩ = some (.int .i64 t545) := B.bc BK549 2
          have hcz114_3 : w108.cell? ⟨gb549, 3, none⟩ = some (.slice Ao56 t546.length co56) := B.bc BK549 3
          have hfz114_0 := blk_frozen BK549.out 0
          have hfz114_1 := blk_frozen BK549.out 1
          have hfz114_2 := blk_frozen BK549.out 2
          have hfz114_3 := blk_frozen BK549.out 3
          go_upto_region 21 with (first | ((with_reducible refine gate_callee (f := 14) rfl ?_); refine goesL_ (some 74) rfl rfl Try.func14 (by kernel_rfl) rfl #[.agg #[.int .i64 t543, .int .i64 t544, .int .i64 t545, .slice Ao56 t546.length co56], .int .i64 1] rfl B.am ?_; (with_reducible refine (laws_markImage.calls kj26 t543 t544 t545 (fun k_ => some k_ = (.slice Ao56 t546.length co56 : Value).ownBlock) (.slice Ao56 t546.length co56) t546 1 t580 t581 w _ ?side1 ?side2 A98.out).mono ?_); (case side1 => exact B.bl HB); (case side2 => exact Kd.R_tight rfl HO_550003.out); rintro e w115 ⟨rfl, hy0, hb, hkp⟩; refine ⟨_, rfl, ?_⟩; have n0_ := Aside0.mk (Kd.R_mono (ok' := fun k_ => some k_ ≠ (.slice Ao56 t546.length co56 : Value).ownBlock ∧ some k_ ≠ (.slice Ao66 t553.length co66 : Value).ownBlock ∧ some k_ ≠ (.slice Ao76 t560.length co76 : Value).ownBlock ∧ some k_ ≠ (.slice Ao103 t569.length co103 : Value).ownBlock ∧ some k_ ≠ (.slice Ao107 t576.length co107 : Value).ownBlock) (Kd.R_keptB (HO_543003.out) hkp (fun k_ hk_ hs_ => (hk_.1.1.1) hs_)) (fun k_ hk_ => ⟨hk_.1.1.1.1, hk_.1.1.1.2.1, hk_.1.1.1.2.2, hk_.1.1.2, hk_.1.2⟩)); have n1_ := Aside0.mk (Kd.R_reok rfl hy0 (fun k_ e_ => HO_550003.out.1 k_ e_)); have n2_ := Aside0.mk (Kd.R_mono (ok' := fun k_ => some k_ ≠ (.slice Ao46 t538.length co46 : Value).ownBlock ∧ some k_ ≠ (.slice Ao56 t546.length co56 : Value).ownBlock ∧ some k_ ≠ (.slice Ao76 t560.length co76 : Value).ownBlock ∧ some k_ ≠ (.slice Ao103 t569.length co103 : Value).ownBlock ∧ some k_ ≠ (.slice Ao107 t576.length co107 : Value).ownBlock) (Kd.R_keptB (HO_557003.out) hkp (fun k_ hk_ hs_ => (hk_.1.1.2.1) hs_)) (fun k_ hk_ => ⟨hk_.1.1.1.1, hk_.1.1.1.2.1, hk_.1.1.1.2.2, hk_.1.1.2, hk_.1.2⟩)); have n3_ := Aside0.mk (Kd.R_mono (ok' := fun k_ => some k_ ≠ (.slice Ao46 t538.length co46 : Value).ownBlock ∧ some k_ ≠ (.slice Ao56 t546.length co56 : Value).ownBlock ∧ some k_ ≠ (.slice Ao66 t553.length co66 : Value).ownBlock ∧ some k_ ≠ (.slice Ao103 t569.length co103 : Value).ownBlock ∧ some k_ ≠ (.slice Ao107 t576.length co107 : Value).ownBlock) (Kd.R_keptB (HO_565003.out) hkp (fun k_ hk_ hs_ => (hk_.1.1.2.1) hs_)) (fun k_ hk_ => ⟨hk_.1.1.1.1, hk_.1.1.1.2.1, hk_.1.1.1.2.2, hk_.1.1.2, hk_.1.2⟩)); have n4_ := Aside0.mk (blk_kept (B.kb BK519) hkp (fun hs_ => (fun e_ => (Kd.R_ne HO_550003.out BK519.out (by decide)) e_) hs_)); have n5_ := Aside0.mk (blk_kept (B.kb BK520) hkp (fun hs_ => (fun e_ => (Kd.R_ne HO_550003.out BK520.out (by decide)) e_) hs_)); have n6_ := Aside0.mk (blk_kept (B.kb BK542) hkp (fun hs_ => (fun e_ => (Kd.R_ne HO_550003.out BK542.out (by decide)) e_) hs_)); have n7_ := Aside0.mk (blk_kept (B.kb BK549) hkp (fun hs_ => (fun e_ => (Kd.R_ne HO_550003.out BK549.out (by decide)) e_) hs_)); have n8_ := Aside0.mk (blk_kept (B.kb BK556) hkp (fun hs_ => (fun e_ => (Kd.R_ne HO_550003.out BK556.out (by decide)) e_) hs_)); have n9_ := Aside0.mk (blk_kept (B.kb BK564) hkp (fun hs_ => (fun e_ => (Kd.R_ne HO_550003.out BK564.out (by decide)) e_) hs_)); have n10_ := Aside0.mk (Kd.R_mono (ok' := fun k_ => some k_ ≠ (.slice Ao46 t538.length co46 : Value).ownBlock ∧ some k_ ≠ (.slice Ao56 t546.length co56 : Value).ownBlock ∧ some k_ ≠ (.slice Ao66 t553.length co66 : Value).ownBlock ∧ some k_ ≠ (.slice Ao76 t560.length co76 : Value).ownBlock ∧ some k_ ≠ (.slice Ao107 t576.length co107 : Value).ownBlock) (Kd.R_keptB (HO571.out) hkp (fun k_ hk_ hs_ => (hk_.1.1.1.2) hs_)) (fun k_ hk_ => ⟨hk_.1.1.1.1.1.2, hk_.1.1.1.1.2, hk_.1.1.1.2, hk_.1.1.2, hk_.1.2⟩)); have n11_ := Aside0.mk (Kd.R_mono (ok' := fun k_ => some k_ ≠ (.slice Ao46 t538.length co46 : Value).ownBlock ∧ some k_ ≠ (.slice Ao56 t546.length co56 : Value).ownBlock ∧ some k_ ≠ (.slice Ao66 t553.length co66 : Value).ownBlock ∧ some k_ ≠ (.slice Ao76 t560.length co76 : Value).ownBlock ∧ some k_ ≠ (.slice Ao103 t569.length co103 : Value).ownBlock) (Kd.R_keptB (HO578.out) hkp (fun k_ hk_ hs_ => (hk_.1.1.1.2) hs_)) (fun k_ hk_ => ⟨hk_.1.1.1.1.1.2, hk_.1.1.1.1.2, hk_.1.1.1.2, hk_.1.1.2, hk_.1.2⟩)); have n12_ := Aside0.mk (hb); clear HO_543003 HO_550003 HO_557003 HO_565003 BK519 BK520 BK542 BK549 BK556 BK564 HO571 HO578 HB; have HO_543003 := n0_; have HO_550003 := n1_; have HO_557003 := n2_; have HO_565003 := n3_; have BK519 := n4_; have BK520 := n5_; have BK542 := n6_; have BK549 := n7_; have BK556 := n8_; have BK564 := n9_; have HO571 := n10_; have HO578 := n11_; have HB := n12_; clear n0_ n1_ n2_ n3_ n4_ n5_ n6_ n7_ n8_ n9_ n10_ n11_ n12_; (try clear hb); (try clear hkp); (try clear hy0); have hnb116 := NB556_519.out; have hnc116 := NB519_556.out; have hnb117 := NB556_520.out; have hnc117 := NB520_556.out; have hnb118 := NB556_542.out; have hnc118 := NB542_556.out; have hnb119 := NB556_564.out; have hnc119 := NB564_556.out; have hcz120_0 : w115.cell? ⟨gb556, 0, none⟩ = some (.int .i64 t550) := B.bc BK556 0; have hcz120_1 : w115.cell? ⟨gb556, 1, none⟩ = some (.int .i64 t551) := B.bc BK556 1; have hcz120_2 : w115.cell? ⟨gb556, 2, none⟩ = some (.int .i64 t552) := B.bc BK556 2; have hcz120_3 : w115.cell? ⟨gb556, 3, none⟩ = some (.slice Ao66 t553.length co66) := B.bc BK556 3; have hfz120_0 := blk_frozen BK556.out 0; have hfz120_1 := blk_frozen BK556.out 1; have hfz120_2 := blk_frozen BK556.out 2; have hfz120_3 := blk_frozen BK556.out 3) | ((with_reducible refine gate_callee (f := 14) rfl ?_); refine goesL_ (some 77) rfl rfl Try.func14 (by kernel_rfl) rfl #[.agg #[.int .i64 t550, .int .i64 t551, .int .i64 t552, .slice Ao66 t553.length co66], .int .i64 t580] rfl B.am ?_; (with_reducible refine (laws_markImage.calls kj26 t550 t551 t552 (fun k_ => some k_ = (.slice Ao66 t553.length co66 : Value).ownBlock) (.slice Ao66 t553.length co66) t553 t580 t582 t583 w _ ?side1 ?side2 A99.out).mono ?_); (case side1 => exact B.bl HB); (case side2 => exact Kd.R_tight rfl HO_557003.out); rintro e w121 ⟨rfl, hy0, hb, hkp⟩; refine ⟨_, rfl, ?_⟩; have n0_ := Aside0.mk (Kd.R_mono (ok' := fun k_ => some k_ ≠ (.slice Ao56 t546.length co56 : Value).ownBlock ∧ some k_ ≠ (.slice Ao66 t553.length co66 : Value).ownBlock ∧ some k_ ≠ (.slice Ao76 t560.length co76 : Value).ownBlock ∧ some k_ ≠ (.slice Ao103 t569.length co103 : Value).ownBlock ∧ some k_ ≠ (.slice Ao107 t576.length co107 : Value).ownBlock) (Kd.R_keptB (HO_543003.out) hkp (fun k_ hk_ hs_ => (hk_.2.1) hs_)) (fun k_ hk_ => ⟨hk_.1.1, hk_.1.2.1, hk_.1.2.2.1, hk_.1.2.2.2.1, hk_.1.2.2.2.2⟩)); have n1_ := Aside0.mk (Kd.R_mono (ok' := fun k_ => some k_ ≠ (.slice Ao46 t538.length co46 : Value).ownBlock ∧ some k_ ≠ (.slice Ao66 t553.length co66 : Value).ownBlock ∧ some k_ ≠ (.slice Ao76 t560.length co76 : Value).ownBlock ∧ some k_ ≠ (.slice Ao103 t569.length co103 : Value).ownBlock ∧ some k_ ≠ (.slice Ao107 t576.length co107 : Value).ownBlock) (Kd.R_keptB (HO_550003.out) hkp (fun k_ hk_ hs_ => (hk_.1.1.2.1) hs_)) (fun k_ hk_ => ⟨hk_.1.1.1.1, hk_.1.1.1.2.1, hk_.1.1.1.2.2, hk_.1.1.2, hk_.1.2⟩)); have n2_ := Aside0.mk (Kd.R_reok rfl hy0 (fun k_ e_ => HO_557003.out.1 k_ e_)); have n3_ := Aside0.mk (Kd.R_mono (ok' := fun k_ => some k_ ≠ (.slice Ao46 t538.length co46 : Value).ownBlock ∧ some k_ ≠ (.slice Ao56 t546.length co56 : Value).ownBlock ∧ some k_ ≠ (.slice Ao66 t553.length co66 : Value).ownBlock ∧ some k_ ≠ (.slice Ao103 t569.length co103 : Value).ownBlock ∧ some k_ ≠ (.slice Ao107 t576.length co107 : Value).ownBlock) (Kd.R_keptB (HO_565003.out) hkp (fun k_ hk_ hs_ => (hk_.2.2.1) hs_)) (fun k_ hk_ => ⟨hk_.1.1, hk_.1.2.1, hk_.1.2.2.1, hk_.1.2.2.2.1, hk_.1.2.2.2.2⟩)); have n4_ := Aside0.mk (blk_kept (B.kb BK519) hkp (fun hs_ => (fun e_ => (Kd.R_ne HO_557003.out BK519.out (by decide)) e_) hs_)); have n5_ := Aside0.mk (blk_kept (B.kb BK520) hkp (fun hs_ => (fun e_ => (Kd.R_ne HO_557003.out BK520.out (by decide)) e_) hs_)); have n6_ := Aside0.mk (blk_kept (B.kb BK542) hkp (fun hs_ => (fun e_ => (Kd.R_ne HO_557003.out BK542.out (by decide)) e_) hs_)); have n7_ := Aside0.mk (blk_kept (B.kb BK549) hkp (fun hs_ => (fun e_ => (Kd.R_ne HO_557003.out BK549.out (by decide)) e_) hs_)); have n8_ := Aside0.mk (blk_kept (B.kb BK556) hkp (fun hs_ => (fun e_ => (Kd.R_ne HO_557003.out BK556.out (by decide)) e_) hs_)); have n9_ := Aside0.mk (blk_kept (B.kb BK564) hkp (fun hs_ => (fun e_ => (Kd.R_ne HO_557003.out BK564.out (by decide)) e_) hs_)); have n10_ := Aside0.mk (Kd.R_mono (ok' := fun k_ => some k_ ≠ (.slice Ao46 t538.length co46 : Value).ownBlock ∧ some k_ ≠ (.slice Ao56 t546.length co56 : Value).ownBlock ∧ some k_ ≠ (.slice Ao66 t553.length co66 : Value).ownBlock ∧ some k_ ≠ (.slice Ao76 t560.length co76 : Value).ownBlock ∧ some k_ ≠ (.slice Ao107 t576.length co107 : Value).ownBlock) (Kd.R_keptB (HO571.out) hkp (fun k_ hk_ hs_ => (hk_.2.2.1) hs_)) (fun k_ hk_ => ⟨hk_.1.1, hk_.1.2.1, hk_.1.2.2.1, hk_.1.2.2.2.1, hk_.1.2.2.2.2⟩)); have n11_ := Aside0.mk (Kd.R_mono (ok' := fun k_ => some k_ ≠ (.slice Ao46 t538.length co46 : Value).ownBlock ∧ some k_ ≠ (.slice Ao56 t546.length co56 : Value).ownBlock ∧ some k_ ≠ (.slice Ao66 t553.length co66 : Value).ownBlock ∧ some k_ ≠ (.slice Ao76 t560.length co76 : Value).ownBlock ∧ some k_ ≠ (.slice Ao103 t569.length co103 : Value).ownBlock) (Kd.R_keptB (HO578.out) hkp (fun k_ hk_ hs_ => (hk_.2.2.1) hs_)) (fun k_ hk_ => ⟨hk_.1.1, hk_.1.2.1, hk_.1.2.2.1, hk_.1.2.2.2.1, hk_.1.2.2.2.2⟩)); have n12_ := Aside0.mk (hb); clear HO_543003 HO_550003 HO_557003 HO_565003 BK519 BK520 BK542 BK549 BK556 BK564 HO571 HO578 HB; have HO_543003 := n0_; have HO_550003 := n1_; have HO_557003 := n2_; have HO_565003 := n3_; have BK519 := n4_; have BK520 := n5_; have BK542 := n6_; have BK549 := n7_; have BK556 := n8_; have BK564 := n9_; have HO571 := n10_; have HO578 := n11_; have HB := n12_; clear n0_ n1_ n2_ n3_ n4_ n5_ n6_ n7_ n8_ n9_ n10_ n11_ n12_; (try clear hb); (try clear hkp); (try clear hy0)))
          (try simp only [Act.put, List.setIfInBounds_toArray, List.set_cons_zero, List.set_cons_succ])
          go_cut [90] (fun v90 wc => ∃ (kq : Nat) (x90_99 : Bool), v90 = .bool x90_99 ∧ Aside0 (laws_FnExactPasteImage.j1 kq a1 a2 t541 x90_99 a0_0 a0_1 a0_2 l0_3 a3_0 a3_1 a3_2 l3_3 t535 t536 t537 t538 t557 t558 t559 t560 = some r) ∧ Aside0 (kq ≤ kj26) ∧ Aside0 (Kd.R (Kd.int .i64) 3 wc w.heap.size (fun k_ => some k_ ≠ ((.slice Ao56 t546.length co56) : Value).ownBlock ∧ some k_ ≠ ((.slice Ao66 t553.length co66) : Value).ownBlock ∧ some k_ ≠ ((.slice Ao76 t560.length co76) : Value).ownBlock) (.slice Ao46 t538.length co46) t538) ∧ Aside0 (Kd.R (Kd.int .i64) 3 wc w.heap.size (fun k_ => some k_ ≠ ((.slice Ao46 t538.length co46) : Value).ownBlock ∧ some k_ ≠ ((.slice Ao66 t553.length co66) : Value).ownBlock ∧ some k_ ≠ ((.slice Ao76 t560.length co76) : Value).ownBlock) (.slice Ao56 t546.length co56) t581) ∧ Aside0 (Kd.R (Kd.int .i64) 3 wc w.heap.size (fun k_ => some k_ ≠ ((.slice Ao46 t538.length co46) : Value).ownBlock ∧ some k_ ≠ ((.slice Ao56 t546.length co56) : Value).ownBlock ∧ some k_ ≠ ((.slice Ao76 t560.length co76) : Value).ownBlock) (.slice Ao66 t553.length co66) t583) ∧ Aside0 (Kd.R (Kd.int .i64) 3 wc w.heap.size (fun k_ => some k_ ≠ ((.slice Ao46 t538.length co46) : Value).ownBlock ∧ some k_ ≠ ((.slice Ao56 t546.length co56) : Value).ownBlock ∧ some k_ ≠ ((.slice Ao66 t553.length co66) : Value).ownBlock) (.slice Ao76 t560.length co76) t560) ∧ Aside0 (wc.heap[gb519]? = some (.cells #[.int .i64 a0_0, .int .i64 a0_1, .int .i64 a0_2, (.slice A0_3 l0_3.length c0_3)] 24 (0, 0))) ∧ Aside0 (wc.heap[gb520]? = some (.cells #[.int .i64 a3_0, .int .i64 a3_1, .int .i64 a3_2, (.slice A3_3 l3_3.length c3_3)] 24 (0, 0))) ∧ Aside0 (wc.heap[gb542]? = some (.cells #[.int .i64 t535, .int .i64 t536, .int .i64 t537, (.slice Ao46 t538.length co46)] 28 (0, 0))) ∧ Aside0 (wc.heap[gb549]? = some (.cells #[.int .i64 t543, .int .i64 t544, .int .i64 t545, (.slice Ao56 t546.length co56)] 28 (0, 0))) ∧ Aside0 (wc.heap[gb556]? = some (.cells #[.int .i64 t550, .int .i64 t551, .int .i64 t552, (.slice Ao66 t553.length co66)] 28 (0, 0))) ∧ Aside0 (wc.heap[gb564]? = some (.cells #[.int .i64 t557, .int .i64 t558, .int .i64 t559, (.slice Ao76 t560.length co76)] 28 (0, 0))) ∧ Aside0 (Below w.heap.size w wc))
          case first =>
            have H := HC100.out
            clear HC100
            by_cases c122 : t582 < 0
            · rw [if_pos c122] at H
              have c122b0 : decide (t582 < 0) = true := decide_eq_true c122
              clear c122
              (first | rw [c122b0] | (simp only [i64_w, i32_w]; rw [c122b0]) | skip)
              exact absurd ht_.out (by revert H; cases kj26 <;> intro H <;> simp [laws_FnExactPasteImage.j1] at H <;> (first | (subst H; decide) | simp [← H] | simp [H]))
            rw [if_neg c122] at H
            have c122b0 : decide (t582 < 0) = false := decide_eq_false c122
            clear c122
            (first | rw [c122b0] | (simp only [i64_w, i32_w]; rw [c122b0]) | skip)
            replace H := Option.bind_eq_some_iff.mp H
            obtain ⟨t584, A1230, H⟩ := H
            replace H : (if t584 = true then (laws_FnExactPasteImage.j1 kj26 a1 a2 t541 (t563 != t541) a0_0 a0_1 a0_2 l0_3 a3_0 a3_1 a3_2 l3_3 t535 t536 t537 t538 t557 t558 t559 t560) else (laws_FnExactPasteImage.j1 kj26 a1 a2 t541 true a0_0 a0_1 a0_2 l0_3 a3_0 a3_1 a3_2 l3_3 t535 t536 t537 t538 t557 t558 t559 t560)) = some r := H
            have A123 := Aside0.mk A1230
            clear A1230
            by_cases c124 : t584 = true
            · subst c124
              have H1 : (laws_FnExactPasteImage.j1 kj26 a1 a2 t541 (t563 != t541) a0_0 a0_1 a0_2 l0_3 a3_0 a3_1 a3_2 l3_3 t535 t536 t537 t538 t557 t558 t559 t560) = some r := by rw [if_pos rfl] at H; exact H
              clear H
              have H := H1
              clear H1
              have H' := Aside0.mk H
              clear H
              have hnb125 := NB564_519.out
              have hnc125 := NB519_564.out
              have hnb126 := NB564_520.out
              have hnc126 := NB520_564.out
              have hnb127 := NB564_542.out
              have hnc127 := NB542_564.out
              have hnb128 := NB564_549.out
              have hnc128 := NB549_564.out
              have hnb129 := NB564_556.out
              have hnc129 := NB556_564.out
              have hcz130_0 : w121.cell? ⟨gb564, 0, none⟩ = some (.int .i64 t557) := B.bc BK564 0
              have hcz130_1 : w121.cell? ⟨gb564, 1, none⟩ = some (.int .i64 t558) := B.bc BK564 1
              have hcz130_2 : w121.cell? ⟨gb564, 2, none⟩ = some (.int .i64 t559) := B.bc BK564 2
              have hcz130_3 : w121.cell? ⟨gb564, 3, none⟩ = some (.slice Ao76 t560.length co76) := B.bc BK564 3
              have hfz130_0 := blk_frozen BK564.out 0
              have hfz130_1 := blk_frozen BK564.out 1
              have hfz130_2 := blk_frozen BK564.out 2
              have hfz130_3 := blk_frozen BK564.out 3
              have hnb131 := NB542_519.out
              have hnc131 := NB519_542.out
              have hnb132 := NB542_520.out
              have hnc132 := NB520_542.out
              have hnb133 := NB542_549.out
              have hnc133 := NB549_542.out
              have hnb134 := NB542_556.out
              have hnc134 := NB556_542.out
              have hcz135_0 : w121.cell? ⟨gb542, 0, none⟩ = some (.int .i64 t535) := B.bc BK542 0
              have hcz135_1 : w121.cell? ⟨gb542, 1, none⟩ = some (.int .i64 t536) := B.bc BK542 1
              have hcz135_2 : w121.cell? ⟨gb542, 2, none⟩ = some (.int .i64 t537) := B.bc BK542 2
              have hcz135_3 : w121.cell? ⟨gb542, 3, none⟩ = some (.slice Ao46 t538.length co46) := B.bc BK542 3
              have hfz135_0 := blk_frozen BK542.out 0
              have hfz135_1 := blk_frozen BK542.out 1
              have hfz135_2 := blk_frozen BK542.out 2
              have hfz135_3 := blk_frozen BK542.out 3
              go_wp2_with (first | (go_at_call 13; (with_reducible refine (laws_eqImage.calls kj26 t557 t558 t559 _ _ t560 t535 t536 t537 _ _ t538 true _ ?side1 ?side2 ?side3 ?side4 A123.out).mono ?_); (case side1 => exact B.kc ((Kd.R_reads' HO_565003.out).2.2)); (case side2 => exact (Kd.R_reads' HO_565003.out).2.1); (case side3 => exact B.kc ((Kd.R_reads' HO_543003.out).2.2)); (case side4 => exact (Kd.R_reads' HO_543003.out).2.1); rintro e w136 ⟨rfl, hb⟩; have n0_ := Aside0.mk (Kd.R_below (B.kr HO_543003) hb); have n1_ := Aside0.mk (Kd.R_below (B.kr HO_550003) hb); have n2_ := Aside0.mk (Kd.R_below (B.kr HO_557003) hb); have n3_ := Aside0.mk (Kd.R_below (B.kr HO_565003) hb); have n4_ := Aside0.mk (Kd.R_below (B.kr HO571) hb); have n5_ := Aside0.mk (Kd.R_below (B.kr HO578) hb); have n6_ := Aside0.mk (blk_below (B.kb BK519) hb); have n7_ := Aside0.mk (blk_below (B.kb BK520) hb); have n8_ := Aside0.mk (blk_below (B.kb BK542) hb); have n9_ := Aside0.mk (blk_below (B.kb BK549) hb); have n10_ := Aside0.mk (blk_below (B.kb BK556) hb); have n11_ := Aside0.mk (blk_below (B.kb BK564) hb); have n12_ := Aside0.mk (below_step (B.bl HB) hb); clear HO_543003 HO_550003 HO_557003 HO_565003 HO571 HO578 BK519 BK520 BK542 BK549 BK556 BK564 HB; have HO_543003 := n0_; have HO_550003 := n1_; have HO_557003 := n2_; have HO_565003 := n3_; have HO571 := n4_; have HO578 := n5_; have BK519 := n6_; have BK520 := n7_; have BK542 := n8_; have BK549 := n9_; have BK556 := n10_; have BK564 := n11_; have HB := n12_; clear n0_ n1_ n2_ n3_ n4_ n5_ n6_ n7_ n8_ n9_ n10_ n11_ n12_; (try clear hb); (try clear hb2); (try clear hk); (try clear hi)))
              go_meet
              case rel => exact ⟨_, ((t563 != t541)), (by first | rfl | (simp; done) | (simp [*]; done)), H', ⟨by have := HJ26.out; first | omega | exact Nat.le_refl _⟩, ⟨B.kr0 (Kd.R_mono HO_543003.out (fun _ hk => ⟨hk.1, ⟨hk.2.1, hk.2.2.1⟩⟩))⟩, ⟨B.kr0 (Kd.R_mono HO_550003.out (fun _ hk => ⟨hk.1, ⟨hk.2.1, hk.2.2.1⟩⟩))⟩, ⟨B.kr0 (Kd.R_mono HO_557003.out (fun _ hk => ⟨hk.1, ⟨hk.2.1, hk.2.2.1⟩⟩))⟩, ⟨B.kr0 (Kd.R_mono HO_565003.out (fun _ hk => ⟨hk.1, ⟨hk.2.1, hk.2.2.1⟩⟩))⟩, ⟨B.kb BK519⟩, ⟨B.kb BK520⟩, ⟨B.kb BK542⟩, ⟨B.kb BK549⟩, ⟨B.kb BK556⟩, ⟨B.kb BK564⟩, ⟨B.bl HB⟩⟩
            replace c124 := Bool.eq_false_iff.mpr c124
            subst c124
            have H1 : (laws_FnExactPasteImage.j1 kj26 a1 a2 t541 true a0_0 a0_1 a0_2 l0_3 a3_0 a3_1 a3_2 l3_3 t535 t536 t537 t538 t557 t558 t559 t560) = some r := by rw [if_neg (show ¬ (false = true) by decide)] at H; exact H
            clear H
            have H := H1
            clear H1
            exact absurd ht_.out (by revert H; cases kj26 <;> intro H <;> simp [laws_FnExactPasteImage.j1] at H <;> (first | (subst H; decide) | simp [← H] | simp [H]))
          case rest =>
            clear HC100
            try clear c1
            try clear p2
            try clear c3
            try clear c6
            try clear c7
            try clear c8
            try clear c9
            try clear c10
            try clear c11
            try clear c12
            try clear c13
            try clear c14
            try clear c63
            try clear c64
            try clear c70
            try clear c71
            try clear c72
            try clear c73
            try clear c74
            try clear c78
            try clear c79
            try clear c80
            try clear c81
            try clear c82
            try clear c83
            try clear c85
            try clear c86
            try clear c87
            try clear c88
            try clear c91
            try clear c94
            try clear c97
            try clear c109
            try clear c110
            try clear c111
            try clear c112
            try clear c113
            try clear c116
            try clear c117
            try clear c118
            try clear c119
            try clear c122
            try clear c122b0
            try clear c124
            try clear c125
            try clear c126
            try clear c127
            try clear c128
            try clear c129
            try clear c131
            try clear c132
            try clear c133
            try clear c134
            try clear hcz114_0
            try clear hcz114_1
            try clear hcz114_2
            try clear hcz114_3
            try clear hcz120_0
            try clear hcz120_1
            try clear hcz120_2
            try clear hcz120_3
            try clear hcz130_0
            try clear hcz130_1
            try clear hcz130_2
            try clear hcz130_3
            try clear hcz135_0
            try clear hcz135_1
            try clear hcz135_2
            try clear hcz135_3
            try clear hcz49_0
            try clear hcz49_1
            try clear hcz49_2
            try clear hcz49_3
            try clear hcz55_0
            try clear hcz55_1
            try clear hcz55_2
            try clear hcz55_3
            try clear hcz58_0
            try clear hcz58_1
            try clear hcz58_2
            try clear hcz58_3
            try clear hcz65_0
            try clear hcz65_1
            try clear hcz65_2
            try clear hcz65_3
            try clear hcz67_0
            try clear hcz67_1
            try clear hcz67_2
            try clear hcz67_3
            try clear hcz75_0
            try clear hcz75_1
            try clear hcz75_2
            try clear hcz75_3
            try clear hcz84_0
            try clear hcz84_1
            try clear hcz84_2
            try clear hcz84_3
            try clear hcz89_0
            try clear hcz89_1
            try clear hcz89_2
            try clear hcz89_3
            try clear hfz114_0
            try clear hfz114_1
            try clear hfz114_2
            try clear hfz114_3
            try clear hfz120_0
            try clear hfz120_1
            try clear hfz120_2
            try clear hfz120_3
            try clear hfz130_0
            try clear hfz130_1
            try clear hfz130_2
            try clear hfz130_3
            try clear hfz135_0
            try clear hfz135_1
            try clear hfz135_2
            try clear hfz135_3
            try clear hfz49_0
            try clear hfz49_1
            try clear hfz49_2
            try clear hfz49_3
            try clear hfz55_0
            try clear hfz55_1
            try clear hfz55_2
            try clear hfz55_3
            try clear hfz58_0
            try clear hfz58_1
            try clear hfz58_2
            try clear hfz58_3
            try clear hfz65_0
            try clear hfz65_1
            try clear hfz65_2
            try clear hfz65_3
            try clear hfz67_0
            try clear hfz67_1
            try clear hfz67_2
            try clear hfz67_3
            try clear hfz75_0
            try clear hfz75_1
            try clear hfz75_2
            try clear hfz75_3
            try clear hfz84_0
            try clear hfz84_1
            try clear hfz84_2
            try clear hfz84_3
            try clear hfz89_0
            try clear hfz89_1
            try clear hfz89_2
            try clear hfz89_3
            obtain ⟨kq, x90_99, rfl, HA, HJ99, HO_543003, HO_550003, HO_557003, HO_565003, BK519, BK520, BK542, BK549, BK556, BK564, HB⟩ := hcut
            have hl550003_99 := (Kd.R_reads' HO_550003.out).1
            rw [hl550003_99] at HO_550003
            (try simp only [hl550003_99])
            (try simp only [hl550003_99] at BK519)
            (try simp only [hl550003_99] at BK520)
            (try simp only [hl550003_99] at BK542)
            (try simp only [hl550003_99] at BK549)
            (try simp only [hl550003_99] at BK556)
            (try simp only [hl550003_99] at BK564)
            (try simp only [hl550003_99] at HO_543003)
            (try simp only [hl550003_99] at HO_557003)
            (try simp only [hl550003_99] at HO_565003)
            have hl557003_99 := (Kd.R_reads' HO_557003.out).1
            rw [hl557003_99] at HO_557003
            (try simp only [hl557003_99])
            (try simp only [hl557003_99] at BK519)
            (try simp only [hl557003_99] at BK520)
            (try simp only [hl557003_99] at BK542)
            (try simp only [hl557003_99] at BK549)
            (try simp only [hl557003_99] at BK556)
            (try simp only [hl557003_99] at BK564)
            (try simp only [hl557003_99] at HO_543003)
            (try simp only [hl557003_99] at HO_550003)
            (try simp only [hl557003_99] at HO_565003)
            cases kq with
            | zero => exact absurd HA.out (by simp [laws_FnExactPasteImage.j1])
            | succ kj99 =>
              have H := HA.out
              clear HA
              simp only [laws_FnExactPasteImage.j1] at H
              by_cases c137 : x90_99 = true
              · subst c137
                have H1 : (some false) = some r := by rw [if_pos rfl] at H; exact H
                clear H
                have H := H1
                clear H1
                obtain rfl := Option.some.inj H
                exact absurd ht_.out (by decide)
              replace c137 := Bool.eq_false_iff.mpr c137
              subst c137
              have H1 : ((laws_markImage.f kj99 t557 t558 t559 t560 1).bind fun bt585 => ((laws_heldImage.f kj99 t557 t558 t559 bt585.2 1).bind fun t587 => (if t587 < 0 then (some false) else (if t587 = bt585.1 then ((laws_toImage.f kj99 a0_0 a0_1 a0_2 l0_3).bind fun bt588 => ((laws_toImage.f kj99 a3_0 a3_1 a3_2 l3_3).bind fun bt594 => ((impl_PasteImage.f bt588.1 bt588.2.1 bt588.2.2.1 bt588.2.2.2 a1 a2 bt594.1 bt594.2.1 bt594.2.2.1 bt594.2.2.2).bind fun bt600 => ((laws_eqImage.f kj99 bt600.1 bt600.2.1 bt600.2.2.1 bt600.2.2.2.1 t535 t536 t537 t538).bind fun t608 => (if t608 = true then (laws_FnExactPasteImage.j2 kj99 bt585.1 (bt600.2.2.2.2 != t541) t557 t558 t559 bt585.2) else (laws_FnExactPasteImage.j2 kj99 bt585.1 true t557 t558 t559 bt585.2)))))) else (some false))))) = some r := by rw [if_neg (show ¬ (false = true) by decide)] at H; exact H
              clear H
              have H := H1
              clear H1
              replace H := Option.bind_eq_some_iff.mp H
              obtain ⟨⟨t585, t586⟩, A1380, H⟩ := H
              replace H : ((laws_heldImage.f kj99 t557 t558 t559 t586 1).bind fun t587 => (if t587 < 0 then (some false) else (if t587 = t585 then ((laws_toImage.f kj99 a0_0 a0_1 a0_2 l0_3).bind fun bt588 => ((laws_toImage.f kj99 a3_0 a3_1 a3_2 l3_3).bind fun bt594 => ((impl_PasteImage.f bt588.1 bt588.2.1 bt588.2.2.1 bt588.2.2.2 a1 a2 bt594.1 bt594.2.1 bt594.2.2.1 bt594.2.2.2).bind fun bt600 => ((laws_eqImage.f kj99 bt600.1 bt600.2.1 bt600.2.2.1 bt600.2.2.2.1 t535 t536 t537 t538).bind fun t608 => (if t608 = true then (laws_FnExactPasteImage.j2 kj99 t585 (bt600.2.2.2.2 != t541) t557 t558 t559 t586) else (laws_FnExactPasteImage.j2 kj99 t585 true t557 t558 t559 t586)))))) else (some false)))) = some r := H
              have A138 := Aside0.mk A1380
              clear A1380
              replace H := Option.bind_eq_some_iff.mp H
              obtain ⟨t587, A1390, H⟩ := H
              replace H : (if t587 < 0 then (some false) else (if t587 = t585 then ((laws_toImage.f kj99 a0_0 a0_1 a0_2 l0_3).bind fun bt588 => ((laws_toImage.f kj99 a3_0 a3_1 a3_2 l3_3).bind fun bt594 => ((impl_PasteImage.f bt588.1 bt588.2.1 bt588.2.2.1 bt588.2.2.2 a1 a2 bt594.1 bt594.2.1 bt594.2.2.1 bt594.2.2.2).bind fun bt600 => ((laws_eqImage.f kj99 bt600.1 bt600.2.1 bt600.2.2.1 bt600.2.2.2.1 t535 t536 t537 t538).bind fun t608 => (if t608 = true then (laws_FnExactPasteImage.j2 kj99 t585 (bt600.2.2.2.2 != t541) t557 t558 t559 t586) else (laws_FnExactPasteImage.j2 kj99 t585 true t557 t558 t559 t586)))))) else (some false))) = some r := H
              have A139 := Aside0.mk A1390
              clear A1390
              by_cases c140 : t587 < 0
              · rw [if_pos c140] at H
                have c140b0 : decide (t587 < 0) = true := decide_eq_true c140
                clear c140
                obtain rfl := Option.some.inj H
                exact absurd ht_.out (by decide)
              rw [if_neg c140] at H
              have c140b0 : decide (t587 < 0) = false := decide_eq_false c140
              clear c140
              by_cases c141 : t587 = t585
              · rw [if_pos c141] at H
                have c141b0 : (t587 == t585) = true := beq_iff_eq.mpr c141
                have c141b1 : (t587 != t585) = false := bne_eq_false_iff_eq.mpr c141
                clear c141
                replace H := Option.bind_eq_some_iff.mp H
                obtain ⟨⟨t588, t589, t590, t591⟩, A1420, H⟩ := H
                replace H : ((laws_toImage.f kj99 a3_0 a3_1 a3_2 l3_3).bind fun bt594 => ((impl_PasteImage.f t588 t589 t590 t591 a1 a2 bt594.1 bt594.2.1 bt594.2.2.1 bt594.2.2.2).bind fun bt600 => ((laws_eqImage.f kj99 bt600.1 bt600.2.1 bt600.2.2.1 bt600.2.2.2.1 t535 t536 t537 t538).bind fun t608 => (if t608 = true then (laws_FnExactPasteImage.j2 kj99 t585 (bt600.2.2.2.2 != t541) t557 t558 t559 t586) else (laws_FnExactPasteImage.j2 kj99 t585 true t557 t558 t559 t586))))) = some r := H
                have A142 := Aside0.mk A1420
                clear A1420
                replace H := Option.bind_eq_some_iff.mp H
                obtain ⟨⟨t594, t595, t596, t597⟩, A1430, H⟩ := H
                replace H : ((impl_PasteImage.f t588 t589 t590 t591 a1 a2 t594 t595 t596 t597).bind fun bt600 => ((laws_eqImage.f kj99 bt600.1 bt600.2.1 bt600.2.2.1 bt600.2.2.2.1 t535 t536 t537 t538).bind fun t608 => (if t608 = true then (laws_FnExactPasteImage.j2 kj99 t585 (bt600.2.2.2.2 != t541) t557 t558 t559 t586) else (laws_FnExactPasteImage.j2 kj99 t585 true t557 t558 t559 t586)))) = some r := H
                have A143 := Aside0.mk A1430
                clear A1430
                replace H := Option.bind_eq_some_iff.mp H
                obtain ⟨⟨t600, t601, t602, t603, t606⟩, A1440, H⟩ := H
                replace H : ((laws_eqImage.f kj99 t600 t601 t602 t603 t535 t536 t537 t538).bind fun t608 => (if t608 = true then (laws_FnExactPasteImage.j2 kj99 t585 (t606 != t541) t557 t558 t559 t586) else (laws_FnExactPasteImage.j2 kj99 t585 true t557 t558 t559 t586))) = some r := H
                have A144 := Aside0.mk A1440
                clear A1440
                have HC145 := Aside0.mk H
                clear H
                have hnb146 := NB564_519.out
                have hnc146 := NB519_564.out
                have hnb147 := NB564_520.out
                have hnc147 := NB520_564.out
                have hnb148 := NB564_542.out
                have hnc148 := NB542_564.out
                have hnb149 := NB564_549.out
                have hnc149 := NB549_564.out
                have hnb150 := NB564_556.out
                have hnc150 := NB556_564.out
                have hcz151_0 : wc.cell? ⟨gb564, 0, none⟩ = some (.int .i64 t557) := B.bc BK564 0
                have hcz151_1 : wc.cell? ⟨gb564, 1, none⟩ = some (.int .i64 t558) := B.bc BK564 1
                have hcz151_2 : wc.cell? ⟨gb564, 2, none⟩ = some (.int .i64 t559) := B.bc BK564 2
                have hcz151_3 : wc.cell? ⟨gb564, 3, none⟩ = some (.slice Ao76 t560.length co76) := B.bc BK564 3
                have hfz151_0 := blk_frozen BK564.out 0
                have hfz151_1 := blk_frozen BK564.out 1
                have hfz151_2 := blk_frozen BK564.out 2
                have hfz151_3 := blk_frozen BK564.out 3
                try go_wp2_with (first | ((with_reducible refine gate_callee (f := 14) rfl ?_); refine goesL_ (some 93) rfl rfl Try.func14 (by kernel_rfl) rfl #[.agg #[.int .i64 t557, .int .i64 t558, .int .i64 t559, .slice Ao76 t560.length co76], .int .i64 1] rfl B.am ?_; (with_reducible refine (laws_markImage.calls kj99 t557 t558 t559 (fun k_ => some k_ = (.slice Ao76 t560.length co76 : Value).ownBlock) (.slice Ao76 t560.length co76) t560 1 t585 t586 w _ ?side1 ?side2 A138.out).mono ?_); (case side1 => exact B.bl HB); (case side2 => exact Kd.R_tight rfl HO_565003.out); rintro e w152 ⟨rfl, hy0, hb, hkp⟩; refine ⟨_, rfl, ?_⟩; have n0_ := Aside0.mk (Kd.R_mono (ok' := fun k_ => some k_ ≠ (.slice Ao56 t581.length co56 : Value).ownBlock ∧ some k_ ≠ (.slice Ao66 t583.length co66 : Value).ownBlock ∧ some k_ ≠ (.slice Ao76 t560.length co76 : Value).ownBlock) (Kd.R_keptB (HO_543003.out) hkp (fun k_ hk_ hs_ => (hk_.2.2) hs_)) (fun k_ hk_ => ⟨hk_.1.1, hk_.1.2.1, hk_.1.2.2⟩)); have n1_ := Aside0.mk (Kd.R_mono (ok' := fun k_ => some k_ ≠ (.slice Ao46 t538.length co46 : Value).ownBlock ∧ some k_ ≠ (.slice Ao66 t583.length co66 : Value).ownBlock ∧ some k_ ≠ (.slice Ao76 t560.length co76 : Value).ownBlock) (Kd.R_keptB (HO_550003.out) hkp (fun k_ hk_ hs_ => (hk_.2.2) hs_)) (fun k_ hk_ => ⟨hk_.1.1, hk_.1.2.1, hk_.1.2.2⟩)); have n2_ := Aside0.mk (Kd.R_mono (ok' := fun k_ => some k_ ≠ (.slice Ao46 t538.length co46 : Value).ownBlock ∧ some k_ ≠ (.slice Ao56 t581.length co56 : Value).ownBlock ∧ some k_ ≠ (.slice Ao76 t560.length co76 : Value).ownBlock) (Kd.R_keptB (HO_557003.out) hkp (fun k_ hk_ hs_ => (hk_.2.2) hs_)) (fun k_ hk_ => ⟨hk_.1.1, hk_.1.2.1, hk_.1.2.2⟩)); have n3_ := Aside0.mk (Kd.R_reok rfl hy0 (fun k_ e_ => HO_565003.out.1 k_ e_)); have n4_ := Aside0.mk (blk_kept (B.kb BK519) hkp (fun hs_ => (fun e_ => (Kd.R_ne HO_565003.out BK519.out (by decide)) e_) hs_)); have n5_ := Aside0.mk (blk_kept (B.kb BK520) hkp (fun hs_ => (fun e_ => (Kd.R_ne HO_565003.out BK520.out (by decide)) e_) hs_)); have n6_ := Aside0.mk (blk_kept (B.kb BK542) hkp (fun hs_ => (fun e_ => (Kd.R_ne HO_565003.out BK542.out (by decide)) e_) hs_)); have n7_ := Aside0.mk (blk_kept (B.kb BK549) hkp (fun hs_ => (fun e_ => (Kd.R_ne HO_565003.out BK549.out (by decide)) e_) hs_)); have n8_ := Aside0.mk (blk_kept (B.kb BK556) hkp (fun hs_ => (fun e_ => (Kd.R_ne HO_565003.out BK556.out (by decide)) e_) hs_)); have n9_ := Aside0.mk (blk_kept (B.kb BK564) hkp (fun hs_ => (fun e_ => (Kd.R_ne HO_565003.out BK564.out (by decide)) e_) hs_)); have n10_ := Aside0.mk (hb); clear HO_543003 HO_550003 HO_557003 HO_565003 BK519 BK520 BK542 BK549 BK556 BK564 HB; have HO_543003 := n0_; have HO_550003 := n1_; have HO_557003 := n2_; have HO_565003 := n3_; have BK519 := n4_; have BK520 := n5_; have BK542 := n6_; have BK549 := n7_; have BK556 := n8_; have BK564 := n9_; have HB := n10_; clear n0_ n1_ n2_ n3_ n4_ n5_ n6_ n7_ n8_ n9_ n10_; (try clear hb); (try clear hkp); (try clear hy0); have hcz153_0 : w152.cell? ⟨gb564, 0, none⟩ = some (.int .i64 t557) := B.bc BK564 0; have hcz153_1 : w152.cell? ⟨gb564, 1, none⟩ = some (.int .i64 t558) := B.bc BK564 1; have hcz153_2 : w152.cell? ⟨gb564, 2, none⟩ = some (.int .i64 t559) := B.bc BK564 2; have hcz153_3 : w152.cell? ⟨gb564, 3, none⟩ = some (.slice Ao76 t560.length co76) := B.bc BK564 3; have hfz153_0 := blk_frozen BK564.out 0; have hfz153_1 := blk_frozen BK564.out 1; have hfz153_2 := blk_frozen BK564.out 2; have hfz153_3 := blk_frozen BK564.out 3) | ((with_reducible refine gate_callee (f := 15) rfl ?_); refine goesL_ (some 96) rfl rfl Try.func15 (by kernel_rfl) rfl #[.agg #[.int .i64 t557, .int .i64 t558, .int .i64 t559, .slice Ao76 t586.length co76], .int .i64 1] rfl (by (try simp only [List.map_toArray, List.map_cons, List.map_nil]); first | done | (rw [show t586.length = t560.length from (Kd.R_reads' HO_565003.out).1.symm] <;> rfl) | rfl | (simp only [List.length_drop, List.length_take]; rfl)) ?_; (with_reducible refine (laws_heldImage.calls kj99 t557 t558 t559 _ _ t586 1 t587 _ ?side1 ?side2 A139.out).mono ?_); (case side1 => exact B.kc ((Kd.R_reads' HO_565003.out).2.2)); (case side2 => rw [show t586.length = t560.length from (Kd.R_reads' HO_565003.out).1.symm]; exact (Kd.R_reads' HO_565003.out).2.1); rintro e w154 ⟨rfl, hb⟩; refine ⟨_, rfl, ?_⟩; have n0_ := Aside0.mk (Kd.R_below (B.kr HO_543003) hb); have n1_ := Aside0.mk (Kd.R_below (B.kr HO_550003) hb); have n2_ := Aside0.mk (Kd.R_below (B.kr HO_557003) hb); have n3_ := Aside0.mk (Kd.R_below (B.kr HO_565003) hb); have n4_ := Aside0.mk (blk_below (B.kb BK519) hb); have n5_ := Aside0.mk (blk_below (B.kb BK520) hb); have n6_ := Aside0.mk (blk_below (B.kb BK542) hb); have n7_ := Aside0.mk (blk_below (B.kb BK549) hb); have n8_ := Aside0.mk (blk_below (B.kb BK556) hb); have n9_ := Aside0.mk (blk_below (B.kb BK564) hb); have n10_ := Aside0.mk (below_step (B.bl HB) hb); clear HO_543003 HO_550003 HO_557003 HO_565003 BK519 BK520 BK542 BK549 BK556 BK564 HB; have HO_543003 := n0_; have HO_550003 := n1_; have HO_557003 := n2_; have HO_565003 := n3_; have BK519 := n4_; have BK520 := n5_; have BK542 := n6_; have BK549 := n7_; have BK556 := n8_; have BK564 := n9_; have HB := n10_; clear n0_ n1_ n2_ n3_ n4_ n5_ n6_ n7_ n8_ n9_ n10_; (try clear hb); (try clear hb2); (try clear hk); (try clear hi)))
                have n0_ := Aside0.mk (Kd.R_drew HO_543003.out)
                have n1_ := Aside0.mk (Kd.R_drew HO_550003.out)
                have n2_ := Aside0.mk (Kd.R_drew HO_557003.out)
                have n3_ := Aside0.mk (Kd.R_drew HO_565003.out)
                have n4_ := Aside0.mk (blk_drew BK519.out)
                have n5_ := Aside0.mk (blk_drew BK520.out)
                have n6_ := Aside0.mk (blk_drew BK542.out)
                have n7_ := Aside0.mk (blk_drew BK549.out)
                have n8_ := Aside0.mk (blk_drew BK556.out)
                have n9_ := Aside0.mk (blk_drew BK564.out)
                have n10_ := Aside0.mk (below_drew1 HB.out)
                clear HO_543003 HO_550003 HO_557003 HO_565003 BK519 BK520 BK542 BK549 BK556 BK564 HB
                have HO_543003 := n0_
                have HO_550003 := n1_
                have HO_557003 := n2_
                have HO_565003 := n3_
                have BK519 := n4_
                have BK520 := n5_
                have BK542 := n6_
                have BK549 := n7_
                have BK556 := n8_
                have BK564 := n9_
                have HB := n10_
                clear n0_ n1_ n2_ n3_ n4_ n5_ n6_ n7_ n8_ n9_ n10_
                refine start_ (n := 13) (S := fun w' => w'.cell? ⟨gb519, 0, none⟩ = some (.int .i64 a0_0) ∧ w'.cell? ⟨gb519, 1, none⟩ = some (.int .i64 a0_1) ∧ w'.cell? ⟨gb519, 2, none⟩ = some (.int .i64 a0_2) ∧ w'.cell? ⟨gb519, 3, none⟩ = some (.slice A0_3 l0_3.length c0_3) ∧ w'.cell? ⟨gb520, 0, none⟩ = some (.int .i64 a3_0) ∧ w'.cell? ⟨gb520, 1, none⟩ = some (.int .i64 a3_1) ∧ w'.cell? ⟨gb520, 2, none⟩ = some (.int .i64 a3_2) ∧ w'.cell? ⟨gb520, 3, none⟩ = some (.slice A3_3 l3_3.length c3_3)) (ds := []) #[false, false, false, false, false, false, false, false, false, false, false, false, false] (by kernel_rfl) rfl rfl ⟨B.bc BK519 0, B.bc BK519 1, B.bc BK519 2, B.bc BK519 3, B.bc BK520 0, B.bc BK520 1, B.bc BK520 2, B.bc BK520 3⟩ (fun hHeld => ?_); refine with_tabW laws_FnExactPasteImage.tab31 laws_FnExactPasteImage.bits31 (fun HT_ HW_ => ?_)
                generalize w154.drew = w155 at HO_543003 HO_550003 HO_557003 HO_565003 BK519 BK520 BK542 BK549 BK556 BK564 HB hHeld ⊢
                refine pure_ (i := 2) (N := some 105) (v := ?_) (a' := ?_) #[false, false, true, false, false, false, false, false, false, false, false, false, false] rfl rfl (any_of HT_.out (by kernel_rfl)) (fun _ _ _ h => h) (Or.inl ⟨by rfl, ?_⟩) ?_ ?_
                rotate_left
                · intro w'
                  go_simp
                  with_reducible rfl
                rotate_left
                · simp only [Act.put, List.setIfInBounds_toArray, List.set_cons_zero, List.set_cons_succ, i64_w, i32_w]
                  rfl
                refine pure_ (i := 3) (N := some 106) (v := ?_) (a' := ?_) #[false, false, true, true, false, false, false, false, false, false, false, false, false] rfl rfl (any_of HT_.out (by kernel_rfl)) (fun _ _ _ h => h) (Or.inl ⟨by rfl, ?_⟩) ?_ ?_
                rotate_left
                · intro w'
                  go_simp
                  with_reducible rfl
                rotate_left
                · simp only [Act.put, List.setIfInBounds_toArray, List.set_cons_zero, List.set_cons_succ, i64_w, i32_w]
                  rfl
                refine take_ (i := 0) (N := some 103) (v := ?_) (a' := ?_) #[true, false, true, true, false, false, false, false, false, false, false, false, false] rfl rfl (take_ofW HT_.out HW_.out (by kernel_rfl)) (fun _ _ _ h => h) (Or.inl ⟨by rfl, ?_⟩) hHeld ?_ ?_
                rotate_left
                · rintro w' ⟨s0, s1, s2, s3, s4, s5, s6, s7⟩
                  go_simp
                  with_reducible rfl
                rotate_left
                · simp only [Act.put, List.setIfInBounds_toArray, List.set_cons_zero, List.set_cons_succ, i64_w, i32_w]
                  rfl
                refine take_ (i := 4) (N := some 107) (v := ?_) (a' := ?_) #[true, false, true, true, true, false, false, false, false, false, false, false, false] rfl rfl (take_ofW HT_.out HW_.out (by kernel_rfl)) (fun _ _ _ h => h) (Or.inl ⟨by rfl, ?_⟩) hHeld ?_ ?_
                rotate_left
                · rintro w' ⟨s0, s1, s2, s3, s4, s5, s6, s7⟩
                  go_simp
                  with_reducible rfl
                rotate_left
                · simp only [Act.put, List.setIfInBounds_toArray, List.set_cons_zero, List.set_cons_succ, i64_w, i32_w]
                  rfl
                refine join_ (σ := Value × Value × Value × Nat) 2 #[true, true, true, true, true, true, true, true, true, true, true, false, false] (fun s_ => [(104, .agg #[.int .i64 t588, .int .i64 t589, .int .i64 t590, s_.1]), (108, .agg #[.int .i64 t594, .int .i64 t595, .int .i64 t596, s_.2.1]), (109, .tuple #[.agg #[.int .i64 t600, .int .i64 t601, .int .i64 t602, s_.2.2.1], .bool t606]), (19, .pointer (some ⟨s_.2.2.2, 0, none⟩)), (102, .tuple #[.agg #[.int .i64 t600, .int .i64 t601, .int .i64 t602, s_.2.2.1], .bool t606]), (110, .agg #[.int .i64 t600, .int .i64 t601, .int .i64 t602, s_.2.2.1]), (111, .bool t606)]) (fun s_ w' => (w'.cell? ⟨gb519, 0, none⟩ = some (.int .i64 a0_0) ∧ w'.cell? ⟨gb519, 1, none⟩ = some (.int .i64 a0_1) ∧ w'.cell? ⟨gb519, 2, none⟩ = some (.int .i64 a0_2) ∧ w'.cell? ⟨gb519, 3, none⟩ = some (.slice A0_3 l0_3.length c0_3) ∧ w'.cell? ⟨gb520, 0, none⟩ = some (.int .i64 a3_0) ∧ w'.cell? ⟨gb520, 1, none⟩ = some (.int .i64 a3_1) ∧ w'.cell? ⟨gb520, 2, none⟩ = some (.int .i64 a3_2) ∧ w'.cell? ⟨gb520, 3, none⟩ = some (.slice A3_3 l3_3.length c3_3)) ∧ (Kd.R (Kd.int .i64) 3 w' w.heap.size (fun k_ => some k_ ≠ (s_.2.1 : Value).ownBlock ∧ some k_ ≠ (s_.2.2.1 : Value).ownBlock ∧ some k_ ≠ (.slice Ao46 t538.length co46 : Value).ownBlock ∧ some k_ ≠ (.slice Ao56 t581.length co56 : Value).ownBlock ∧ some k_ ≠ (.slice Ao66 t583.length co66 : Value).ownBlock ∧ some k_ ≠ (.slice Ao76 t560.length co76 : Value).ownBlock) s_.1 t591) ∧ (Kd.R (Kd.int .i64) 3 w' w.heap.size (fun k_ => some k_ ≠ (s_.1 : Value).ownBlock ∧ some k_ ≠ (s_.2.2.1 : Value).ownBlock ∧ some k_ ≠ (.slice Ao46 t538.length co46 : Value).ownBlock ∧ some k_ ≠ (.slice Ao56 t581.length co56 : Value).ownBlock ∧ some k_ ≠ (.slice Ao66 t583.length co66 : Value).ownBlock ∧ some k_ ≠ (.slice Ao76 t560.length co76 : Value).ownBlock) s_.2.1 t597) ∧ (Kd.R (Kd.int .i64) 3 w' w.heap.size (fun k_ => some k_ ≠ (s_.1 : Value).ownBlock ∧ some k_ ≠ (s_.2.1 : Value).ownBlock ∧ some k_ ≠ (.slice Ao46 t538.length co46 : Value).ownBlock ∧ some k_ ≠ (.slice Ao56 t581.length co56 : Value).ownBlock ∧ some k_ ≠ (.slice Ao66 t583.length co66 : Value).ownBlock ∧ some k_ ≠ (.slice Ao76 t560.length co76 : Value).ownBlock) s_.2.2.1 t603) ∧ (Kd.R (Kd.int .i64) 3 w' w.heap.size (fun k_ => some k_ ≠ (s_.1 : Value).ownBlock ∧ some k_ ≠ (s_.2.1 : Value).ownBlock ∧ some k_ ≠ (s_.2.2.1 : Value).ownBlock ∧ some k_ ≠ (.slice Ao56 t581.length co56 : Value).ownBlock ∧ some k_ ≠ (.slice Ao66 t583.length co66 : Value).ownBlock ∧ some k_ ≠ (.slice Ao76 t560.length co76 : Value).ownBlock) (.slice Ao46 t538.length co46) t538) ∧ (Kd.R (Kd.int .i64) 3 w' w.heap.size (fun k_ => some k_ ≠ (s_.1 : Value).ownBlock ∧ some k_ ≠ (s_.2.1 : Value).ownBlock ∧ some k_ ≠ (s_.2.2.1 : Value).ownBlock ∧ some k_ ≠ (.slice Ao46 t538.length co46 : Value).ownBlock ∧ some k_ ≠ (.slice Ao66 t583.length co66 : Value).ownBlock ∧ some k_ ≠ (.slice Ao76 t560.length co76 : Value).ownBlock) (.slice Ao56 t581.length co56) t581) ∧ (Kd.R (Kd.int .i64) 3 w' w.heap.size (fun k_ => some k_ ≠ (s_.1 : Value).ownBlock ∧ some k_ ≠ (s_.2.1 : Value).ownBlock ∧ some k_ ≠ (s_.2.2.1 : Value).ownBlock ∧ some k_ ≠ (.slice Ao46 t538.length co46 : Value).ownBlock ∧ some k_ ≠ (.slice Ao56 t581.length co56 : Value).ownBlock ∧ some k_ ≠ (.slice Ao76 t560.length co76 : Value).ownBlock) (.slice Ao66 t583.length co66) t583) ∧ (Kd.R (Kd.int .i64) 3 w' w.heap.size (fun k_ => some k_ ≠ (s_.1 : Value).ownBlock ∧ some k_ ≠ (s_.2.1 : Value).ownBlock ∧ some k_ ≠ (s_.2.2.1 : Value).ownBlock ∧ some k_ ≠ (.slice Ao46 t538.length co46 : Value).ownBlock ∧ some k_ ≠ (.slice Ao56 t581.length co56 : Value).ownBlock ∧ some k_ ≠ (.slice Ao66 t583.length co66 : Value).ownBlock) (.slice Ao76 t560.length co76) t586) ∧ (w'.heap[gb519]? = some (.cells #[.int .i64 a0_0, .int .i64 a0_1, .int .i64 a0_2, .slice A0_3 l0_3.length c0_3] 24 (0, 0))) ∧ (w'.heap[gb520]? = some (.cells #[.int .i64 a3_0, .int .i64 a3_1, .int .i64 a3_2, .slice A3_3 l3_3.length c3_3] 24 (0, 0))) ∧ (w'.heap[gb542]? = some (.cells #[.int .i64 t535, .int .i64 t536, .int .i64 t537, .slice Ao46 t538.length co46] 28 (0, 0))) ∧ (w'.heap[gb549]? = some (.cells #[.int .i64 t543, .int .i64 t544, .int .i64 t545, .slice Ao56 t581.length co56] 28 (0, 0))) ∧ (w'.heap[gb556]? = some (.cells #[.int .i64 t550, .int .i64 t551, .int .i64 t552, .slice Ao66 t583.length co66] 28 (0, 0))) ∧ (w'.heap[gb564]? = some (.cells #[.int .i64 t557, .int .i64 t558, .int .i64 t559, .slice Ao76 t560.length co76] 28 (0, 0))) ∧ (w'.heap[s_.2.2.2]? = some (.cells #[.int .i64 0, .int .i64 0, .int .i64 0, .slice none 0 0] 28 (0, 0))) ∧ (w.heap.size ≤ s_.2.2.2) ∧ (w.heap.size ≤ s_.2.2.2) ∧ (gb519 ≠ s_.2.2.2) ∧ (s_.2.2.2 ≠ gb519) ∧ (gb520 ≠ s_.2.2.2) ∧ (s_.2.2.2 ≠ gb520) ∧ (gb542 ≠ s_.2.2.2) ∧ (s_.2.2.2 ≠ gb542) ∧ (gb549 ≠ s_.2.2.2) ∧ (s_.2.2.2 ≠ gb549) ∧ (gb556 ≠ s_.2.2.2) ∧ (s_.2.2.2 ≠ gb556) ∧ (gb564 ≠ s_.2.2.2) ∧ (s_.2.2.2 ≠ gb564) ∧ (Below w.heap.size w w')) ?_ ?_
                rotate_left
                · intro hCont
                  refine two_ (i := 1) (j := 10) (Ni := some 104) (Nj := some 19) #[true, true, true, true, true, false, false, false, false, false, false, false, false] #[true, false, true, true, true, false, false, false, false, false, true, false, false] rfl rfl rfl rfl (two_of HT_.out (by kernel_rfl)) (by decide) (by decide) (fun K hK => ?_) (fun K hK => ?_)
                  · skip
                    refine goes_ Try.func10 (by kernel_rfl) rfl #[.agg #[.int .i64 a0_0, .int .i64 a0_1, .int .i64 a0_2, .slice A0_3 l0_3.length c0_3]] (by rfl) rfl rfl B.am ?_
                    with_reducible refine (laws_toImage.calls kj99 a0_0 a0_1 a0_2 _ _ l0_3 t588 t589 t590 t591 _ ?side1 ?side2 A142.out).mono ?_
                    (case side1 => exact B.kc (Kd.C_below HR0_3.out HB.out))
                    (case side2 => exact HC0_3.out)
                    rintro e w156 ⟨v592, rfl, ho0, hb⟩
                    refine ⟨_, rfl, ?_⟩
                    have n0_ := Aside0.mk (Kd.R_elder' (B.kr HO_543003) (Kd.R_base ho0) hb)
                    have n1_ := Aside0.mk (Kd.R_elder' (B.kr HO_550003) (Kd.R_base ho0) hb)
                    have n2_ := Aside0.mk (Kd.R_elder' (B.kr HO_557003) (Kd.R_base ho0) hb)
                    have n3_ := Aside0.mk (Kd.R_elder' (B.kr HO_565003) (Kd.R_base ho0) hb)
                    have n4_ := Aside0.mk (Kd.R_lower (Kd.R_new' (Kd.R_new' (Kd.R_new' (Kd.R_new' ho0 (Kd.R_lt (B.kr HO_543003))) (Kd.R_lt (B.kr HO_550003))) (Kd.R_lt (B.kr HO_557003))) (Kd.R_lt (B.kr HO_565003))) (below_size (B.bl HB)))
                    have n5_ := Aside0.mk (blk_below (B.kb BK519) hb)
                    have n6_ := Aside0.mk (blk_below (B.kb BK520) hb)
                    have n7_ := Aside0.mk (blk_below (B.kb BK542) hb)
                    have n8_ := Aside0.mk (blk_below (B.kb BK549) hb)
                    have n9_ := Aside0.mk (blk_below (B.kb BK556) hb)
                    have n10_ := Aside0.mk (blk_below (B.kb BK564) hb)
                    have n11_ := Aside0.mk (below_step (B.bl HB) hb)
                    clear HO_543003 HO_550003 HO_557003 HO_565003 BK519 BK520 BK542 BK549 BK556 BK564 HB
                    have HO_543003 := n0_
                    have HO_550003 := n1_
                    have HO_557003 := n2_
                    have HO_565003 := n3_
                    have HO593 := n4_
                    have BK519 := n5_
                    have BK520 := n6_
                    have BK542 := n7_
                    have BK549 := n8_
                    have BK556 := n9_
                    have BK564 := n10_
                    have HB := n11_
                    clear n0_ n1_ n2_ n3_ n4_ n5_ n6_ n7_ n8_ n9_ n10_ n11_
                    (try clear hb)
                    (try clear hb2)
                    (try clear hk)
                    (try clear hi)
                    (try clear ho0)
                    refine hK.out _ _ ⟨B.bc BK519 0, B.bc BK519 1, B.bc BK519 2, B.bc BK519 3, B.bc BK520 0, B.bc BK520 1, B.bc BK520 2, B.bc BK520 3⟩ (fun hHeld => ?_)
                    clear hK K
                    refine norm_ (a' := ?_) ?_ ?_
                    rotate_left
                    · show Act.put _ (some 104) _ = _
                      simp only [Act.put, List.setIfInBounds_toArray, List.set_cons_zero, List.set_cons_succ, i64_w, i32_w]
                      rfl
                    refine two_ (i := 5) (j := 10) (Ni := some 108) (Nj := some 19) #[true, true, true, true, true, true, false, false, false, false, false, false, false] #[true, true, true, true, true, false, false, false, false, false, true, false, false] rfl rfl rfl rfl (two_of HT_.out (by kernel_rfl)) (by decide) (by decide) (fun K hK => ?_) (fun K hK => ?_)
                    · skip
                      refine goes_ Try.func10 (by kernel_rfl) rfl #[.agg #[.int .i64 a3_0, .int .i64 a3_1, .int .i64 a3_2, .slice A3_3 l3_3.length c3_3]] (by rfl) rfl rfl B.am ?_
                      with_reducible refine (laws_toImage.calls kj99 a3_0 a3_1 a3_2 _ _ l3_3 t594 t595 t596 t597 _ ?side1 ?side2 A143.out).mono ?_
                      (case side1 => exact B.kc (Kd.C_below HR3_3.out HB.out))
                      (case side2 => exact HC3_3.out)
                      rintro e w157 ⟨v598, rfl, ho0, hb⟩
                      refine ⟨_, rfl, ?_⟩
                      have n0_ := Aside0.mk (Kd.R_elder' (B.kr HO_543003) (Kd.R_base ho0) hb)
                      have n1_ := Aside0.mk (Kd.R_elder' (B.kr HO_550003) (Kd.R_base ho0) hb)
                      have n2_ := Aside0.mk (Kd.R_elder' (B.kr HO_557003) (Kd.R_base ho0) hb)
                      have n3_ := Aside0.mk (Kd.R_elder' (B.kr HO_565003) (Kd.R_base ho0) hb)
                      have n4_ := Aside0.mk (Kd.R_elder' (B.kr HO593) (Kd.R_base ho0) hb)
                      have n5_ := Aside0.mk (Kd.R_lower (Kd.R_new' (Kd.R_new' (Kd.R_new' (Kd.R_new' (Kd.R_new' ho0 (Kd.R_lt (B.kr HO_543003))) (Kd.R_lt (B.kr HO_550003))) (Kd.R_lt (B.kr HO_557003))) (Kd.R_lt (B.kr HO_565003))) (Kd.R_lt (B.kr HO593))) (below_size (B.bl HB)))
                      have n6_ := Aside0.mk (blk_below (B.kb BK519) hb)
                      have n7_ := Aside0.mk (blk_below (B.kb BK520) hb)
                      have n8_ := Aside0.mk (blk_below (B.kb BK542) hb)
                      have n9_ := Aside0.mk (blk_below (B.kb BK549) hb)
                      have n10_ := Aside0.mk (blk_below (B.kb BK556) hb)
                      have n11_ := Aside0.mk (blk_below (B.kb BK564) hb)
                      have n12_ := Aside0.mk (below_step (B.bl HB) hb)
                      clear HO_543003 HO_550003 HO_557003 HO_565003 HO593 BK519 BK520 BK542 BK549 BK556 BK564 HB
                      have HO_543003 := n0_
                      have HO_550003 := n1_
                      have HO_557003 := n2_
                      have HO_565003 := n3_
                      have HO593 := n4_
                      have HO599 := n5_
                      have BK519 := n6_
                      have BK520 := n7_
                      have BK542 := n8_
                      have BK549 := n9_
                      have BK556 := n10_
                      have BK564 := n11_
                      have HB := n12_
                      clear n0_ n1_ n2_ n3_ n4_ n5_ n6_ n7_ n8_ n9_ n10_ n11_ n12_
                      (try clear hb)
                      (try clear hb2)
                      (try clear hk)
                      (try clear hi)
                      (try clear ho0)
                      obtain ⟨Ao158, co158, eo158⟩ := Kd.R_slice HO593.out
                      (first | subst eo158 | (injection eo158 with f1_ f2_ f3_; have f4_ := f1_.symm; have f5_ := f3_.symm; clear f1_ f2_ f3_; subst f4_; subst f5_))
                      obtain ⟨Ao159, co159, eo159⟩ := Kd.R_slice HO599.out
                      (first | subst eo159 | (injection eo159 with f1_ f2_ f3_; have f4_ := f1_.symm; have f5_ := f3_.symm; clear f1_ f2_ f3_; subst f4_; subst f5_))
                      refine hK.out _ _ ⟨B.bc BK519 0, B.bc BK519 1, B.bc BK519 2, B.bc BK519 3, B.bc BK520 0, B.bc BK520 1, B.bc BK520 2, B.bc BK520 3⟩ (fun hHeld => ?_)
                      clear hK K
                      refine norm_ (a' := ?_) ?_ ?_
                      rotate_left
                      · show Act.put _ (some 108) _ = _
                        simp only [Act.put, List.setIfInBounds_toArray, List.set_cons_zero, List.set_cons_succ, i64_w, i32_w]
                        rfl
                      refine two_ (i := 6) (j := 10) (Ni := some 109) (Nj := some 19) #[true, true, true, true, true, true, true, false, false, false, false, false, false] #[true, true, true, true, true, true, false, false, false, false, true, false, false] rfl rfl rfl rfl (two_of HT_.out (by kernel_rfl)) (by decide) (by decide) (fun K hK => ?_) (fun K hK => ?_)
                      · skip
                        refine goes_ Try.func18 (by kernel_rfl) rfl #[.agg #[.int .i64 t588, .int .i64 t589, .int .i64 t590, .slice Ao158 t591.length co158], .int .i64 a1, .int .i64 a2, .agg #[.int .i64 t594, .int .i64 t595, .int .i64 t596, .slice Ao159 t597.length co159]] (by rfl) rfl rfl B.am ?_
                        with_reducible refine (impl_PasteImage.calls t588 t589 t590 _ _ t591 a1 a2 t594 t595 t596 _ _ t597 t600 t601 t602 t603 t606 _ ?side1 ?side2 ?side3 ?side4 A144.out).mono ?_
                        (case side1 => exact B.kc ((Kd.R_reads' HO593.out).2.2))
                        (case side2 => exact (Kd.R_reads' HO593.out).2.1)
                        (case side3 => exact B.kc ((Kd.R_reads' HO599.out).2.2))
                        (case side4 => exact (Kd.R_reads' HO599.out).2.1)
                        rintro e w160 ⟨v604, rfl, ho0, hb⟩
                        refine ⟨_, rfl, ?_⟩
                        have n0_ := Aside0.mk (Kd.R_elder' (B.kr HO_543003) (Kd.R_base ho0) hb)
                        have n1_ := Aside0.mk (Kd.R_elder' (B.kr HO_550003) (Kd.R_base ho0) hb)
                        have n2_ := Aside0.mk (Kd.R_elder' (B.kr HO_557003) (Kd.R_base ho0) hb)
                        have n3_ := Aside0.mk (Kd.R_elder' (B.kr HO_565003) (Kd.R_base ho0) hb)
                        have n4_ := Aside0.mk (Kd.R_elder' (B.kr HO593) (Kd.R_base ho0) hb)
                        have n5_ := Aside0.mk (Kd.R_elder' (B.kr HO599) (Kd.R_base ho0) hb)
                        have n6_ := Aside0.mk (Kd.R_lower (Kd.R_new' (Kd.R_new' (Kd.R_new' (Kd.R_new' (Kd.R_new' (Kd.R_new' ho0 (Kd.R_lt (B.kr HO_543003))) (Kd.R_lt (B.kr HO_550003))) (Kd.R_lt (B.kr HO_557003))) (Kd.R_lt (B.kr HO_565003))) (Kd.R_lt (B.kr HO593))) (Kd.R_lt (B.kr HO599))) (below_size (B.bl HB)))
                        have n7_ := Aside0.mk (blk_below (B.kb BK519) hb)
                        have n8_ := Aside0.mk (blk_below (B.kb BK520) hb)
                        have n9_ := Aside0.mk (blk_below (B.kb BK542) hb)
                        have n10_ := Aside0.mk (blk_below (B.kb BK549) hb)
                        have n11_ := Aside0.mk (blk_below (B.kb BK556) hb)
                        have n12_ := Aside0.mk (blk_below (B.kb BK564) hb)
                        have n13_ := Aside0.mk (below_step (B.bl HB) hb)
                        clear HO_543003 HO_550003 HO_557003 HO_565003 HO593 HO599 BK519 BK520 BK542 BK549 BK556 BK564 HB
                        have HO_543003 := n0_
                        have HO_550003 := n1_
                        have HO_557003 := n2_
                        have HO_565003 := n3_
                        have HO593 := n4_
                        have HO599 := n5_
                        have HO605 := n6_
                        have BK519 := n7_
                        have BK520 := n8_
                        have BK542 := n9_
                        have BK549 := n10_
                        have BK556 := n11_
                        have BK564 := n12_
                        have HB := n13_
                        clear n0_ n1_ n2_ n3_ n4_ n5_ n6_ n7_ n8_ n9_ n10_ n11_ n12_ n13_
                        (try clear hb)
                        (try clear hb2)
                        (try clear hk)
                        (try clear hi)
                        (try clear ho0)
                        refine hK.out _ _ ⟨B.bc BK519 0, B.bc BK519 1, B.bc BK519 2, B.bc BK519 3, B.bc BK520 0, B.bc BK520 1, B.bc BK520 2, B.bc BK520 3⟩ (fun hHeld => ?_)
                        clear hK K
                        refine norm_ (a' := ?_) ?_ ?_
                        rotate_left
                        · show Act.put _ (some 109) _ = _
                          simp only [Act.put, List.setIfInBounds_toArray, List.set_cons_zero, List.set_cons_succ, i64_w, i32_w]
                          rfl
                        refine pure_ (i := 7) (N := some 102) (v := ?_) (a' := ?_) #[true, true, true, true, true, true, true, true, false, false, false, false, false] rfl rfl (any_of HT_.out (by kernel_rfl)) (fun _ _ _ h => h) (Or.inl ⟨by rfl, ?_⟩) ?_ ?_
                        rotate_left
                        · intro w'
                          go_simp
                          with_reducible rfl
                        rotate_left
                        · simp only [Act.put, List.setIfInBounds_toArray, List.set_cons_zero, List.set_cons_succ, i64_w, i32_w]
                          rfl
                        refine pure_ (i := 8) (N := some 110) (v := ?_) (a' := ?_) #[true, true, true, true, true, true, true, true, true, false, false, false, false] rfl rfl (any_of HT_.out (by kernel_rfl)) (fun _ _ _ h => h) (Or.inl ⟨by rfl, ?_⟩) ?_ ?_
                        rotate_left
                        · intro w'
                          go_simp
                          with_reducible rfl
                        rotate_left
                        · simp only [Act.put, List.setIfInBounds_toArray, List.set_cons_zero, List.set_cons_succ, i64_w, i32_w]
                          rfl
                        refine pure_ (i := 9) (N := some 111) (v := ?_) (a' := ?_) #[true, true, true, true, true, true, true, true, true, true, false, false, false] rfl rfl (any_of HT_.out (by kernel_rfl)) (fun _ _ _ h => h) (Or.inl ⟨by rfl, ?_⟩) ?_ ?_
                        rotate_left
                        · intro w'
                          go_simp
                          with_reducible rfl
                        rotate_left
                        · simp only [Act.put, List.setIfInBounds_toArray, List.set_cons_zero, List.set_cons_succ, i64_w, i32_w]
                          rfl
                        refine one_ (i := 10) (N := some 19) #[true, true, true, true, true, true, true, true, true, true, true, false, false] rfl rfl (one_of HT_.out (by kernel_rfl)) (by decide) (fun K hK => ?_)
                        refine box_step ?hg (N := 19) ?hd (cs := #[.int .i64 0, .int .i64 0, .int .i64 0, .slice none 0 0]) (t := 28) ?hr ?_; (case hd => rfl); (case hg => rfl); (case hr => first | (go_simp; done) | (go_simp; rfl))
                        intro gb607 hg w161 hbox hb
                        have n0_ := Aside0.mk (Kd.R_below (B.kr HO_543003) hb)
                        have n1_ := Aside0.mk (Kd.R_below (B.kr HO_550003) hb)
                        have n2_ := Aside0.mk (Kd.R_below (B.kr HO_557003) hb)
                        have n3_ := Aside0.mk (Kd.R_below (B.kr HO_565003) hb)
                        have n4_ := Aside0.mk (Kd.R_below (B.kr HO593) hb)
                        have n5_ := Aside0.mk (Kd.R_below (B.kr HO599) hb)
                        have n6_ := Aside0.mk (Kd.R_below (B.kr HO605) hb)
                        have n7_ := Aside0.mk (blk_below (B.kb BK519) hb)
                        have n8_ := Aside0.mk (blk_below (B.kb BK520) hb)
                        have n9_ := Aside0.mk (blk_below (B.kb BK542) hb)
                        have n10_ := Aside0.mk (blk_below (B.kb BK549) hb)
                        have n11_ := Aside0.mk (blk_below (B.kb BK556) hb)
                        have n12_ := Aside0.mk (blk_below (B.kb BK564) hb)
                        have n13_ := Aside0.mk (below_step (B.bl HB) hb)
                        have n14_ := Aside0.mk (hbox)
                        have n15_ := Aside0.mk (B.nle hg (below_size (B.bl HB)))
                        have n16_ := Aside0.mk (B.nle hg (below_size (B.bl HB)))
                        have n17_ := Aside0.mk (B.nlt hg (blk_lt (B.kb BK519)))
                        have n18_ := Aside0.mk (B.ngt hg (blk_lt (B.kb BK519)))
                        have n19_ := Aside0.mk (B.nlt hg (blk_lt (B.kb BK520)))
                        have n20_ := Aside0.mk (B.ngt hg (blk_lt (B.kb BK520)))
                        have n21_ := Aside0.mk (B.nlt hg (blk_lt (B.kb BK542)))
                        have n22_ := Aside0.mk (B.ngt hg (blk_lt (B.kb BK542)))
                        have n23_ := Aside0.mk (B.nlt hg (blk_lt (B.kb BK549)))
                        have n24_ := Aside0.mk (B.ngt hg (blk_lt (B.kb BK549)))
                        have n25_ := Aside0.mk (B.nlt hg (blk_lt (B.kb BK556)))
                        have n26_ := Aside0.mk (B.ngt hg (blk_lt (B.kb BK556)))
                        have n27_ := Aside0.mk (B.nlt hg (blk_lt (B.kb BK564)))
                        have n28_ := Aside0.mk (B.ngt hg (blk_lt (B.kb BK564)))
                        clear HO_543003 HO_550003 HO_557003 HO_565003 HO593 HO599 HO605 BK519 BK520 BK542 BK549 BK556 BK564 HB
                        have HO_543003 := n0_
                        have HO_550003 := n1_
                        have HO_557003 := n2_
                        have HO_565003 := n3_
                        have HO593 := n4_
                        have HO599 := n5_
                        have HO605 := n6_
                        have BK519 := n7_
                        have BK520 := n8_
                        have BK542 := n9_
                        have BK549 := n10_
                        have BK556 := n11_
                        have BK564 := n12_
                        have HB := n13_
                        have BK607 := n14_
                        have GW607 := n15_
                        have GE607 := n16_
                        have NB519_607 := n17_
                        have NB607_519 := n18_
                        have NB520_607 := n19_
                        have NB607_520 := n20_
                        have NB542_607 := n21_
                        have NB607_542 := n22_
                        have NB549_607 := n23_
                        have NB607_549 := n24_
                        have NB556_607 := n25_
                        have NB607_556 := n26_
                        have NB564_607 := n27_
                        have NB607_564 := n28_
                        clear n0_ n1_ n2_ n3_ n4_ n5_ n6_ n7_ n8_ n9_ n10_ n11_ n12_ n13_ n14_ n15_ n16_ n17_ n18_ n19_ n20_ n21_ n22_ n23_ n24_ n25_ n26_ n27_ n28_
                        clear hb hbox hg
                        refine hK.out _ _ ⟨B.bc BK519 0, B.bc BK519 1, B.bc BK519 2, B.bc BK519 3, B.bc BK520 0, B.bc BK520 1, B.bc BK520 2, B.bc BK520 3⟩ (fun hHeld => ?_)
                        clear hK K
                        refine norm_ (a' := ?_) ?_ ?_
                        rotate_left
                        · show Act.put _ (some 19) _ = _
                          simp only [Act.put, List.setIfInBounds_toArray, List.set_cons_zero, List.set_cons_succ, i64_w, i32_w]
                          rfl
                        exact norm_ (by simp only [putAll, Act.put, List.setIfInBounds_toArray, List.set_cons_zero, List.set_cons_succ]) (hCont (.slice Ao158 t591.length co158, .slice Ao159 t597.length co159, v604, gb607) _ ⟨hHeld, (B.kr0 (Kd.R_mono HO593.out (fun _ hk => ⟨hk.1.2, ⟨hk.2, ⟨hk.1.1.1.1.1.2, ⟨hk.1.1.1.1.2, ⟨hk.1.1.1.2, hk.1.1.2⟩⟩⟩⟩⟩))), (B.kr0 (Kd.R_mono HO599.out (fun _ hk => ⟨hk.1.2, ⟨hk.2, ⟨hk.1.1.1.1.1.2, ⟨hk.1.1.1.1.2, ⟨hk.1.1.1.2, hk.1.1.2⟩⟩⟩⟩⟩))), (B.kr0 (Kd.R_mono HO605.out (fun _ hk => ⟨hk.1.2, ⟨hk.2, ⟨hk.1.1.1.1.1.2, ⟨hk.1.1.1.1.2, ⟨hk.1.1.1.2, hk.1.1.2⟩⟩⟩⟩⟩))), (B.kr0 (Kd.R_mono HO_543003.out (fun _ hk => ⟨hk.1.1.2, ⟨hk.1.2, ⟨hk.2, ⟨hk.1.1.1.1, ⟨hk.1.1.1.2.1, hk.1.1.1.2.2⟩⟩⟩⟩⟩))), (B.kr0 (Kd.R_mono HO_550003.out (fun _ hk => ⟨hk.1.1.2, ⟨hk.1.2, ⟨hk.2, ⟨hk.1.1.1.1, ⟨hk.1.1.1.2.1, hk.1.1.1.2.2⟩⟩⟩⟩⟩))), (B.kr0 (Kd.R_mono HO_557003.out (fun _ hk => ⟨hk.1.1.2, ⟨hk.1.2, ⟨hk.2, ⟨hk.1.1.1.1, ⟨hk.1.1.1.2.1, hk.1.1.1.2.2⟩⟩⟩⟩⟩))), (B.kr0 (Kd.R_mono HO_565003.out (fun _ hk => ⟨hk.1.1.2, ⟨hk.1.2, ⟨hk.2, ⟨hk.1.1.1.1, ⟨hk.1.1.1.2.1, hk.1.1.1.2.2⟩⟩⟩⟩⟩))), (B.kb BK519), (B.kb BK520), (B.kb BK542), (B.kb BK549), (B.kb BK556), (B.kb BK564), (B.kb BK607), GW607.out, GE607.out, NB519_607.out, NB607_519.out, NB520_607.out, NB607_520.out, NB542_607.out, NB607_542.out, NB549_607.out, NB607_549.out, NB556_607.out, NB607_556.out, NB564_607.out, NB607_564.out, (B.bl HB)⟩)
                      skip
                      refine box_step ?hg (N := 19) ?hd (cs := #[.int .i64 0, .int .i64 0, .int .i64 0, .slice none 0 0]) (t := 28) ?hr ?_; (case hd => rfl); (case hg => rfl); (case hr => first | (go_simp; done) | (go_simp; rfl))
                      intro gb607 hg w158 hbox hb
                      have n0_ := Aside0.mk (Kd.R_below (B.kr HO_543003) hb)
                      have n1_ := Aside0.mk (Kd.R_below (B.kr HO_550003) hb)
                      have n2_ := Aside0.mk (Kd.R_below (B.kr HO_557003) hb)
                      have n3_ := Aside0.mk (Kd.R_below (B.kr HO_565003) hb)
                      have n4_ := Aside0.mk (Kd.R_below (B.kr HO593) hb)
                      have n5_ := Aside0.mk (Kd.R_below (B.kr HO599) hb)
                      have n6_ := Aside0.mk (blk_below (B.kb BK519) hb)
                      have n7_ := Aside0.mk (blk_below (B.kb BK520) hb)
                      have n8_ := Aside0.mk (blk_below (B.kb BK542) hb)
                      have n9_ := Aside0.mk (blk_below (B.kb BK549) hb)
                      have n10_ := Aside0.mk (blk_below (B.kb BK556) hb)
                      have n11_ := Aside0.mk (blk_below (B.kb BK564) hb)
                      have n12_ := Aside0.mk (below_step (B.bl HB) hb)
                      have n13_ := Aside0.mk (hbox)
                      have n14_ := Aside0.mk (B.nle hg (below_size (B.bl HB)))
                      have n15_ := Aside0.mk (B.nle hg (below_size (B.bl HB)))
                      have n16_ := Aside0.mk (B.nlt hg (blk_lt (B.kb BK519)))
                      have n17_ := Aside0.mk (B.ngt hg (blk_lt (B.kb BK519)))
                      have n18_ := Aside0.mk (B.nlt hg (blk_lt (B.kb BK520)))
                      have n19_ := Aside0.mk (B.ngt hg (blk_lt (B.kb BK520)))
                      have n20_ := Aside0.mk (B.nlt hg (blk_lt (B.kb BK542)))
                      have n21_ := Aside0.mk (B.ngt hg (blk_lt (B.kb BK542)))
                      have n22_ := Aside0.mk (B.nlt hg (blk_lt (B.kb BK549)))
                      have n23_ := Aside0.mk (B.ngt hg (blk_lt (B.kb BK549)))
                      have n24_ := Aside0.mk (B.nlt hg (blk_lt (B.kb BK556)))
                      have n25_ := Aside0.mk (B.ngt hg (blk_lt (B.kb BK556)))
                      have n26_ := Aside0.mk (B.nlt hg (blk_lt (B.kb BK564)))
                      have n27_ := Aside0.mk (B.ngt hg (blk_lt (B.kb BK564)))
                      clear HO_543003 HO_550003 HO_557003 HO_565003 HO593 HO599 BK519 BK520 BK542 BK549 BK556 BK564 HB
                      have HO_543003 := n0_
                      have HO_550003 := n1_
                      have HO_557003 := n2_
                      have HO_565003 := n3_
                      have HO593 := n4_
                      have HO599 := n5_
                      have BK519 := n6_
                      have BK520 := n7_
                      have BK542 := n8_
                      have BK549 := n9_
                      have BK556 := n10_
                      have BK564 := n11_
                      have HB := n12_
                      have BK607 := n13_
                      have GW607 := n14_
                      have GE607 := n15_
                      have NB519_607 := n16_
                      have NB607_519 := n17_
                      have NB520_607 := n18_
                      have NB607_520 := n19_
                      have NB542_607 := n20_
                      have NB607_542 := n21_
                      have NB549_607 := n22_
                      have NB607_549 := n23_
                      have NB556_607 := n24_
                      have NB607_556 := n25_
                      have NB564_607 := n26_
                      have NB607_564 := n27_
                      clear n0_ n1_ n2_ n3_ n4_ n5_ n6_ n7_ n8_ n9_ n10_ n11_ n12_ n13_ n14_ n15_ n16_ n17_ n18_ n19_ n20_ n21_ n22_ n23_ n24_ n25_ n26_ n27_
                      clear hb hbox hg
                      obtain ⟨Ao159, co159, eo159⟩ := Kd.R_slice HO593.out
                      (first | subst eo159 | (injection eo159 with f1_ f2_ f3_; have f4_ := f1_.symm; have f5_ := f3_.symm; clear f1_ f2_ f3_; subst f4_; subst f5_))
                      obtain ⟨Ao160, co160, eo160⟩ := Kd.R_slice HO599.out
                      (first | subst eo160 | (injection eo160 with f1_ f2_ f3_; have f4_ := f1_.symm; have f5_ := f3_.symm; clear f1_ f2_ f3_; subst f4_; subst f5_))
                      refine hK.out _ _ ⟨B.bc BK519 0, B.bc BK519 1, B.bc BK519 2, B.bc BK519 3, B.bc BK520 0, B.bc BK520 1, B.bc BK520 2, B.bc BK520 3⟩ (fun hHeld => ?_)
                      clear hK K
                      refine norm_ (a' := ?_) ?_ ?_
                      rotate_left
                      · show Act.put _ (some 19) _ = _
                        simp only [Act.put, List.setIfInBounds_toArray, List.set_cons_zero, List.set_cons_succ, i64_w, i32_w]
                        rfl
                      refine one_ (i := 6) (N := some 109) #[true, true, true, true, true, true, true, false, false, false, true, false, false] rfl rfl (one_of HT_.out (by kernel_rfl)) (by decide) (fun K hK => ?_)
                      refine goes_ Try.func18 (by kernel_rfl) rfl #[.agg #[.int .i64 t588, .int .i64 t589, .int .i64 t590, .slice Ao159 t591.length co159], .int .i64 a1, .int .i64 a2, .agg #[.int .i64 t594, .int .i64 t595, .int .i64 t596, .slice Ao160 t597.length co160]] (by rfl) rfl rfl B.am ?_
                      with_reducible refine (impl_PasteImage.calls t588 t589 t590 _ _ t591 a1 a2 t594 t595 t596 _ _ t597 t600 t601 t602 t603 t606 _ ?side1 ?side2 ?side3 ?side4 A144.out).mono ?_
                      (case side1 => exact B.kc ((Kd.R_reads' HO593.out).2.2))
                      (case side2 => exact (Kd.R_reads' HO593.out).2.1)
                      (case side3 => exact B.kc ((Kd.R_reads' HO599.out).2.2))
                      (case side4 => exact (Kd.R_reads' HO599.out).2.1)
                      rintro e w161 ⟨v604, rfl, ho0, hb⟩
                      refine ⟨_, rfl, ?_⟩
                      have n0_ := Aside0.mk (Kd.R_elder' (B.kr HO_543003) (Kd.R_base ho0) hb)
                      have n1_ := Aside0.mk (Kd.R_elder' (B.kr HO_550003) (Kd.R_base ho0) hb)
                      have n2_ := Aside0.mk (Kd.R_elder' (B.kr HO_557003) (Kd.R_base ho0) hb)
                      have n3_ := Aside0.mk (Kd.R_elder' (B.kr HO_565003) (Kd.R_base ho0) hb)
                      have n4_ := Aside0.mk (Kd.R_elder' (B.kr HO593) (Kd.R_base ho0) hb)
                      have n5_ := Aside0.mk (Kd.R_elder' (B.kr HO599) (Kd.R_base ho0) hb)
                      have n6_ := Aside0.mk (Kd.R_lower (Kd.R_new' (Kd.R_new' (Kd.R_new' (Kd.R_new' (Kd.R_new' (Kd.R_new' ho0 (Kd.R_lt (B.kr HO_543003))) (Kd.R_lt (B.kr HO_550003))) (Kd.R_lt (B.kr HO_557003))) (Kd.R_lt (B.kr HO_565003))) (Kd.R_lt (B.kr HO593))) (Kd.R_lt (B.kr HO599))) (below_size (B.bl HB)))
                      have n7_ := Aside0.mk (blk_below (B.kb BK519) hb)
                      have n8_ := Aside0.mk (blk_below (B.kb BK520) hb)
                      have n9_ := Aside0.mk (blk_below (B.kb BK542) hb)
                      have n10_ := Aside0.mk (blk_below (B.kb BK549) hb)
                      have n11_ := Aside0.mk (blk_below (B.kb BK556) hb)
                      have n12_ := Aside0.mk (blk_below (B.kb BK564) hb)
                      have n13_ := Aside0.mk (blk_below (B.kb BK607) hb)
                      have n14_ := Aside0.mk (below_step (B.bl HB) hb)
                      clear HO_543003 HO_550003 HO_557003 HO_565003 HO593 HO599 BK519 BK520 BK542 BK549 BK556 BK564 BK607 HB
                      have HO_543003 := n0_
                      have HO_550003 := n1_
                      have HO_557003 := n2_
                      have HO_565003 := n3_
                      have HO593 := n4_
                      have HO599 := n5_
                      have HO605 := n6_
                      have BK519 := n7_
                      have BK520 := n8_
                      have BK542 := n9_
                      have BK549 := n10_
                      have BK556 := n11_
                      have BK564 := n12_
                      have BK607 := n13_
                      have HB := n14_
                      clear n0_ n1_ n2_ n3_ n4_ n5_ n6_ n7_ n8_ n9_ n10_ n11_ n12_ n13_ n14_
                      (try clear hb)
                      (try clear hb2)
                      (try clear hk)
                      (try clear hi)
                      (try clear ho0)
                      refine hK.out _ _ ⟨B.bc BK519 0, B.bc BK519 1, B.bc BK519 2, B.bc BK519 3, B.bc BK520 0, B.bc BK520 1, B.bc BK520 2, B.bc BK520 3⟩ (fun hHeld => ?_)
                      clear hK K
                      refine norm_ (a' := ?_) ?_ ?_
                      rotate_left
                      · show Act.put _ (some 109) _ = _
                        simp only [Act.put, List.setIfInBounds_toArray, List.set_cons_zero, List.set_cons_succ, i64_w, i32_w]
                        rfl
                      refine pure_ (i := 7) (N := some 102) (v := ?_) (a' := ?_) #[true, true, true, true, true, true, true, true, false, false, true, false, false] rfl rfl (any_of HT_.out (by kernel_rfl)) (fun _ _ _ h => h) (Or.inl ⟨by rfl, ?_⟩) ?_ ?_
                      rotate_left
                      · intro w'
                        go_simp
                        with_reducible rfl
                      rotate_left
                      · simp only [Act.put, List.setIfInBounds_toArray, List.set_cons_zero, List.set_cons_succ, i64_w, i32_w]
                        rfl
                      refine pure_ (i := 8) (N := some 110) (v := ?_) (a' := ?_) #[true, true, true, true, true, true, true, true, true, false, true, false, false] rfl rfl (any_of HT_.out (by kernel_rfl)) (fun _ _ _ h => h) (Or.inl ⟨by rfl, ?_⟩) ?_ ?_
                      rotate_left
                      · intro w'
                        go_simp
                        with_reducible rfl
                      rotate_left
                      · simp only [Act.put, List.setIfInBounds_toArray, List.set_cons_zero, List.set_cons_succ, i64_w, i32_w]
                        rfl
                      refine pure_ (i := 9) (N := some 111) (v := ?_) (a' := ?_) #[true, true, true, true, true, true, true, true, true, true, true, false, false] rfl rfl (any_of HT_.out (by kernel_rfl)) (fun _ _ _ h => h) (Or.inl ⟨by rfl, ?_⟩) ?_ ?_
                      rotate_left
                      · intro w'
                        go_simp
                        with_reducible rfl
                      rotate_left
                      · simp only [Act.put, List.setIfInBounds_toArray, List.set_cons_zero, List.set_cons_succ, i64_w, i32_w]
                        rfl
                      exact norm_ (by simp only [putAll, Act.put, List.setIfInBounds_toArray, List.set_cons_zero, List.set_cons_succ]) (hCont (.slice Ao159 t591.length co159, .slice Ao160 t597.length co160, v604, gb607) _ ⟨hHeld, (B.kr0 (Kd.R_mono HO593.out (fun _ hk => ⟨hk.1.2, ⟨hk.2, ⟨hk.1.1.1.1.1.2, ⟨hk.1.1.1.1.2, ⟨hk.1.1.1.2, hk.1.1.2⟩⟩⟩⟩⟩))), (B.kr0 (Kd.R_mono HO599.out (fun _ hk => ⟨hk.1.2, ⟨hk.2, ⟨hk.1.1.1.1.1.2, ⟨hk.1.1.1.1.2, ⟨hk.1.1.1.2, hk.1.1.2⟩⟩⟩⟩⟩))), (B.kr0 (Kd.R_mono HO605.out (fun _ hk => ⟨hk.1.2, ⟨hk.2, ⟨hk.1.1.1.1.1.2, ⟨hk.1.1.1.1.2, ⟨hk.1.1.1.2, hk.1.1.2⟩⟩⟩⟩⟩))), (B.kr0 (Kd.R_mono HO_543003.out (fun _ hk => ⟨hk.1.1.2, ⟨hk.1.2, ⟨hk.2, ⟨hk.1.1.1.1, ⟨hk.1.1.1.2.1, hk.1.1.1.2.2⟩⟩⟩⟩⟩))), (B.kr0 (Kd.R_mono HO_550003.out (fun _ hk => ⟨hk.1.1.2, ⟨hk.1.2, ⟨hk.2, ⟨hk.1.1.1.1, ⟨hk.1.1.1.2.1, hk.1.1.1.2.2⟩⟩⟩⟩⟩))), (B.kr0 (Kd.R_mono HO_557003.out (fun _ hk => ⟨hk.1.1.2, ⟨hk.1.2, ⟨hk.2, ⟨hk.1.1.1.1, ⟨hk.1.1.1.2.1, hk.1.1.1.2.2⟩⟩⟩⟩⟩))), (B.kr0 (Kd.R_mono HO_565003.out (fun _ hk => ⟨hk.1.1.2, ⟨hk.1.2, ⟨hk.2, ⟨hk.1.1.1.1, ⟨hk.1.1.1.2.1, hk.1.1.1.2.2⟩⟩⟩⟩⟩))), (B.kb BK519), (B.kb BK520), (B.kb BK542), (B.kb BK549), (B.kb BK556), (B.kb BK564), (B.kb BK607), GW607.out, GE607.out, NB519_607.out, NB607_519.out, NB520_607.out, NB607_520.out, NB542_607.out, NB607_542.out, NB549_607.out, NB607_549.out, NB556_607.out, NB607_556.out, NB564_607.out, NB607_564.out, (B.bl HB)⟩)
                    skip
                    refine box_step ?hg (N := 19) ?hd (cs := #[.int .i64 0, .int .i64 0, .int .i64 0, .slice none 0 0]) (t := 28) ?hr ?_; (case hd => rfl); (case hg => rfl); (case hr => first | (go_simp; done) | (go_simp; rfl))
                    intro gb607 hg w157 hbox hb
                    have n0_ := Aside0.mk (Kd.R_below (B.kr HO_543003) hb)
                    have n1_ := Aside0.mk (Kd.R_below (B.kr HO_550003) hb)
                    have n2_ := Aside0.mk (Kd.R_below (B.kr HO_557003) hb)
                    have n3_ := Aside0.mk (Kd.R_below (B.kr HO_565003) hb)
                    have n4_ := Aside0.mk (Kd.R_below (B.kr HO593) hb)
                    have n5_ := Aside0.mk (blk_below (B.kb BK519) hb)
                    have n6_ := Aside0.mk (blk_below (B.kb BK520) hb)
                    have n7_ := Aside0.mk (blk_below (B.kb BK542) hb)
                    have n8_ := Aside0.mk (blk_below (B.kb BK549) hb)
                    have n9_ := Aside0.mk (blk_below (B.kb BK556) hb)
                    have n10_ := Aside0.mk (blk_below (B.kb BK564) hb)
                    have n11_ := Aside0.mk (below_step (B.bl HB) hb)
                    have n12_ := Aside0.mk (hbox)
                    have n13_ := Aside0.mk (B.nle hg (below_size (B.bl HB)))
                    have n14_ := Aside0.mk (B.nle hg (below_size (B.bl HB)))
                    have n15_ := Aside0.mk (B.nlt hg (blk_lt (B.kb BK519)))
                    have n16_ := Aside0.mk (B.ngt hg (blk_lt (B.kb BK519)))
                    have n17_ := Aside0.mk (B.nlt hg (blk_lt (B.kb BK520)))
                    have n18_ := Aside0.mk (B.ngt hg (blk_lt (B.kb BK520)))
                    have n19_ := Aside0.mk (B.nlt hg (blk_lt (B.kb BK542)))
                    have n20_ := Aside0.mk (B.ngt hg (blk_lt (B.kb BK542)))
                    have n21_ := Aside0.mk (B.nlt hg (blk_lt (B.kb BK549)))
                    have n22_ := Aside0.mk (B.ngt hg (blk_lt (B.kb BK549)))
                    have n23_ := Aside0.mk (B.nlt hg (blk_lt (B.kb BK556)))
                    have n24_ := Aside0.mk (B.ngt hg (blk_lt (B.kb BK556)))
                    have n25_ := Aside0.mk (B.nlt hg (blk_lt (B.kb BK564)))
                    have n26_ := Aside0.mk (B.ngt hg (blk_lt (B.kb BK564)))
                    clear HO_543003 HO_550003 HO_557003 HO_565003 HO593 BK519 BK520 BK542 BK549 BK556 BK564 HB
                    have HO_543003 := n0_
                    have HO_550003 := n1_
                    have HO_557003 := n2_
                    have HO_565003 := n3_
                    have HO593 := n4_
                    have BK519 := n5_
                    have BK520 := n6_
                    have BK542 := n7_
                    have BK549 := n8_
                    have BK556 := n9_
                    have BK564 := n10_
                    have HB := n11_
                    have BK607 := n12_
                    have GW607 := n13_
                    have GE607 := n14_
                    have NB519_607 := n15_
                    have NB607_519 := n16_
                    have NB520_607 := n17_
                    have NB607_520 := n18_
                    have NB542_607 := n19_
                    have NB607_542 := n20_
                    have NB549_607 := n21_
                    have NB607_549 := n22_
                    have NB556_607 := n23_
                    have NB607_556 := n24_
                    have NB564_607 := n25_
                    have NB607_564 := n26_
                    clear n0_ n1_ n2_ n3_ n4_ n5_ n6_ n7_ n8_ n9_ n10_ n11_ n12_ n13_ n14_ n15_ n16_ n17_ n18_ n19_ n20_ n21_ n22_ n23_ n24_ n25_ n26_
                    clear hb hbox hg
                    refine hK.out _ _ ⟨B.bc BK519 0, B.bc BK519 1, B.bc BK519 2, B.bc BK519 3, B.bc BK520 0, B.bc BK520 1, B.bc BK520 2, B.bc BK520 3⟩ (fun hHeld => ?_)
                    clear hK K
                    refine norm_ (a' := ?_) ?_ ?_
                    rotate_left
                    · show Act.put _ (some 19) _ = _
                      simp only [Act.put, List.setIfInBounds_toArray, List.set_cons_zero, List.set_cons_succ, i64_w, i32_w]
                      rfl
                    refine one_ (i := 5) (N := some 108) #[true, true, true, true, true, true, false, false, false, false, true, false, false] rfl rfl (one_of HT_.out (by kernel_rfl)) (by decide) (fun K hK => ?_)
                    refine goes_ Try.func10 (by kernel_rfl) rfl #[.agg #[.int .i64 a3_0, .int .i64 a3_1, .int .i64 a3_2, .slice A3_3 l3_3.length c3_3]] (by rfl) rfl rfl B.am ?_
                    with_reducible refine (laws_toImage.calls kj99 a3_0 a3_1 a3_2 _ _ l3_3 t594 t595 t596 t597 _ ?side1 ?side2 A143.out).mono ?_
                    (case side1 => exact B.kc (Kd.C_below HR3_3.out HB.out))
                    (case side2 => exact HC3_3.out)
                    rintro e w158 ⟨v598, rfl, ho0, hb⟩
                    refine ⟨_, rfl, ?_⟩
                    have n0_ := Aside0.mk (Kd.R_elder' (B.kr HO_543003) (Kd.R_base ho0) hb)
                    have n1_ := Aside0.mk (Kd.R_elder' (B.kr HO_550003) (Kd.R_base ho0) hb)
                    have n2_ := Aside0.mk (Kd.R_elder' (B.kr HO_557003) (Kd.R_base ho0) hb)
                    have n3_ := Aside0.mk (Kd.R_elder' (B.kr HO_565003) (Kd.R_base ho0) hb)
                    have n4_ := Aside0.mk (Kd.R_elder' (B.kr HO593) (Kd.R_base ho0) hb)
                    have n5_ := Aside0.mk (Kd.R_lower (Kd.R_new' (Kd.R_new' (Kd.R_new' (Kd.R_new' (Kd.R_new' ho0 (Kd.R_lt (B.kr HO_543003))) (Kd.R_lt (B.kr HO_550003))) (Kd.R_lt (B.kr HO_557003))) (Kd.R_lt (B.kr HO_565003))) (Kd.R_lt (B.kr HO593))) (below_size (B.bl HB)))
                    have n6_ := Aside0.mk (blk_below (B.kb BK519) hb)
                    have n7_ := Aside0.mk (blk_below (B.kb BK520) hb)
                    have n8_ := Aside0.mk (blk_below (B.kb BK542) hb)
                    have n9_ := Aside0.mk (blk_below (B.kb BK549) hb)
                    have n10_ := Aside0.mk (blk_below (B.kb BK556) hb)
                    have n11_ := Aside0.mk (blk_below (B.kb BK564) hb)
                    have n12_ := Aside0.mk (blk_below (B.kb BK607) hb)
                    have n13_ := Aside0.mk (below_step (B.bl HB) hb)
                    clear HO_543003 HO_550003 HO_557003 HO_565003 HO593 BK519 BK520 BK542 BK549 BK556 BK564 BK607 HB
                    have HO_543003 := n0_
                    have HO_550003 := n1_
                    have HO_557003 := n2_
                    have HO_565003 := n3_
                    have HO593 := n4_
                    have HO599 := n5_
                    have BK519 := n6_
                    have BK520 := n7_
                    have BK542 := n8_
                    have BK549 := n9_
                    have BK556 := n10_
                    have BK564 := n11_
                    have BK607 := n12_
                    have HB := n13_
                    clear n0_ n1_ n2_ n3_ n4_ n5_ n6_ n7_ n8_ n9_ n10_ n11_ n12_ n13_
                    (try clear hb)
                    (try clear hb2)
                    (try clear hk)
                    (try clear hi)
                    (try clear ho0)
                    obtain ⟨Ao159, co159, eo159⟩ := Kd.R_slice HO593.out
                    (first | subst eo159 | (injection eo159 with f1_ f2_ f3_; have f4_ := f1_.symm; have f5_ := f3_.symm; clear f1_ f2_ f3_; subst f4_; subst f5_))
                    obtain ⟨Ao160, co160, eo160⟩ := Kd.R_slice HO599.out
                    (first | subst eo160 | (injection eo160 with f1_ f2_ f3_; have f4_ := f1_.symm; have f5_ := f3_.symm; clear f1_ f2_ f3_; subst f4_; subst f5_))
                    refine hK.out _ _ ⟨B.bc BK519 0, B.bc BK519 1, B.bc BK519 2, B.bc BK519 3, B.bc BK520 0, B.bc BK520 1, B.bc BK520 2, B.bc BK520 3⟩ (fun hHeld => ?_)
                    clear hK K
                    refine norm_ (a' := ?_) ?_ ?_
                    rotate_left
                    · show Act.put _ (some 108) _ = _
                      simp only [Act.put, List.setIfInBounds_toArray, List.set_cons_zero, List.set_cons_succ, i64_w, i32_w]
                      rfl
                    refine one_ (i := 6) (N := some 109) #[true, true, true, true, true, true, true, false, false, false, true, false, false] rfl rfl (one_of HT_.out (by kernel_rfl)) (by decide) (fun K hK => ?_)
                    refine goes_ Try.func18 (by kernel_rfl) rfl #[.agg #[.int .i64 t588, .int .i64 t589, .int .i64 t590, .slice Ao159 t591.length co159], .int .i64 a1, .int .i64 a2, .agg #[.int .i64 t594, .int .i64 t595, .int .i64 t596, .slice Ao160 t597.length co160]] (by rfl) rfl rfl B.am ?_
                    with_reducible refine (impl_PasteImage.calls t588 t589 t590 _ _ t591 a1 a2 t594 t595 t596 _ _ t597 t600 t601 t602 t603 t606 _ ?side1 ?side2 ?side3 ?side4 A144.out).mono ?_
                    (case side1 => exact B.kc ((Kd.R_reads' HO593.out).2.2))
                    (case side2 => exact (Kd.R_reads' HO593.out).2.1)
                    (case side3 => exact B.kc ((Kd.R_reads' HO599.out).2.2))
                    (case side4 => exact (Kd.R_reads' HO599.out).2.1)
                    rintro e w161 ⟨v604, rfl, ho0, hb⟩
                    refine ⟨_, rfl, ?_⟩
                    have n0_ := Aside0.mk (Kd.R_elder' (B.kr HO_543003) (Kd.R_base ho0) hb)
                    have n1_ := Aside0.mk (Kd.R_elder' (B.kr HO_550003) (Kd.R_base ho0) hb)
                    have n2_ := Aside0.mk (Kd.R_elder' (B.kr HO_557003) (Kd.R_base ho0) hb)
                    have n3_ := Aside0.mk (Kd.R_elder' (B.kr HO_565003) (Kd.R_base ho0) hb)
                    have n4_ := Aside0.mk (Kd.R_elder' (B.kr HO593) (Kd.R_base ho0) hb)
                    have n5_ := Aside0.mk (Kd.R_elder' (B.kr HO599) (Kd.R_base ho0) hb)
                    have n6_ := Aside0.mk (Kd.R_lower (Kd.R_new' (Kd.R_new' (Kd.R_new' (Kd.R_new' (Kd.R_new' (Kd.R_new' ho0 (Kd.R_lt (B.kr HO_543003))) (Kd.R_lt (B.kr HO_550003))) (Kd.R_lt (B.kr HO_557003))) (Kd.R_lt (B.kr HO_565003))) (Kd.R_lt (B.kr HO593))) (Kd.R_lt (B.kr HO599))) (below_size (B.bl HB)))
                    have n7_ := Aside0.mk (blk_below (B.kb BK519) hb)
                    have n8_ := Aside0.mk (blk_below (B.kb BK520) hb)
                    have n9_ := Aside0.mk (blk_below (B.kb BK542) hb)
                    have n10_ := Aside0.mk (blk_below (B.kb BK549) hb)
                    have n11_ := Aside0.mk (blk_below (B.kb BK556) hb)
                    have n12_ := Aside0.mk (blk_below (B.kb BK564) hb)
                    have n13_ := Aside0.mk (blk_below (B.kb BK607) hb)
                    have n14_ := Aside0.mk (below_step (B.bl HB) hb)
                    clear HO_543003 HO_550003 HO_557003 HO_565003 HO593 HO599 BK519 BK520 BK542 BK549 BK556 BK564 BK607 HB
                    have HO_543003 := n0_
                    have HO_550003 := n1_
                    have HO_557003 := n2_
                    have HO_565003 := n3_
                    have HO593 := n4_
                    have HO599 := n5_
                    have HO605 := n6_
                    have BK519 := n7_
                    have BK520 := n8_
                    have BK542 := n9_
                    have BK549 := n10_
                    have BK556 := n11_
                    have BK564 := n12_
                    have BK607 := n13_
                    have HB := n14_
                    clear n0_ n1_ n2_ n3_ n4_ n5_ n6_ n7_ n8_ n9_ n10_ n11_ n12_ n13_ n14_
                    (try clear hb)
                    (try clear hb2)
                    (try clear hk)
                    (try clear hi)
                    (try clear ho0)
                    refine hK.out _ _ ⟨B.bc BK519 0, B.bc BK519 1, B.bc BK519 2, B.bc BK519 3, B.bc BK520 0, B.bc BK520 1, B.bc BK520 2, B.bc BK520 3⟩ (fun hHeld => ?_)
                    clear hK K
                    refine norm_ (a' := ?_) ?_ ?_
                    rotate_left
                    · show Act.put _ (some 109) _ = _
                      simp only [Act.put, List.setIfInBounds_toArray, List.set_cons_zero, List.set_cons_succ, i64_w, i32_w]
                      rfl
                    refine pure_ (i := 7) (N := some 102) (v := ?_) (a' := ?_) #[true, true, true, true, true, true, true, true, false, false, true, false, false] rfl rfl (any_of HT_.out (by kernel_rfl)) (fun _ _ _ h => h) (Or.inl ⟨by rfl, ?_⟩) ?_ ?_
                    rotate_left
                    · intro w'
                      go_simp
                      with_reducible rfl
                    rotate_left
                    · simp only [Act.put, List.setIfInBounds_toArray, List.set_cons_zero, List.set_cons_succ, i64_w, i32_w]
                      rfl
                    refine pure_ (i := 8) (N := some 110) (v := ?_) (a' := ?_) #[true, true, true, true, true, true, true, true, true, false, true, false, false] rfl rfl (any_of HT_.out (by kernel_rfl)) (fun _ _ _ h => h) (Or.inl ⟨by rfl, ?_⟩) ?_ ?_
                    rotate_left
                    · intro w'
                      go_simp
                      with_reducible rfl
                    rotate_left
                    · simp only [Act.put, List.setIfInBounds_toArray, List.set_cons_zero, List.set_cons_succ, i64_w, i32_w]
                      rfl
                    refine pure_ (i := 9) (N := some 111) (v := ?_) (a' := ?_) #[true, true, true, true, true, true, true, true, true, true, true, false, false] rfl rfl (any_of HT_.out (by kernel_rfl)) (fun _ _ _ h => h) (Or.inl ⟨by rfl, ?_⟩) ?_ ?_
                    rotate_left
                    · intro w'
                      go_simp
                      with_reducible rfl
                    rotate_left
                    · simp only [Act.put, List.setIfInBounds_toArray, List.set_cons_zero, List.set_cons_succ, i64_w, i32_w]
                      rfl
                    exact norm_ (by simp only [putAll, Act.put, List.setIfInBounds_toArray, List.set_cons_zero, List.set_cons_succ]) (hCont (.slice Ao159 t591.length co159, .slice Ao160 t597.length co160, v604, gb607) _ ⟨hHeld, (B.kr0 (Kd.R_mono HO593.out (fun _ hk => ⟨hk.1.2, ⟨hk.2, ⟨hk.1.1.1.1.1.2, ⟨hk.1.1.1.1.2, ⟨hk.1.1.1.2, hk.1.1.2⟩⟩⟩⟩⟩))), (B.kr0 (Kd.R_mono HO599.out (fun _ hk => ⟨hk.1.2, ⟨hk.2, ⟨hk.1.1.1.1.1.2, ⟨hk.1.1.1.1.2, ⟨hk.1.1.1.2, hk.1.1.2⟩⟩⟩⟩⟩))), (B.kr0 (Kd.R_mono HO605.out (fun _ hk => ⟨hk.1.2, ⟨hk.2, ⟨hk.1.1.1.1.1.2, ⟨hk.1.1.1.1.2, ⟨hk.1.1.1.2, hk.1.1.2⟩⟩⟩⟩⟩))), (B.kr0 (Kd.R_mono HO_543003.out (fun _ hk => ⟨hk.1.1.2, ⟨hk.1.2, ⟨hk.2, ⟨hk.1.1.1.1, ⟨hk.1.1.1.2.1, hk.1.1.1.2.2⟩⟩⟩⟩⟩))), (B.kr0 (Kd.R_mono HO_550003.out (fun _ hk => ⟨hk.1.1.2, ⟨hk.1.2, ⟨hk.2, ⟨hk.1.1.1.1, ⟨hk.1.1.1.2.1, hk.1.1.1.2.2⟩⟩⟩⟩⟩))), (B.kr0 (Kd.R_mono HO_557003.out (fun _ hk => ⟨hk.1.1.2, ⟨hk.1.2, ⟨hk.2, ⟨hk.1.1.1.1, ⟨hk.1.1.1.2.1, hk.1.1.1.2.2⟩⟩⟩⟩⟩))), (B.kr0 (Kd.R_mono HO_565003.out (fun _ hk => ⟨hk.1.1.2, ⟨hk.1.2, ⟨hk.2, ⟨hk.1.1.1.1, ⟨hk.1.1.1.2.1, hk.1.1.1.2.2⟩⟩⟩⟩⟩))), (B.kb BK519), (B.kb BK520), (B.kb BK542), (B.kb BK549), (B.kb BK556), (B.kb BK564), (B.kb BK607), GW607.out, GE607.out, NB519_607.out, NB607_519.out, NB520_607.out, NB607_520.out, NB542_607.out, NB607_542.out, NB549_607.out, NB607_549.out, NB556_607.out, NB607_556.out, NB564_607.out, NB607_564.out, (B.bl HB)⟩)
                  skip
                  refine box_step ?hg (N := 19) ?hd (cs := #[.int .i64 0, .int .i64 0, .int .i64 0, .slice none 0 0]) (t := 28) ?hr ?_; (case hd => rfl); (case hg => rfl); (case hr => first | (go_simp; done) | (go_simp; rfl))
                  intro gb607 hg w156 hbox hb
                  have n0_ := Aside0.mk (Kd.R_below (B.kr HO_543003) hb)
                  have n1_ := Aside0.mk (Kd.R_below (B.kr HO_550003) hb)
                  have n2_ := Aside0.mk (Kd.R_below (B.kr HO_557003) hb)
                  have n3_ := Aside0.mk (Kd.R_below (B.kr HO_565003) hb)
                  have n4_ := Aside0.mk (blk_below (B.kb BK519) hb)
                  have n5_ := Aside0.mk (blk_below (B.kb BK520) hb)
                  have n6_ := Aside0.mk (blk_below (B.kb BK542) hb)
                  have n7_ := Aside0.mk (blk_below (B.kb BK549) hb)
                  have n8_ := Aside0.mk (blk_below (B.kb BK556) hb)
                  have n9_ := Aside0.mk (blk_below (B.kb BK564) hb)
                  have n10_ := Aside0.mk (below_step (B.bl HB) hb)
                  have n11_ := Aside0.mk (hbox)
                  have n12_ := Aside0.mk (B.nle hg (below_size (B.bl HB)))
                  have n13_ := Aside0.mk (B.nle hg (below_size (B.bl HB)))
                  have n14_ := Aside0.mk (B.nlt hg (blk_lt (B.kb BK519)))
                  have n15_ := Aside0.mk (B.ngt hg (blk_lt (B.kb BK519)))
                  have n16_ := Aside0.mk (B.nlt hg (blk_lt (B.kb BK520)))
                  have n17_ := Aside0.mk (B.ngt hg (blk_lt (B.kb BK520)))
                  have n18_ := Aside0.mk (B.nlt hg (blk_lt (B.kb BK542)))
                  have n19_ := Aside0.mk (B.ngt hg (blk_lt (B.kb BK542)))
                  have n20_ := Aside0.mk (B.nlt hg (blk_lt (B.kb BK549)))
                  have n21_ := Aside0.mk (B.ngt hg (blk_lt (B.kb BK549)))
                  have n22_ := Aside0.mk (B.nlt hg (blk_lt (B.kb BK556)))
                  have n23_ := Aside0.mk (B.ngt hg (blk_lt (B.kb BK556)))
                  have n24_ := Aside0.mk (B.nlt hg (blk_lt (B.kb BK564)))
                  have n25_ := Aside0.mk (B.ngt hg (blk_lt (B.kb BK564)))
                  clear HO_543003 HO_550003 HO_557003 HO_565003 BK519 BK520 BK542 BK549 BK556 BK564 HB
                  have HO_543003 := n0_
                  have HO_550003 := n1_
                  have HO_557003 := n2_
                  have HO_565003 := n3_
                  have BK519 := n4_
                  have BK520 := n5_
                  have BK542 := n6_
                  have BK549 := n7_
                  have BK556 := n8_
                  have BK564 := n9_
                  have HB := n10_
                  have BK607 := n11_
                  have GW607 := n12_
                  have GE607 := n13_
                  have NB519_607 := n14_
                  have NB607_519 := n15_
                  have NB520_607 := n16_
                  have NB607_520 := n17_
                  have NB542_607 := n18_
                  have NB607_542 := n19_
                  have NB549_607 := n20_
                  have NB607_549 := n21_
                  have NB556_607 := n22_
                  have NB607_556 := n23_
                  have NB564_607 := n24_
                  have NB607_564 := n25_
                  clear n0_ n1_ n2_ n3_ n4_ n5_ n6_ n7_ n8_ n9_ n10_ n11_ n12_ n13_ n14_ n15_ n16_ n17_ n18_ n19_ n20_ n21_ n22_ n23_ n24_ n25_
                  clear hb hbox hg
                  refine hK.out _ _ ⟨B.bc BK519 0, B.bc BK519 1, B.bc BK519 2, B.bc BK519 3, B.bc BK520 0, B.bc BK520 1, B.bc BK520 2, B.bc BK520 3⟩ (fun hHeld => ?_)
                  clear hK K
                  refine norm_ (a' := ?_) ?_ ?_
                  rotate_left
                  · show Act.put _ (some 19) _ = _
                    simp only [Act.put, List.setIfInBounds_toArray, List.set_cons_zero, List.set_cons_succ, i64_w, i32_w]
                    rfl
                  refine one_ (i := 1) (N := some 104) #[true, true, true, true, true, false, false, false, false, false, true, false, false] rfl rfl (one_of HT_.out (by kernel_rfl)) (by decide) (fun K hK => ?_)
                  refine goes_ Try.func10 (by kernel_rfl) rfl #[.agg #[.int .i64 a0_0, .int .i64 a0_1, .int .i64 a0_2, .slice A0_3 l0_3.length c0_3]] (by rfl) rfl rfl B.am ?_
                  with_reducible refine (laws_toImage.calls kj99 a0_0 a0_1 a0_2 _ _ l0_3 t588 t589 t590 t591 _ ?side1 ?side2 A142.out).mono ?_
                  (case side1 => exact B.kc (Kd.C_below HR0_3.out HB.out))
                  (case side2 => exact HC0_3.out)
                  rintro e w157 ⟨v592, rfl, ho0, hb⟩
                  refine ⟨_, rfl, ?_⟩
                  have n0_ := Aside0.mk (Kd.R_elder' (B.kr HO_543003) (Kd.R_base ho0) hb)
                  have n1_ := Aside0.mk (Kd.R_elder' (B.kr HO_550003) (Kd.R_base ho0) hb)
                  have n2_ := Aside0.mk (Kd.R_elder' (B.kr HO_557003) (Kd.R_base ho0) hb)
                  have n3_ := Aside0.mk (Kd.R_elder' (B.kr HO_565003) (Kd.R_base ho0) hb)
                  have n4_ := Aside0.mk (Kd.R_lower (Kd.R_new' (Kd.R_new' (Kd.R_new' (Kd.R_new' ho0 (Kd.R_lt (B.kr HO_543003))) (Kd.R_lt (B.kr HO_550003))) (Kd.R_lt (B.kr HO_557003))) (Kd.R_lt (B.kr HO_565003))) (below_size (B.bl HB)))
                  have n5_ := Aside0.mk (blk_below (B.kb BK519) hb)
                  have n6_ := Aside0.mk (blk_below (B.kb BK520) hb)
                  have n7_ := Aside0.mk (blk_below (B.kb BK542) hb)
                  have n8_ := Aside0.mk (blk_below (B.kb BK549) hb)
                  have n9_ := Aside0.mk (blk_below (B.kb BK556) hb)
                  have n10_ := Aside0.mk (blk_below (B.kb BK564) hb)
                  have n11_ := Aside0.mk (blk_below (B.kb BK607) hb)
                  have n12_ := Aside0.mk (below_step (B.bl HB) hb)
                  clear HO_543003 HO_550003 HO_557003 HO_565003 BK519 BK520 BK542 BK549 BK556 BK564 BK607 HB
                  have HO_543003 := n0_
                  have HO_550003 := n1_
                  have HO_557003 := n2_
                  have HO_565003 := n3_
                  have HO593 := n4_
                  have BK519 := n5_
                  have BK520 := n6_
                  have BK542 := n7_
                  have BK549 := n8_
                  have BK556 := n9_
                  have BK564 := n10_
                  have BK607 := n11_
                  have HB := n12_
                  clear n0_ n1_ n2_ n3_ n4_ n5_ n6_ n7_ n8_ n9_ n10_ n11_ n12_
                  (try clear hb)
                  (try clear hb2)
                  (try clear hk)
                  (try clear hi)
                  (try clear ho0)
                  refine hK.out _ _ ⟨B.bc BK519 0, B.bc BK519 1, B.bc BK519 2, B.bc BK519 3, B.bc BK520 0, B.bc BK520 1, B.bc BK520 2, B.bc BK520 3⟩ (fun hHeld => ?_)
                  clear hK K
                  refine norm_ (a' := ?_) ?_ ?_
                  rotate_left
                  · show Act.put _ (some 104) _ = _
                    simp only [Act.put, List.setIfInBounds_toArray, List.set_cons_zero, List.set_cons_succ, i64_w, i32_w]
                    rfl
                  refine one_ (i := 5) (N := some 108) #[true, true, true, true, true, true, false, false, false, false, true, false, false] rfl rfl (one_of HT_.out (by kernel_rfl)) (by decide) (fun K hK => ?_)
                  refine goes_ Try.func10 (by kernel_rfl) rfl #[.agg #[.int .i64 a3_0, .int .i64 a3_1, .int .i64 a3_2, .slice A3_3 l3_3.length c3_3]] (by rfl) rfl rfl B.am ?_
                  with_reducible refine (laws_toImage.calls kj99 a3_0 a3_1 a3_2 _ _ l3_3 t594 t595 t596 t597 _ ?side1 ?side2 A143.out).mono ?_
                  (case side1 => exact B.kc (Kd.C_below HR3_3.out HB.out))
                  (case side2 => exact HC3_3.out)
                  rintro e w158 ⟨v598, rfl, ho0, hb⟩
                  refine ⟨_, rfl, ?_⟩
                  have n0_ := Aside0.mk (Kd.R_elder' (B.kr HO_543003) (Kd.R_base ho0) hb)
                  have n1_ := Aside0.mk (Kd.R_elder' (B.kr HO_550003) (Kd.R_base ho0) hb)
                  have n2_ := Aside0.mk (Kd.R_elder' (B.kr HO_557003) (Kd.R_base ho0) hb)
                  have n3_ := Aside0.mk (Kd.R_elder' (B.kr HO_565003) (Kd.R_base ho0) hb)
                  have n4_ := Aside0.mk (Kd.R_elder' (B.kr HO593) (Kd.R_base ho0) hb)
                  have n5_ := Aside0.mk (Kd.R_lower (Kd.R_new' (Kd.R_new' (Kd.R_new' (Kd.R_new' (Kd.R_new' ho0 (Kd.R_lt (B.kr HO_543003))) (Kd.R_lt (B.kr HO_550003))) (Kd.R_lt (B.kr HO_557003))) (Kd.R_lt (B.kr HO_565003))) (Kd.R_lt (B.kr HO593))) (below_size (B.bl HB)))
                  have n6_ := Aside0.mk (blk_below (B.kb BK519) hb)
                  have n7_ := Aside0.mk (blk_below (B.kb BK520) hb)
                  have n8_ := Aside0.mk (blk_below (B.kb BK542) hb)
                  have n9_ := Aside0.mk (blk_below (B.kb BK549) hb)
                  have n10_ := Aside0.mk (blk_below (B.kb BK556) hb)
                  have n11_ := Aside0.mk (blk_below (B.kb BK564) hb)
                  have n12_ := Aside0.mk (blk_below (B.kb BK607) hb)
                  have n13_ := Aside0.mk (below_step (B.bl HB) hb)
                  clear HO_543003 HO_550003 HO_557003 HO_565003 HO593 BK519 BK520 BK542 BK549 BK556 BK564 BK607 HB
                  have HO_543003 := n0_
                  have HO_550003 := n1_
                  have HO_557003 := n2_
                  have HO_565003 := n3_
                  have HO593 := n4_
                  have HO599 := n5_
                  have BK519 := n6_
                  have BK520 := n7_
                  have BK542 := n8_
                  have BK549 := n9_
                  have BK556 := n10_
                  have BK564 := n11_
                  have BK607 := n12_
                  have HB := n13_
                  clear n0_ n1_ n2_ n3_ n4_ n5_ n6_ n7_ n8_ n9_ n10_ n11_ n12_ n13_
                  (try clear hb)
                  (try clear hb2)
                  (try clear hk)
                  (try clear hi)
                  (try clear ho0)
                  obtain ⟨Ao159, co159, eo159⟩ := Kd.R_slice HO593.out
                  (first | subst eo159 | (injection eo159 with f1_ f2_ f3_; have f4_ := f1_.symm; have f5_ := f3_.symm; clear f1_ f2_ f3_; subst f4_; subst f5_))
                  obtain ⟨Ao160, co160, eo160⟩ := Kd.R_slice HO599.out
                  (first | subst eo160 | (injection eo160 with f1_ f2_ f3_; have f4_ := f1_.symm; have f5_ := f3_.symm; clear f1_ f2_ f3_; subst f4_; subst f5_))
                  refine hK.out _ _ ⟨B.bc BK519 0, B.bc BK519 1, B.bc BK519 2, B.bc BK519 3, B.bc BK520 0, B.bc BK520 1, B.bc BK520 2, B.bc BK520 3⟩ (fun hHeld => ?_)
                  clear hK K
                  refine norm_ (a' := ?_) ?_ ?_
                  rotate_left
                  · show Act.put _ (some 108) _ = _
                    simp only [Act.put, List.setIfInBounds_toArray, List.set_cons_zero, List.set_cons_succ, i64_w, i32_w]
                    rfl
                  refine one_ (i := 6) (N := some 109) #[true, true, true, true, true, true, true, false, false, false, true, false, false] rfl rfl (one_of HT_.out (by kernel_rfl)) (by decide) (fun K hK => ?_)
                  refine goes_ Try.func18 (by kernel_rfl) rfl #[.agg #[.int .i64 t588, .int .i64 t589, .int .i64 t590, .slice Ao159 t591.length co159], .int .i64 a1, .int .i64 a2, .agg #[.int .i64 t594, .int .i64 t595, .int .i64 t596, .slice Ao160 t597.length co160]] (by rfl) rfl rfl B.am ?_
                  with_reducible refine (impl_PasteImage.calls t588 t589 t590 _ _ t591 a1 a2 t594 t595 t596 _ _ t597 t600 t601 t602 t603 t606 _ ?side1 ?side2 ?side3 ?side4 A144.out).mono ?_
                  (case side1 => exact B.kc ((Kd.R_reads' HO593.out).2.2))
                  (case side2 => exact (Kd.R_reads' HO593.out).2.1)
                  (case side3 => exact B.kc ((Kd.R_reads' HO599.out).2.2))
                  (case side4 => exact (Kd.R_reads' HO599.out).2.1)
                  rintro e w161 ⟨v604, rfl, ho0, hb⟩
                  refine ⟨_, rfl, ?_⟩
                  have n0_ := Aside0.mk (Kd.R_elder' (B.kr HO_543003) (Kd.R_base ho0) hb)
                  have n1_ := Aside0.mk (Kd.R_elder' (B.kr HO_550003) (Kd.R_base ho0) hb)
                  have n2_ := Aside0.mk (Kd.R_elder' (B.kr HO_557003) (Kd.R_base ho0) hb)
                  have n3_ := Aside0.mk (Kd.R_elder' (B.kr HO_565003) (Kd.R_base ho0) hb)
                  have n4_ := Aside0.mk (Kd.R_elder' (B.kr HO593) (Kd.R_base ho0) hb)
                  have n5_ := Aside0.mk (Kd.R_elder' (B.kr HO599) (Kd.R_base ho0) hb)
                  have n6_ := Aside0.mk (Kd.R_lower (Kd.R_new' (Kd.R_new' (Kd.R_new' (Kd.R_new' (Kd.R_new' (Kd.R_new' ho0 (Kd.R_lt (B.kr HO_543003))) (Kd.R_lt (B.kr HO_550003))) (Kd.R_lt (B.kr HO_557003))) (Kd.R_lt (B.kr HO_565003))) (Kd.R_lt (B.kr HO593))) (Kd.R_lt (B.kr HO599))) (below_size (B.bl HB)))
                  have n7_ := Aside0.mk (blk_below (B.kb BK519) hb)
                  have n8_ := Aside0.mk (blk_below (B.kb BK520) hb)
                  have n9_ := Aside0.mk (blk_below (B.kb BK542) hb)
                  have n10_ := Aside0.mk (blk_below (B.kb BK549) hb)
                  have n11_ := Aside0.mk (blk_below (B.kb BK556) hb)
                  have n12_ := Aside0.mk (blk_below (B.kb BK564) hb)
                  have n13_ := Aside0.mk (blk_below (B.kb BK607) hb)
                  have n14_ := Aside0.mk (below_step (B.bl HB) hb)
                  clear HO_543003 HO_550003 HO_557003 HO_565003 HO593 HO599 BK519 BK520 BK542 BK549 BK556 BK564 BK607 HB
                  have HO_543003 := n0_
                  have HO_550003 := n1_
                  have HO_557003 := n2_
                  have HO_565003 := n3_
                  have HO593 := n4_
                  have HO599 := n5_
                  have HO605 := n6_
                  have BK519 := n7_
                  have BK520 := n8_
                  have BK542 := n9_
                  have BK549 := n10_
                  have BK556 := n11_
                  have BK564 := n12_
                  have BK607 := n13_
                  have HB := n14_
                  clear n0_ n1_ n2_ n3_ n4_ n5_ n6_ n7_ n8_ n9_ n10_ n11_ n12_ n13_ n14_
                  (try clear hb)
                  (try clear hb2)
                  (try clear hk)
                  (try clear hi)
                  (try clear ho0)
                  refine hK.out _ _ ⟨B.bc BK519 0, B.bc BK519 1, B.bc BK519 2, B.bc BK519 3, B.bc BK520 0, B.bc BK520 1, B.bc BK520 2, B.bc BK520 3⟩ (fun hHeld => ?_)
                  clear hK K
                  refine norm_ (a' := ?_) ?_ ?_
                  rotate_left
                  · show Act.put _ (some 109) _ = _
                    simp only [Act.put, List.setIfInBounds_toArray, List.set_cons_zero, List.set_cons_succ, i64_w, i32_w]
                    rfl
                  refine pure_ (i := 7) (N := some 102) (v := ?_) (a' := ?_) #[true, true, true, true, true, true, true, true, false, false, true, false, false] rfl rfl (any_of HT_.out (by kernel_rfl)) (fun _ _ _ h => h) (Or.inl ⟨by rfl, ?_⟩) ?_ ?_
                  rotate_left
                  · intro w'
                    go_simp
                    with_reducible rfl
                  rotate_left
                  · simp only [Act.put, List.setIfInBounds_toArray, List.set_cons_zero, List.set_cons_succ, i64_w, i32_w]
                    rfl
                  refine pure_ (i := 8) (N := some 110) (v := ?_) (a' := ?_) #[true, true, true, true, true, true, true, true, true, false, true, false, false] rfl rfl (any_of HT_.out (by kernel_rfl)) (fun _ _ _ h => h) (Or.inl ⟨by rfl, ?_⟩) ?_ ?_
                  rotate_left
                  · intro w'
                    go_simp
                    with_reducible rfl
                  rotate_left
                  · simp only [Act.put, List.setIfInBounds_toArray, List.set_cons_zero, List.set_cons_succ, i64_w, i32_w]
                    rfl
                  refine pure_ (i := 9) (N := some 111) (v := ?_) (a' := ?_) #[true, true, true, true, true, true, true, true, true, true, true, false, false] rfl rfl (any_of HT_.out (by kernel_rfl)) (fun _ _ _ h => h) (Or.inl ⟨by rfl, ?_⟩) ?_ ?_
                  rotate_left
                  · intro w'
                    go_simp
                    with_reducible rfl
                  rotate_left
                  · simp only [Act.put, List.setIfInBounds_toArray, List.set_cons_zero, List.set_cons_succ, i64_w, i32_w]
                    rfl
                  exact norm_ (by simp only [putAll, Act.put, List.setIfInBounds_toArray, List.set_cons_zero, List.set_cons_succ]) (hCont (.slice Ao159 t591.length co159, .slice Ao160 t597.length co160, v604, gb607) _ ⟨hHeld, (B.kr0 (Kd.R_mono HO593.out (fun _ hk => ⟨hk.1.2, ⟨hk.2, ⟨hk.1.1.1.1.1.2, ⟨hk.1.1.1.1.2, ⟨hk.1.1.1.2, hk.1.1.2⟩⟩⟩⟩⟩))), (B.kr0 (Kd.R_mono HO599.out (fun _ hk => ⟨hk.1.2, ⟨hk.2, ⟨hk.1.1.1.1.1.2, ⟨hk.1.1.1.1.2, ⟨hk.1.1.1.2, hk.1.1.2⟩⟩⟩⟩⟩))), (B.kr0 (Kd.R_mono HO605.out (fun _ hk => ⟨hk.1.2, ⟨hk.2, ⟨hk.1.1.1.1.1.2, ⟨hk.1.1.1.1.2, ⟨hk.1.1.1.2, hk.1.1.2⟩⟩⟩⟩⟩))), (B.kr0 (Kd.R_mono HO_543003.out (fun _ hk => ⟨hk.1.1.2, ⟨hk.1.2, ⟨hk.2, ⟨hk.1.1.1.1, ⟨hk.1.1.1.2.1, hk.1.1.1.2.2⟩⟩⟩⟩⟩))), (B.kr0 (Kd.R_mono HO_550003.out (fun _ hk => ⟨hk.1.1.2, ⟨hk.1.2, ⟨hk.2, ⟨hk.1.1.1.1, ⟨hk.1.1.1.2.1, hk.1.1.1.2.2⟩⟩⟩⟩⟩))), (B.kr0 (Kd.R_mono HO_557003.out (fun _ hk => ⟨hk.1.1.2, ⟨hk.1.2, ⟨hk.2, ⟨hk.1.1.1.1, ⟨hk.1.1.1.2.1, hk.1.1.1.2.2⟩⟩⟩⟩⟩))), (B.kr0 (Kd.R_mono HO_565003.out (fun _ hk => ⟨hk.1.1.2, ⟨hk.1.2, ⟨hk.2, ⟨hk.1.1.1.1, ⟨hk.1.1.1.2.1, hk.1.1.1.2.2⟩⟩⟩⟩⟩))), (B.kb BK519), (B.kb BK520), (B.kb BK542), (B.kb BK549), (B.kb BK556), (B.kb BK564), (B.kb BK607), GW607.out, GE607.out, NB519_607.out, NB607_519.out, NB520_607.out, NB607_520.out, NB542_607.out, NB607_542.out, NB549_607.out, NB607_549.out, NB556_607.out, NB607_556.out, NB564_607.out, NB607_564.out, (B.bl HB)⟩)
                rintro ⟨v592, v598, v604, gb607⟩ w162 ⟨hS_, h0_, h1_, h2_, h3_, h4_, h5_, h6_, h7_, h8_, h9_, h10_, h11_, h12_, h13_, h14_, h15_, h16_, h17_, h18_, h19_, h20_, h21_, h22_, h23_, h24_, h25_, h26_, h27_, h28_⟩
                have n0_ : Aside0 (Kd.R (Kd.int .i64) 3 w162 w.heap.size (fun k_ => some k_ ≠ (v598 : Value).ownBlock ∧ some k_ ≠ (v604 : Value).ownBlock ∧ some k_ ≠ (.slice Ao46 t538.length co46 : Value).ownBlock ∧ some k_ ≠ (.slice Ao56 t581.length co56 : Value).ownBlock ∧ some k_ ≠ (.slice Ao66 t583.length co66 : Value).ownBlock ∧ some k_ ≠ (.slice Ao76 t560.length co76 : Value).ownBlock) v592 t591) := ⟨h0_⟩
                have n1_ : Aside0 (Kd.R (Kd.int .i64) 3 w162 w.heap.size (fun k_ => some k_ ≠ (v592 : Value).ownBlock ∧ some k_ ≠ (v604 : Value).ownBlock ∧ some k_ ≠ (.slice Ao46 t538.length co46 : Value).ownBlock ∧ some k_ ≠ (.slice Ao56 t581.length co56 : Value).ownBlock ∧ some k_ ≠ (.slice Ao66 t583.length co66 : Value).ownBlock ∧ some k_ ≠ (.slice Ao76 t560.length co76 : Value).ownBlock) v598 t597) := ⟨h1_⟩
                have n2_ : Aside0 (Kd.R (Kd.int .i64) 3 w162 w.heap.size (fun k_ => some k_ ≠ (v592 : Value).ownBlock ∧ some k_ ≠ (v598 : Value).ownBlock ∧ some k_ ≠ (.slice Ao46 t538.length co46 : Value).ownBlock ∧ some k_ ≠ (.slice Ao56 t581.length co56 : Value).ownBlock ∧ some k_ ≠ (.slice Ao66 t583.length co66 : Value).ownBlock ∧ some k_ ≠ (.slice Ao76 t560.length co76 : Value).ownBlock) v604 t603) := ⟨h2_⟩
                have n3_ : Aside0 (Kd.R (Kd.int .i64) 3 w162 w.heap.size (fun k_ => some k_ ≠ (v592 : Value).ownBlock ∧ some k_ ≠ (v598 : Value).ownBlock ∧ some k_ ≠ (v604 : Value).ownBlock ∧ some k_ ≠ (.slice Ao56 t581.length co56 : Value).ownBlock ∧ some k_ ≠ (.slice Ao66 t583.length co66 : Value).ownBlock ∧ some k_ ≠ (.slice Ao76 t560.length co76 : Value).ownBlock) (.slice Ao46 t538.length co46) t538) := ⟨h3_⟩
                have n4_ : Aside0 (Kd.R (Kd.int .i64) 3 w162 w.heap.size (fun k_ => some k_ ≠ (v592 : Value).ownBlock ∧ some k_ ≠ (v598 : Value).ownBlock ∧ some k_ ≠ (v604 : Value).ownBlock ∧ some k_ ≠ (.slice Ao46 t538.length co46 : Value).ownBlock ∧ some k_ ≠ (.slice Ao66 t583.length co66 : Value).ownBlock ∧ some k_ ≠ (.slice Ao76 t560.length co76 : Value).ownBlock) (.slice Ao56 t581.length co56) t581) := ⟨h4_⟩
                have n5_ : Aside0 (Kd.R (Kd.int .i64) 3 w162 w.heap.size (fun k_ => some k_ ≠ (v592 : Value).ownBlock ∧ some k_ ≠ (v598 : Value).ownBlock ∧ some k_ ≠ (v604 : Value).ownBlock ∧ some k_ ≠ (.slice Ao46 t538.length co46 : Value).ownBlock ∧ some k_ ≠ (.slice Ao56 t581.length co56 : Value).ownBlock ∧ some k_ ≠ (.slice Ao76 t560.length co76 : Value).ownBlock) (.slice Ao66 t583.length co66) t583) := ⟨h5_⟩
                have n6_ : Aside0 (Kd.R (Kd.int .i64) 3 w162 w.heap.size (fun k_ => some k_ ≠ (v592 : Value).ownBlock ∧ some k_ ≠ (v598 : Value).ownBlock ∧ some k_ ≠ (v604 : Value).ownBlock ∧ some k_ ≠ (.slice Ao46 t538.length co46 : Value).ownBlock ∧ some k_ ≠ (.slice Ao56 t581.length co56 : Value).ownBlock ∧ some k_ ≠ (.slice Ao66 t583.length co66 : Value).ownBlock) (.slice Ao76 t560.length co76) t586) := ⟨h6_⟩
                have n7_ : Aside0 (w162.heap[gb519]? = some (.cells #[.int .i64 a0_0, .int .i64 a0_1, .int .i64 a0_2, .slice A0_3 l0_3.length c0_3] 24 (0, 0))) := ⟨h7_⟩
                have n8_ : Aside0 (w162.heap[gb520]? = some (.cells #[.int .i64 a3_0, .int .i64 a3_1, .int .i64 a3_2, .slice A3_3 l3_3.length c3_3] 24 (0, 0))) := ⟨h8_⟩
                have n9_ : Aside0 (w162.heap[gb542]? = some (.cells #[.int .i64 t535, .int .i64 t536, .int .i64 t537, .slice Ao46 t538.length co46] 28 (0, 0))) := ⟨h9_⟩
                have n10_ : Aside0 (w162.heap[gb549]? = some (.cells #[.int .i64 t543, .int .i64 t544, .int .i64 t545, .slice Ao56 t581.length co56] 28 (0, 0))) := ⟨h10_⟩
                have n11_ : Aside0 (w162.heap[gb556]? = some (.cells #[.int .i64 t550, .int .i64 t551, .int .i64 t552, .slice Ao66 t583.length co66] 28 (0, 0))) := ⟨h11_⟩
                have n12_ : Aside0 (w162.heap[gb564]? = some (.cells #[.int .i64 t557, .int .i64 t558, .int .i64 t559, .slice Ao76 t560.length co76] 28 (0, 0))) := ⟨h12_⟩
                have n13_ : Aside0 (w162.heap[gb607]? = some (.cells #[.int .i64 0, .int .i64 0, .int .i64 0, .slice none 0 0] 28 (0, 0))) := ⟨h13_⟩
                have n14_ : Aside0 (w.heap.size ≤ gb607) := ⟨h14_⟩
                have n15_ : Aside0 (w.heap.size ≤ gb607) := ⟨h15_⟩
                have n16_ : Aside0 (gb519 ≠ gb607) := ⟨h16_⟩
                have n17_ : Aside0 (gb607 ≠ gb519) := ⟨h17_⟩
                have n18_ : Aside0 (gb520 ≠ gb607) := ⟨h18_⟩
                have n19_ : Aside0 (gb607 ≠ gb520) := ⟨h19_⟩
                have n20_ : Aside0 (gb542 ≠ gb607) := ⟨h20_⟩
                have n21_ : Aside0 (gb607 ≠ gb542) := ⟨h21_⟩
                have n22_ : Aside0 (gb549 ≠ gb607) := ⟨h22_⟩
                have n23_ : Aside0 (gb607 ≠ gb549) := ⟨h23_⟩
                have n24_ : Aside0 (gb556 ≠ gb607) := ⟨h24_⟩
                have n25_ : Aside0 (gb607 ≠ gb556) := ⟨h25_⟩
                have n26_ : Aside0 (gb564 ≠ gb607) := ⟨h26_⟩
                have n27_ : Aside0 (gb607 ≠ gb564) := ⟨h27_⟩
                have n28_ : Aside0 (Below w.heap.size w w162) := ⟨h28_⟩
                clear HO_543003 HO_550003 HO_557003 HO_565003 BK519 BK520 BK542 BK549 BK556 BK564 HB
                clear h0_ h1_ h2_ h3_ h4_ h5_ h6_ h7_ h8_ h9_ h10_ h11_ h12_ h13_ h14_ h15_ h16_ h17_ h18_ h19_ h20_ h21_ h22_ h23_ h24_ h25_ h26_ h27_ h28_
                have HO593 := n0_
                have HO599 := n1_
                have HO605 := n2_
                have HO_543003 := n3_
                have HO_550003 := n4_
                have HO_557003 := n5_
                have HO_565003 := n6_
                have BK519 := n7_
                have BK520 := n8_
                have BK542 := n9_
                have BK549 := n10_
                have BK556 := n11_
                have BK564 := n12_
                have BK607 := n13_
                have GW607 := n14_
                have GE607 := n15_
                have NB519_607 := n16_
                have NB607_519 := n17_
                have NB520_607 := n18_
                have NB607_520 := n19_
                have NB542_607 := n20_
                have NB607_542 := n21_
                have NB549_607 := n22_
                have NB607_549 := n23_
                have NB556_607 := n24_
                have NB607_556 := n25_
                have NB564_607 := n26_
                have NB607_564 := n27_
                have HB := n28_
                clear n0_ n1_ n2_ n3_ n4_ n5_ n6_ n7_ n8_ n9_ n10_ n11_ n12_ n13_ n14_ n15_ n16_ n17_ n18_ n19_ n20_ n21_ n22_ n23_ n24_ n25_ n26_ n27_ n28_
                have hHeld : w162.cell? ⟨gb519, 0, none⟩ = some (.int .i64 a0_0) ∧ w162.cell? ⟨gb519, 1, none⟩ = some (.int .i64 a0_1) ∧ w162.cell? ⟨gb519, 2, none⟩ = some (.int .i64 a0_2) ∧ w162.cell? ⟨gb519, 3, none⟩ = some (.slice A0_3 l0_3.length c0_3) ∧ w162.cell? ⟨gb520, 0, none⟩ = some (.int .i64 a3_0) ∧ w162.cell? ⟨gb520, 1, none⟩ = some (.int .i64 a3_1) ∧ w162.cell? ⟨gb520, 2, none⟩ = some (.int .i64 a3_2) ∧ w162.cell? ⟨gb520, 3, none⟩ = some (.slice A3_3 l3_3.length c3_3) := hS_
                obtain ⟨Ao166, co166, eo166⟩ := Kd.R_slice HO605.out
                (first | subst eo166 | (injection eo166 with f1_ f2_ f3_; have f4_ := f1_.symm; have f5_ := f3_.symm; clear f1_ f2_ f3_; subst f4_; subst f5_))
                refine norm_ (a' := ?_) ?_ ?_
                rotate_left
                · simp only [putAll, Act.put, List.setIfInBounds_toArray, List.set_cons_zero, List.set_cons_succ]
                  rfl
                refine one_ (i := 11) (N := none) #[true, true, true, true, true, true, true, true, true, true, true, true, false] rfl rfl (one_of HT_.out (by kernel_rfl)) (by decide) (fun K hK => ?_)
                have hs163 : w162.cell? ⟨gb607, 0, none⟩ = some (.int .i64 0) := B.bc BK607 0
                have hfs163 := blk_frozen BK607.out 0
                have hns163_0 := NB519_607.out
                have hns163_1 := NB520_607.out
                have hns163_2 := NB542_607.out
                have hns163_3 := NB549_607.out
                have hns163_4 := NB556_607.out
                have hns163_5 := NB564_607.out
                have hms163_0 := NB607_519.out
                have hms163_1 := NB607_520.out
                have hms163_2 := NB607_542.out
                have hms163_3 := NB607_549.out
                have hms163_4 := NB607_556.out
                have hms163_5 := NB607_564.out
                have hs164 : w162.cell? ⟨gb607, 1, none⟩ = some (.int .i64 0) := B.bc BK607 1
                have hfs164 := blk_frozen BK607.out 1
                have hns164_0 := NB519_607.out
                have hns164_1 := NB520_607.out
                have hns164_2 := NB542_607.out
                have hns164_3 := NB549_607.out
                have hns164_4 := NB556_607.out
                have hns164_5 := NB564_607.out
                have hms164_0 := NB607_519.out
                have hms164_1 := NB607_520.out
                have hms164_2 := NB607_542.out
                have hms164_3 := NB607_549.out
                have hms164_4 := NB607_556.out
                have hms164_5 := NB607_564.out
                have hs165 : w162.cell? ⟨gb607, 2, none⟩ = some (.int .i64 0) := B.bc BK607 2
                have hfs165 := blk_frozen BK607.out 2
                have hns165_0 := NB519_607.out
                have hns165_1 := NB520_607.out
                have hns165_2 := NB542_607.out
                have hns165_3 := NB549_607.out
                have hns165_4 := NB556_607.out
                have hns165_5 := NB564_607.out
                have hms165_0 := NB607_519.out
                have hms165_1 := NB607_520.out
                have hms165_2 := NB607_542.out
                have hms165_3 := NB607_549.out
                have hms165_4 := NB607_556.out
                have hms165_5 := NB607_564.out
                have hs167 : w162.cell? ⟨gb607, 3, none⟩ = some (.slice none 0 0) := B.bc BK607 3
                have hfs167 := blk_frozen BK607.out 3
                have hns167_0 := NB519_607.out
                have hns167_1 := NB520_607.out
                have hns167_2 := NB542_607.out
                have hns167_3 := NB549_607.out
                have hns167_4 := NB556_607.out
                have hns167_5 := NB564_607.out
                have hms167_0 := NB607_519.out
                have hms167_1 := NB607_520.out
                have hms167_2 := NB607_542.out
                have hms167_3 := NB607_549.out
                have hms167_4 := NB607_556.out
                have hms167_5 := NB607_564.out
                refine skip_ (w1 := ?_) (by rfl) rfl ?_ ?_
                rotate_left
                · go_simp
                  rfl
                refine hK.out _ _ ⟨(B.cf4 NB519_607 hHeld.1), (B.cf4 NB519_607 hHeld.2.1), (B.cf4 NB519_607 hHeld.2.2.1), (B.cf4 NB519_607 hHeld.2.2.2.1), (B.cf4 NB520_607 hHeld.2.2.2.2.1), (B.cf4 NB520_607 hHeld.2.2.2.2.2.1), (B.cf4 NB520_607 hHeld.2.2.2.2.2.2.1), (B.cf4 NB520_607 hHeld.2.2.2.2.2.2.2)⟩ (fun hHeld => ?_)
                clear hK K
                refine pure_ (i := 12) (N := some 20) (v := ?_) (a' := ?_) #[true, true, true, true, true, true, true, true, true, true, true, true, true] rfl rfl (any_of HT_.out (by kernel_rfl)) (fun _ _ _ h => h) (Or.inl ⟨by rfl, ?_⟩) ?_ ?_
                rotate_left
                · intro w'
                  go_simp
                  with_reducible rfl
                rotate_left
                · simp only [Act.put, List.setIfInBounds_toArray, List.set_cons_zero, List.set_cons_succ, i64_w, i32_w]
                  rfl
                refine done_ (done_of HT_.out (by kernel_rfl)) ?_
                go_upto_region 32 with (fail)
                go_cut [120] (fun v120 wc => ∃ (kq : Nat) (x120_144 : Bool), v120 = .bool x120_144 ∧ Aside0 (laws_FnExactPasteImage.j2 kq t585 x120_144 t557 t558 t559 t586 = some r) ∧ Aside0 (kq ≤ kj99) ∧ Aside0 (Kd.R (Kd.int .i64) 3 wc w.heap.size (fun k_ => some k_ ≠ ((.slice Ao56 t581.length co56) : Value).ownBlock ∧ some k_ ≠ ((.slice Ao66 t583.length co66) : Value).ownBlock ∧ some k_ ≠ ((.slice Ao76 t560.length co76) : Value).ownBlock ∧ some k_ ≠ ((.slice Ao166 t603.length co166) : Value).ownBlock) (.slice Ao46 t538.length co46) t538) ∧ Aside0 (Kd.R (Kd.int .i64) 3 wc w.heap.size (fun k_ => some k_ ≠ ((.slice Ao46 t538.length co46) : Value).ownBlock ∧ some k_ ≠ ((.slice Ao66 t583.length co66) : Value).ownBlock ∧ some k_ ≠ ((.slice Ao76 t560.length co76) : Value).ownBlock ∧ some k_ ≠ ((.slice Ao166 t603.length co166) : Value).ownBlock) (.slice Ao56 t581.length co56) t581) ∧ Aside0 (Kd.R (Kd.int .i64) 3 wc w.heap.size (fun k_ => some k_ ≠ ((.slice Ao46 t538.length co46) : Value).ownBlock ∧ some k_ ≠ ((.slice Ao56 t581.length co56) : Value).ownBlock ∧ some k_ ≠ ((.slice Ao76 t560.length co76) : Value).ownBlock ∧ some k_ ≠ ((.slice Ao166 t603.length co166) : Value).ownBlock) (.slice Ao66 t583.length co66) t583) ∧ Aside0 (Kd.R (Kd.int .i64) 3 wc w.heap.size (fun k_ => some k_ ≠ ((.slice Ao46 t538.length co46) : Value).ownBlock ∧ some k_ ≠ ((.slice Ao56 t581.length co56) : Value).ownBlock ∧ some k_ ≠ ((.slice Ao66 t583.length co66) : Value).ownBlock ∧ some k_ ≠ ((.slice Ao166 t603.length co166) : Value).ownBlock) (.slice Ao76 t560.length co76) t586) ∧ Aside0 (Kd.R (Kd.int .i64) 3 wc w.heap.size (fun k_ => some k_ ≠ ((.slice Ao46 t538.length co46) : Value).ownBlock ∧ some k_ ≠ ((.slice Ao56 t581.length co56) : Value).ownBlock ∧ some k_ ≠ ((.slice Ao66 t583.length co66) : Value).ownBlock ∧ some k_ ≠ ((.slice Ao76 t560.length co76) : Value).ownBlock) (.slice Ao166 t603.length co166) t603) ∧ Aside0 (wc.heap[gb519]? = some (.cells #[.int .i64 a0_0, .int .i64 a0_1, .int .i64 a0_2, (.slice A0_3 l0_3.length c0_3)] 24 (0, 0))) ∧ Aside0 (wc.heap[gb520]? = some (.cells #[.int .i64 a3_0, .int .i64 a3_1, .int .i64 a3_2, (.slice A3_3 l3_3.length c3_3)] 24 (0, 0))) ∧ Aside0 (wc.heap[gb542]? = some (.cells #[.int .i64 t535, .int .i64 t536, .int .i64 t537, (.slice Ao46 t538.length co46)] 28 (0, 0))) ∧ Aside0 (wc.heap[gb549]? = some (.cells #[.int .i64 t543, .int .i64 t544, .int .i64 t545, (.slice Ao56 t581.length co56)] 28 (0, 0))) ∧ Aside0 (wc.heap[gb556]? = some (.cells #[.int .i64 t550, .int .i64 t551, .int .i64 t552, (.slice Ao66 t583.length co66)] 28 (0, 0))) ∧ Aside0 (wc.heap[gb564]? = some (.cells #[.int .i64 t557, .int .i64 t558, .int .i64 t559, (.slice Ao76 t560.length co76)] 28 (0, 0))) ∧ Aside0 (wc.heap[gb607]? = some (.cells #[.int .i64 t600, .int .i64 t601, .int .i64 t602, (.slice Ao166 t603.length co166)] 28 (0, 0))) ∧ Aside0 (Below w.heap.size w wc))
                case first =>
                  have H := HC145.out
                  clear HC145
                  replace H := Option.bind_eq_some_iff.mp H
                  obtain ⟨t608, A1680, H⟩ := H
                  replace H : (if t608 = true then (laws_FnExactPasteImage.j2 kj99 t585 (t606 != t541) t557 t558 t559 t586) else (laws_FnExactPasteImage.j2 kj99 t585 true t557 t558 t559 t586)) = some r := H
                  have A168 := Aside0.mk A1680
                  clear A1680
                  by_cases c169 : t608 = true
                  · subst c169
                    have H1 : (laws_FnExactPasteImage.j2 kj99 t585 (t606 != t541) t557 t558 t559 t586) = some r := by rw [if_pos rfl] at H; exact H
                    clear H
                    have H := H1
                    clear H1
                    have H' := Aside0.mk H
                    clear H
                    have hnb170 := NB607_519.out
                    have hnc170 := NB519_607.out
                    have hnb171 := NB607_520.out
                    have hnc171 := NB520_607.out
                    have hnb172 := NB607_542.out
                    have hnc172 := NB542_607.out
                    have hnb173 := NB607_549.out
                    have hnc173 := NB549_607.out
                    have hnb174 := NB607_556.out
                    have hnc174 := NB556_607.out
                    have hnb175 := NB607_564.out
                    have hnc175 := NB564_607.out
                    have hcz176_0 : w162.cell? ⟨gb607, 0, none⟩ = some (.int .i64 0) := B.bc BK607 0
                    have hcz176_1 : w162.cell? ⟨gb607, 1, none⟩ = some (.int .i64 0) := B.bc BK607 1
                    have hcz176_2 : w162.cell? ⟨gb607, 2, none⟩ = some (.int .i64 0) := B.bc BK607 2
                    have hcz176_3 : w162.cell? ⟨gb607, 3, none⟩ = some (.slice none 0 0) := B.bc BK607 3
                    have hfz176_0 := blk_frozen BK607.out 0
                    have hfz176_1 := blk_frozen BK607.out 1
                    have hfz176_2 := blk_frozen BK607.out 2
                    have hfz176_3 := blk_frozen BK607.out 3
                    have hnb177 := NB542_519.out
                    have hnc177 := NB519_542.out
                    have hnb178 := NB542_520.out
                    have hnc178 := NB520_542.out
                    have hnb179 := NB542_549.out
                    have hnc179 := NB549_542.out
                    have hnb180 := NB542_556.out
                    have hnc180 := NB556_542.out
                    have hnb181 := NB542_564.out
                    have hnc181 := NB564_542.out
                    have hcz182_0 : w162.cell? ⟨gb542, 0, none⟩ = some (.int .i64 t535) := B.bc BK542 0
                    have hcz182_1 : w162.cell? ⟨gb542, 1, none⟩ = some (.int .i64 t536) := B.bc BK542 1
                    have hcz182_2 : w162.cell? ⟨gb542, 2, none⟩ = some (.int .i64 t537) := B.bc BK542 2
                    have hcz182_3 : w162.cell? ⟨gb542, 3, none⟩ = some (.slice Ao46 t538.length co46) := B.bc BK542 3
                    have hfz182_0 := blk_frozen BK542.out 0
                    have hfz182_1 := blk_frozen BK542.out 1
                    have hfz182_2 := blk_frozen BK542.out 2
                    have hfz182_3 := blk_frozen BK542.out 3
                    go_wp2_with (first | ((with_reducible refine gate_callee (f := 13) rfl ?_); refine goesL_ (some 114) rfl rfl Try.func13 (by kernel_rfl) rfl #[.agg #[.int .i64 t600, .int .i64 t601, .int .i64 t602, .slice Ao166 t603.length co166], .agg #[.int .i64 t535, .int .i64 t536, .int .i64 t537, .slice Ao46 t538.length co46]] rfl B.am ?_; (with_reducible refine (laws_eqImage.calls kj99 t600 t601 t602 _ _ t603 t535 t536 t537 _ _ t538 true _ ?side1 ?side2 ?side3 ?side4 A168.out).mono ?_); (case side1 => refine (Kd.R_reads' (e := 3) (base := w.heap.size) (ok := fun k_ => (some k_ ≠ (v592 : Value).ownBlock ∧ (some k_ ≠ (v598 : Value).ownBlock ∧ (some k_ ≠ (.slice Ao46 t538.length co46 : Value).ownBlock ∧ (some k_ ≠ (.slice Ao56 t581.length co56 : Value).ownBlock ∧ (some k_ ≠ (.slice Ao66 t583.length co66 : Value).ownBlock ∧ some k_ ≠ (.slice Ao76 t560.length co76 : Value).ownBlock)))))) (n := t603.length) (c := co166) ?_).2.2; exact (B.kr0 (B.rs4 HO605 BK607))); (case side2 => exact (Kd.R_reads' HO605.out).2.1); (case side3 => refine (Kd.R_reads' (e := 3) (base := w.heap.size) (ok := fun k_ => (some k_ ≠ (v592 : Value).ownBlock ∧ (some k_ ≠ (v598 : Value).ownBlock ∧ (some k_ ≠ (.slice Ao166 t603.length co166 : Value).ownBlock ∧ (some k_ ≠ (.slice Ao56 t581.length co56 : Value).ownBlock ∧ (some k_ ≠ (.slice Ao66 t583.length co66 : Value).ownBlock ∧ some k_ ≠ (.slice Ao76 t560.length co76 : Value).ownBlock)))))) (n := t538.length) (c := co46) ?_).2.2; exact (B.kr0 (B.rs4 HO_543003 BK607))); (case side4 => exact (Kd.R_reads' HO_543003.out).2.1); rintro e w183 ⟨rfl, hb⟩; refine ⟨_, rfl, ?_⟩; have n0_ := Aside0.mk (Kd.R_below (B.kr0 (B.rs4 HO_543003 BK607)) hb); have n1_ := Aside0.mk (Kd.R_below (B.kr0 (B.rs4 HO_550003 BK607)) hb); have n2_ := Aside0.mk (Kd.R_below (B.kr0 (B.rs4 HO_557003 BK607)) hb); have n3_ := Aside0.mk (Kd.R_below (B.kr0 (B.rs4 HO_565003 BK607)) hb); have n4_ := Aside0.mk (Kd.R_below (B.kr0 (B.rs4 HO593 BK607)) hb); have n5_ := Aside0.mk (Kd.R_below (B.kr0 (B.rs4 HO599 BK607)) hb); have n6_ := Aside0.mk (Kd.R_below (B.kr0 (B.rs4 HO605 BK607)) hb); have n7_ := Aside0.mk (blk_below (B.kb0 (B.bf4 BK519 NB519_607)) hb); have n8_ := Aside0.mk (blk_below (B.kb0 (B.bf4 BK520 NB520_607)) hb); have n9_ := Aside0.mk (blk_below (B.kb0 (B.bf4 BK542 NB542_607)) hb); have n10_ := Aside0.mk (blk_below (B.kb0 (B.bf4 BK549 NB549_607)) hb); have n11_ := Aside0.mk (blk_below (B.kb0 (B.bf4 BK556 NB556_607)) hb); have n12_ := Aside0.mk (blk_below (B.kb0 (B.bf4 BK564 NB564_607)) hb); have n13_ := Aside0.mk (blk_below (g := gb607) (o := .cells #[.int .i64 t600, .int .i64 t601, .int .i64 t602, .slice Ao166 t603.length co166] 28 (0, 0)) (B.kb0 (B.bp4 BK607)) hb); have n14_ := Aside0.mk (below_step (B.bl HB) hb); clear HO_543003 HO_550003 HO_557003 HO_565003 HO593 HO599 HO605 BK519 BK520 BK542 BK549 BK556 BK564 BK607 HB; have HO_543003 := n0_; have HO_550003 := n1_; have HO_557003 := n2_; have HO_565003 := n3_; have HO593 := n4_; have HO599 := n5_; have HO605 := n6_; have BK519 := n7_; have BK520 := n8_; have BK542 := n9_; have BK549 := n10_; have BK556 := n11_; have BK564 := n12_; have BK607 := n13_; have HB := n14_; clear n0_ n1_ n2_ n3_ n4_ n5_ n6_ n7_ n8_ n9_ n10_ n11_ n12_ n13_ n14_; (try clear hb); (try clear hb2); (try clear hk); (try clear hi)))
                    go_meet
                    case rel => exact ⟨_, ((t606 != t541)), (by first | rfl | (simp; done) | (simp [*]; done)), H', ⟨by have := HJ26.out; have := HJ99.out; first | omega | exact Nat.le_refl _⟩, ⟨by (try simp only [hl550003_99]); (try simp only [hl557003_99]); (with_reducible repeat (first | apply Kd.R_alloc | apply Kd.R_drewN | apply Kd.R_drew)); exact Kd.R_mono HO_543003.out (fun _ hk => ⟨hk.2.2.2.1, ⟨hk.2.2.2.2.1, ⟨hk.2.2.2.2.2, hk.2.2.1⟩⟩⟩)⟩, ⟨by (try simp only [hl550003_99]); (try simp only [hl557003_99]); (with_reducible repeat (first | apply Kd.R_alloc | apply Kd.R_drewN | apply Kd.R_drew)); exact Kd.R_mono HO_550003.out (fun _ hk => ⟨hk.2.2.2.1, ⟨hk.2.2.2.2.1, ⟨hk.2.2.2.2.2, hk.2.2.1⟩⟩⟩)⟩, ⟨by (try simp only [hl550003_99]); (try simp only [hl557003_99]); (with_reducible repeat (first | apply Kd.R_alloc | apply Kd.R_drewN | apply Kd.R_drew)); exact Kd.R_mono HO_557003.out (fun _ hk => ⟨hk.2.2.2.1, ⟨hk.2.2.2.2.1, ⟨hk.2.2.2.2.2, hk.2.2.1⟩⟩⟩)⟩, ⟨by (try simp only [hl550003_99]); (try simp only [hl557003_99]); (with_reducible repeat (first | apply Kd.R_alloc | apply Kd.R_drewN | apply Kd.R_drew)); exact Kd.R_mono HO_565003.out (fun _ hk => ⟨hk.2.2.2.1, ⟨hk.2.2.2.2.1, ⟨hk.2.2.2.2.2, hk.2.2.1⟩⟩⟩)⟩, ⟨by (try simp only [hl550003_99]); (try simp only [hl557003_99]); (with_reducible repeat (first | apply Kd.R_alloc | apply Kd.R_drewN | apply Kd.R_drew)); exact Kd.R_mono HO605.out (fun _ hk => ⟨hk.2.2.1, ⟨hk.2.2.2.1, ⟨hk.2.2.2.2.1, hk.2.2.2.2.2⟩⟩⟩)⟩, ⟨by (try simp only [hl550003_99]); (try simp only [hl557003_99]); (with_reducible repeat (first | refine blk_drewN ?_ _ | refine blk_drew ?_ | refine blk_alloc ?_ _)); exact BK519.out⟩, ⟨by (try simp only [hl550003_99]); (try simp only [hl557003_99]); (with_reducible repeat (first | refine blk_drewN ?_ _ | refine blk_drew ?_ | refine blk_alloc ?_ _)); exact BK520.out⟩, ⟨by (try simp only [hl550003_99]); (try simp only [hl557003_99]); (with_reducible repeat (first | refine blk_drewN ?_ _ | refine blk_drew ?_ | refine blk_alloc ?_ _)); exact BK542.out⟩, ⟨by (try simp only [hl550003_99]); (try simp only [hl557003_99]); (with_reducible repeat (first | refine blk_drewN ?_ _ | refine blk_drew ?_ | refine blk_alloc ?_ _)); exact BK549.out⟩, ⟨by (try simp only [hl550003_99]); (try simp only [hl557003_99]); (with_reducible repeat (first | refine blk_drewN ?_ _ | refine blk_drew ?_ | refine blk_alloc ?_ _)); exact BK556.out⟩, ⟨by (try simp only [hl550003_99]); (try simp only [hl557003_99]); (with_reducible repeat (first | refine blk_drewN ?_ _ | refine blk_drew ?_ | refine blk_alloc ?_ _)); exact BK564.out⟩, ⟨by (try simp only [hl550003_99]); (try simp only [hl557003_99]); (with_reducible repeat (first | refine blk_drewN ?_ _ | refine blk_drew ?_ | refine blk_alloc ?_ _)); exact BK607.out⟩, ⟨B.bl HB⟩⟩
                  replace c169 := Bool.eq_false_iff.mpr c169
                  subst c169
                  have H1 : (laws_FnExactPasteImage.j2 kj99 t585 true t557 t558 t559 t586) = some r := by rw [if_neg (show ¬ (false = true) by decide)] at H; exact H
                  clear H
                  have H := H1
                  clear H1
                  exact absurd ht_.out (by revert H; cases kj99 <;> intro H <;> simp [laws_FnExactPasteImage.j2] at H <;> (first | (subst H; decide) | simp [← H] | simp [H]))
                case rest =>
                  clear HC145
                  try clear c1
                  try clear p2
                  try clear c3
                  try clear c10
                  try clear c13
                  try clear c16
                  try clear c17
                  try clear c18
                  try clear c169
                  try clear c170
                  try clear c171
                  try clear c172
                  try clear c173
                  try clear c174
                  try clear c175
                  try clear c177
                  try clear c178
                  try clear c179
                  try clear c180
                  try clear c181
                  try clear hcz176_0
                  try clear hcz176_1
                  try clear hcz176_2
                  try clear hcz176_3
                  try clear hcz182_0
                  try clear hcz182_1
                  try clear hcz182_2
                  try clear hcz182_3
                  try clear hfz176_0
                  try clear hfz176_1
                  try clear hfz176_2
                  try clear hfz176_3
                  try clear hfz182_0
                  try clear hfz182_1
                  try clear hfz182_2
                  try clear hfz182_3
                  obtain ⟨kq, x120_144, rfl, HA, HJ144, HO_543003, HO_550003, HO_557003, HO_565003, HO_608003, BK519, BK520, BK542, BK549, BK556, BK564, BK607, HB⟩ := hcut
                  have hl565003_144 := (Kd.R_reads' HO_565003.out).1
                  rw [hl565003_144] at HO_565003
                  (try simp only [hl565003_144])
                  (try simp only [hl565003_144] at BK519)
                  (try simp only [hl565003_144] at BK520)
                  (try simp only [hl565003_144] at BK542)
                  (try simp only [hl565003_144] at BK549)
                  (try simp only [hl565003_144] at BK556)
                  (try simp only [hl565003_144] at BK564)
                  (try simp only [hl565003_144] at BK607)
                  (try simp only [hl565003_144] at HO_543003)
                  (try simp only [hl565003_144] at HO_550003)
                  (try simp only [hl565003_144] at HO_557003)
                  (try simp only [hl565003_144] at HO_608003)
                  cases kq with
                  | zero => exact absurd HA.out (by simp [laws_FnExactPasteImage.j2])
                  | succ kj144 =>
                    have H := HA.out
                    clear HA
                    simp only [laws_FnExactPasteImage.j2] at H
                    by_cases c184 : x120_144 = true
                    · subst c184
                      have H1 : (some false) = some r := by rw [if_pos rfl] at H; exact H
                      clear H
                      have H := H1
                      clear H1
                      obtain rfl := Option.some.inj H
                      exact absurd ht_.out (by decide)
                    replace c184 := Bool.eq_false_iff.mpr c184
                    subst c184
                    have H1 : ((laws_heldImage.f kj144 t557 t558 t559 t586 1).bind fun t609 => (if t609 < 0 then (some false) else (if t609 = t585 then (some true) else (some false)))) = some r := by rw [if_neg (show ¬ (false = true) by decide)] at H; exact H
                    clear H
                    have H := H1
                    clear H1
                    replace H := Option.bind_eq_some_iff.mp H
                    obtain ⟨t609, A1850, H⟩ := H
                    replace H : (if t609 < 0 then (some false) else (if t609 = t585 then (some true) else (some false))) = some r := H
                    have A185 := Aside0.mk A1850
                    clear A1850
                    by_cases c186 : t609 < 0
                    · rw [if_pos c186] at H
                      have c186b0 : decide (t609 < 0) = true := decide_eq_true c186
                      clear c186
                      obtain rfl := Option.some.inj H
                      exact absurd ht_.out (by decide)
                    rw [if_neg c186] at H
                    have c186b0 : decide (t609 < 0) = false := decide_eq_false c186
                    clear c186
                    by_cases c187 : t609 = t585
                    · rw [if_pos c187] at H
                      have c187b0 : (t609 == t585) = true := beq_iff_eq.mpr c187
                      have c187b1 : (t609 != t585) = false := bne_eq_false_iff_eq.mpr c187
                      clear c187
                      obtain rfl := Option.some.inj H
                      simp only [Option.some.injEq, Prod.mk.injEq] at H
                      obtain ⟨rfl⟩ := H
                      have hnb188 := NB564_519.out
                      have hnc188 := NB519_564.out
                      have hnb189 := NB564_520.out
                      have hnc189 := NB520_564.out
                      have hnb190 := NB564_542.out
                      have hnc190 := NB542_564.out
                      have hnb191 := NB564_549.out
                      have hnc191 := NB549_564.out
                      have hnb192 := NB564_556.out
                      have hnc192 := NB556_564.out
                      have hnb193 := NB564_607.out
                      have hnc193 := NB607_564.out
                      have hcz194_0 : wc.cell? ⟨gb564, 0, none⟩ = some (.int .i64 t557) := B.bc BK564 0
                      have hcz194_1 : wc.cell? ⟨gb564, 1, none⟩ = some (.int .i64 t558) := B.bc BK564 1
                      have hcz194_2 : wc.cell? ⟨gb564, 2, none⟩ = some (.int .i64 t559) := B.bc BK564 2
                      have hcz194_3 : wc.cell? ⟨gb564, 3, none⟩ = some (.slice Ao76 t586.length co76) := B.bc BK564 3
                      have hfz194_0 := blk_frozen BK564.out 0
                      have hfz194_1 := blk_frozen BK564.out 1
                      have hfz194_2 := blk_frozen BK564.out 2
                      have hfz194_3 := blk_frozen BK564.out 3
                      go_wp2_with (first | ((with_reducible refine gate_callee (f := 15) rfl ?_); refine goesL_ (some 123) rfl rfl Try.func15 (by kernel_rfl) rfl #[.agg #[.int .i64 t557, .int .i64 t558, .int .i64 t559, .slice Ao76 t586.length co76], .int .i64 1] rfl B.am ?_; (with_reducible refine (laws_heldImage.calls kj144 t557 t558 t559 _ _ t586 1 t609 _ ?side1 ?side2 A185.out).mono ?_); (case side1 => exact B.kc ((Kd.R_reads' HO_565003.out).2.2)); (case side2 => exact (Kd.R_reads' HO_565003.out).2.1); rintro e w195 ⟨rfl, hb⟩; refine ⟨_, rfl, ?_⟩; have n0_ := Aside0.mk (Kd.R_below (B.kr HO_543003) hb); have n1_ := Aside0.mk (Kd.R_below (B.kr HO_550003) hb); have n2_ := Aside0.mk (Kd.R_below (B.kr HO_557003) hb); have n3_ := Aside0.mk (Kd.R_below (B.kr HO_565003) hb); have n4_ := Aside0.mk (Kd.R_below (B.kr HO_608003) hb); have n5_ := Aside0.mk (blk_below (B.kb BK519) hb); have n6_ := Aside0.mk (blk_below (B.kb BK520) hb); have n7_ := Aside0.mk (blk_below (B.kb BK542) hb); have n8_ := Aside0.mk (blk_below (B.kb BK549) hb); have n9_ := Aside0.mk (blk_below (B.kb BK556) hb); have n10_ := Aside0.mk (blk_below (B.kb BK564) hb); have n11_ := Aside0.mk (blk_below (B.kb BK607) hb); have n12_ := Aside0.mk (below_step (B.bl HB) hb); clear HO_543003 HO_550003 HO_557003 HO_565003 HO_608003 BK519 BK520 BK542 BK549 BK556 BK564 BK607 HB; have HO_543003 := n0_; have HO_550003 := n1_; have HO_557003 := n2_; have HO_565003 := n3_; have HO_608003 := n4_; have BK519 := n5_; have BK520 := n6_; have BK542 := n7_; have BK549 := n8_; have BK556 := n9_; have BK564 := n10_; have BK607 := n11_; have HB := n12_; clear n0_ n1_ n2_ n3_ n4_ n5_ n6_ n7_ n8_ n9_ n10_ n11_ n12_; (try clear hb); (try clear hb2); (try clear hk); (try clear hi)))
                      go_ret
                      exact ⟨by first | rfl | (simp [errW_none, errW_some] <;> rfl) | (simp [*, errW_none, errW_some] <;> rfl), B.bl HB⟩
                    rw [if_neg c187] at H
                    have c187b0 : (t609 == t585) = false := beq_eq_false_iff_ne.mpr c187
                    have c187b1 : (t609 != t585) = true := bne_iff_ne.mpr c187
                    obtain rfl := Option.some.inj H
                    exact absurd ht_.out (by decide)
              rw [if_neg c141] at H
              have c141b0 : (t587 == t585) = false := beq_eq_false_iff_ne.mpr c141
              have c141b1 : (t587 != t585) = true := bne_iff_ne.mpr c141
              obtain rfl := Option.some.inj H
              exact absurd ht_.out (by decide)
        replace c97 := Bool.eq_false_iff.mpr c97
        subst c97
        have H1 : (some false) = some r := by rw [if_neg (show ¬ (false = true) by decide)] at H; exact H
        clear H
        have H := H1
        clear H1
        obtain rfl := Option.some.inj H
        exact absurd ht_.out (by decide)
      replace c94 := Bool.eq_false_iff.mpr c94
      subst c94
      have H1 : (some false) = some r := by rw [if_neg (show ¬ (false = true) by decide)] at H; exact H
      clear H
      have H := H1
      clear H1
      obtain rfl := Option.some.inj H
      exact absurd ht_.out (by decide)

end Go.Proofs.Ytmljcnhecjlinaa.Q
