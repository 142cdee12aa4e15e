-- Written by a program of this session (the kit's printer, with hand-proved contracts for the functions that it does not take).
import Derived.Test.YtmljcnhecjlinaaQ0
import Derived.Test.YtmljcnhecjlinaaQ6
import Derived.Test.YtmljcnhecjlinaaQ7
import Derived.Test.YtmljcnhecjlinaaQ9
import Derived.Test.YtmljcnhecjlinaaQ11
import Derived.Test.YtmljcnhecjlinaaQ17
namespace Go.Proofs.Ytmljcnhecjlinaa.Q
open Go.RowKit Go.Proofs.YtmljcnhecjlinaaW.PrintWords Go.Proofs.YtmljcnhecjlinaaW.PrintLast Go.Proofs.YtmljcnhecjlinaaW.PrintMore
attribute [local go_sem] max2_int min2_int max_two min_two max_three min_three max_four min_four   -- for this text's walks alone
set_option linter.unusedVariables false
set_option linter.unusedSimpArgs false

/-! ### laws_FnPasteImage: function 7 -/
mutual
def laws_FnPasteImage.j0 : Nat → Int → Int → Bool → Bool → Bool → Int → Int → Int → List Int → Int → Int → Int → List Int → Int → Int → Int → List Int → Int → Int → Int → List Int → Option (Bool)
  | 0, _, _, _, _, _, _, _, _, _, _, _, _, _, _, _, _, _, _, _, _, _ => none
  | k + 1, x4, x5, x8, x10, x54, x665000, x665001, x665002, x665003, x666000, x666001, x666002, x666003, x674000, x674001, x674002, x674003, x682000, x682001, x682002, x682003 => if x54 = true then ((laws_equalImage.f k x674000 x674001 x674002 x674003 x682000 x682001 x682002 x682003).bind fun t683 => (if t683 = true then (some (x8 == x10)) else (some false))) else (laws_FnPasteImage.l0 k x4 x5 0 x665000 x665001 x665002 x665003 x666000 x666001 x666002 x666003 x674000 x674001 x674002 x674003)
def laws_FnPasteImage.l0 : Nat → Int → Int → Int → Int → Int → Int → List Int → Int → Int → Int → List Int → Int → Int → Int → List Int → Option (Bool)
  | 0, _, _, _, _, _, _, _, _, _, _, _, _, _, _, _ => none
  | k + 1, x4, x5, x11, x665000, x665001, x665002, x665003, x666000, x666001, x666002, x666003, x674000, x674001, x674002, x674003 => if x11 < x665001 then (laws_FnPasteImage.l1 k x4 x5 x11 0 x665000 x665001 x665002 x665003 x666000 x666001 x666002 x666003 x674000 x674001 x674002 x674003) else ((impl_PasteImage.f x674000 x674001 x674002 x674003 x4 x5 x666000 x666001 x666002 x666003).bind fun bt684 => (if bt684.2.2.2.2 = true then ((laws_equalImage.f k bt684.1 bt684.2.1 bt684.2.2.1 bt684.2.2.2.1 x674000 x674001 x674002 x674003).bind fun t692 => (some t692)) else (some false)))
def laws_FnPasteImage.l1 : Nat → Int → Int → Int → Int → Int → Int → Int → List Int → Int → Int → Int → List Int → Int → Int → Int → List Int → Option (Bool)
  | 0, _, _, _, _, _, _, _, _, _, _, _, _, _, _, _, _ => none
  | k + 1, x4, x5, x11, x12, x665000, x665001, x665002, x665003, x666000, x666001, x666002, x666003, x674000, x674001, x674002, x674003 => if x12 < x665000 then ((impl_PixelAt.f x666000 x666001 x666002 x666003 (wrap64 (x12 - x4)) (wrap64 (x11 - x5))).bind fun t693 => (if (t693.length : Int) = 0 then ((impl_PixelAt.f x665000 x665001 x665002 x665003 x12 x11).bind fun t696 => (laws_FnPasteImage.j3 k x4 x5 x11 x12 t696 x665000 x665001 x665002 x665003 x666000 x666001 x666002 x666003 x674000 x674001 x674002 x674003)) else (laws_FnPasteImage.j3 k x4 x5 x11 x12 t693 x665000 x665001 x665002 x665003 x666000 x666001 x666002 x666003 x674000 x674001 x674002 x674003))) else (laws_FnPasteImage.l0 k x4 x5 (wrap64 (x11 + 1)) x665000 x665001 x665002 x665003 x666000 x666001 x666002 x666003 x674000 x674001 x674002 x674003)
def laws_FnPasteImage.j3 : Nat → Int → Int → Int → Int → List Int → Int → Int → Int → List Int → Int → Int → Int → List Int → Int → Int → Int → List Int → Option (Bool)
  | 0, _, _, _, _, _, _, _, _, _, _, _, _, _, _, _, _, _ => none
  | k + 1, x4, x5, x11, x12, x13, x665000, x665001, x665002, x665003, x666000, x666001, x666002, x666003, x674000, x674001, x674002, x674003 => (impl_PixelAt.f x674000 x674001 x674002 x674003 x12 x11).bind fun t699 => ((laws_equalInts.f k t699 x13).bind fun t702 => (if t702 = true then (laws_FnPasteImage.l1 k x4 x5 x11 (wrap64 (x12 + 1)) x665000 x665001 x665002 x665003 x666000 x666001 x666002 x666003 x674000 x674001 x674002 x674003) else (some false)))
end
def laws_FnPasteImage.f (k : Nat) (l0 : List Int) : Option (Bool) := if (l0.length : Int) > 1048576 then (some true) else ((spec_DrawPasteImage.f k l0).bind fun bt650 => ((impl_PasteImage.f bt650.1 bt650.2.1 bt650.2.2.1 bt650.2.2.2.1 bt650.2.2.2.2.1 bt650.2.2.2.2.2.1 bt650.2.2.2.2.2.2.1 bt650.2.2.2.2.2.2.2.1 bt650.2.2.2.2.2.2.2.2.1 bt650.2.2.2.2.2.2.2.2.2).bind fun bt666 => ((spec_PasteImage.f k bt650.1 bt650.2.1 bt650.2.2.1 bt650.2.2.2.1 bt650.2.2.2.2.1 bt650.2.2.2.2.2.1 bt650.2.2.2.2.2.2.1 bt650.2.2.2.2.2.2.2.1 bt650.2.2.2.2.2.2.2.2.1 bt650.2.2.2.2.2.2.2.2.2).bind fun bt674 => ((laws_equalImage.f k bt666.1 bt666.2.1 bt666.2.2.1 bt666.2.2.2.1 bt674.1 bt674.2.1 bt674.2.2.1 bt674.2.2.2.1).bind fun t682 => (if t682 = true then (if (bt666.2.2.2.2 != bt674.2.2.2.2) = true then (laws_FnPasteImage.j0 k bt650.2.2.2.2.1 bt650.2.2.2.2.2.1 bt666.2.2.2.2 bt674.2.2.2.2 true bt650.1 bt650.2.1 bt650.2.2.1 bt650.2.2.2.1 bt650.2.2.2.2.2.2.1 bt650.2.2.2.2.2.2.2.1 bt650.2.2.2.2.2.2.2.2.1 bt650.2.2.2.2.2.2.2.2.2 bt666.1 bt666.2.1 bt666.2.2.1 bt666.2.2.2.1 bt674.1 bt674.2.1 bt674.2.2.1 bt674.2.2.2.1) else (laws_FnPasteImage.j0 k bt650.2.2.2.2.1 bt650.2.2.2.2.2.1 bt666.2.2.2.2 bt674.2.2.2.2 (!bt666.2.2.2.2) bt650.1 bt650.2.1 bt650.2.2.1 bt650.2.2.2.1 bt650.2.2.2.2.2.2.1 bt650.2.2.2.2.2.2.2.1 bt650.2.2.2.2.2.2.2.2.1 bt650.2.2.2.2.2.2.2.2.2 bt666.1 bt666.2.1 bt666.2.2.1 bt666.2.2.2.1 bt674.1 bt674.2.1 bt674.2.2.1 bt674.2.2.2.1)) else (laws_FnPasteImage.j0 k bt650.2.2.2.2.1 bt650.2.2.2.2.2.1 bt666.2.2.2.2 bt674.2.2.2.2 true bt650.1 bt650.2.1 bt650.2.2.1 bt650.2.2.2.1 bt650.2.2.2.2.2.2.1 bt650.2.2.2.2.2.2.2.1 bt650.2.2.2.2.2.2.2.2.1 bt650.2.2.2.2.2.2.2.2.2 bt666.1 bt666.2.1 bt666.2.2.1 bt666.2.2.2.1 bt674.1 bt674.2.1 bt674.2.2.1 bt674.2.2.2.1))))))
theorem laws_FnPasteImage.mono_l : ∀ k, (∀ y0 y1 y2 y3 y4 y5 y6 y7 y8 y9 y10 y11 y12 y13 y14 y15 y16 y17 y18 y19 y20, LeO (laws_FnPasteImage.j0 k y0 y1 y2 y3 y4 y5 y6 y7 y8 y9 y10 y11 y12 y13 y14 y15 y16 y17 y18 y19 y20) (laws_FnPasteImage.j0 (k + 1) y0 y1 y2 y3 y4 y5 y6 y7 y8 y9 y10 y11 y12 y13 y14 y15 y16 y17 y18 y19 y20)) ∧ (∀ y0 y1 y2 y3 y4 y5 y6 y7 y8 y9 y10 y11 y12 y13 y14, LeO (laws_FnPasteImage.l0 k y0 y1 y2 y3 y4 y5 y6 y7 y8 y9 y10 y11 y12 y13 y14) (laws_FnPasteImage.l0 (k + 1) y0 y1 y2 y3 y4 y5 y6 y7 y8 y9 y10 y11 y12 y13 y14)) ∧ (∀ y0 y1 y2 y3 y4 y5 y6 y7 y8 y9 y10 y11 y12 y13 y14 y15, LeO (laws_FnPasteImage.l1 k y0 y1 y2 y3 y4 y5 y6 y7 y8 y9 y10 y11 y12 y13 y14 y15) (laws_FnPasteImage.l1 (k + 1) y0 y1 y2 y3 y4 y5 y6 y7 y8 y9 y10 y11 y12 y13 y14 y15)) ∧ (∀ y0 y1 y2 y3 y4 y5 y6 y7 y8 y9 y10 y11 y12 y13 y14 y15 y16, LeO (laws_FnPasteImage.j3 k y0 y1 y2 y3 y4 y5 y6 y7 y8 y9 y10 y11 y12 y13 y14 y15 y16) (laws_FnPasteImage.j3 (k + 1) y0 y1 y2 y3 y4 y5 y6 y7 y8 y9 y10 y11 y12 y13 y14 y15 y16))
  | 0 => ⟨fun _ _ _ _ _ _ _ _ _ _ _ _ _ _ _ _ _ _ _ _ _ r h => by simp [laws_FnPasteImage.j0] at h, fun _ _ _ _ _ _ _ _ _ _ _ _ _ _ _ r h => by simp [laws_FnPasteImage.l0] at h, fun _ _ _ _ _ _ _ _ _ _ _ _ _ _ _ _ r h => by simp [laws_FnPasteImage.l1] at h, fun _ _ _ _ _ _ _ _ _ _ _ _ _ _ _ _ _ r h => by simp [laws_FnPasteImage.j3] at h⟩
  | k + 1 => by
    obtain ⟨ih0, ih1, ih2, ih3⟩ := laws_FnPasteImage.mono_l k
    refine ⟨?_, ?_, ?_, ?_⟩
    · intro y0 y1 y2 y3 y4 y5 y6 y7 y8 y9 y10 y11 y12 y13 y14 y15 y16 y17 y18 y19 y20
      unfold laws_FnPasteImage.j0
      repeat' first
      | (with_reducible exact ih0 _ _ _ _ _ _ _ _ _ _ _ _ _ _ _ _ _ _ _ _ _)
      | (with_reducible exact ih1 _ _ _ _ _ _ _ _ _ _ _ _ _ _ _)
      | (with_reducible exact ih2 _ _ _ _ _ _ _ _ _ _ _ _ _ _ _ _)
      | (with_reducible exact ih3 _ _ _ _ _ _ _ _ _ _ _ _ _ _ _ _ _)
      | (with_reducible exact laws_equalImage.mono _ _ _ _ _ _ _ _ _)
      | (with_reducible exact laws_equalInts.mono _ _ _)
      | (with_reducible exact spec_DrawPasteImage.mono _ _)
      | (with_reducible exact spec_PasteImage.mono _ _ _ _ _ _ _ _ _ _ _)
      | (with_reducible exact LeO.refl _)
      | (with_reducible exact LeO.none _)
      | (with_reducible refine LeO.ite ?_ ?_)
      | (with_reducible refine LeO.bind ?_ (fun _ => ?_))
      | exact ih0 _ _ _ _ _ _ _ _ _ _ _ _ _ _ _ _ _ _ _ _ _
      | exact ih1 _ _ _ _ _ _ _ _ _ _ _ _ _ _ _
      | exact ih2 _ _ _ _ _ _ _ _ _ _ _ _ _ _ _ _
      | exact ih3 _ _ _ _ _ _ _ _ _ _ _ _ _ _ _ _ _
      | exact laws_equalImage.mono _ _ _ _ _ _ _ _ _
      | exact laws_equalInts.mono _ _ _
      | exact spec_DrawPasteImage.mono _ _
      | exact spec_PasteImage.mono _ _ _ _ _ _ _ _ _ _ _
      | exact LeO.none _
      | refine LeO.ite ?_ ?_
      | refine LeO.bind ?_ (fun _ => ?_)
    · intro y0 y1 y2 y3 y4 y5 y6 y7 y8 y9 y10 y11 y12 y13 y14
      unfold laws_FnPasteImage.l0
      repeat' first
      | (with_reducible exact ih0 _ _ _ _ _ _ _ _ _ _ _ _ _ _ _ _ _ _ _ _ _)
      | (with_reducible exact ih1 _ _ _ _ _ _ _ _ _ _ _ _ _ _ _)
      | (with_reducible exact ih2 _ _ _ _ _ _ _ _ _ _ _ _ _ _ _ _)
      | (with_reducible exact ih3 _ _ _ _ _ _ _ _ _ _ _ _ _ _ _ _ _)
      | (with_reducible exact laws_equalImage.mono _ _ _ _ _ _ _ _ _)
      | (with_reducible exact laws_equalInts.mono _ _ _)
      | (with_reducible exact spec_DrawPasteImage.mono _ _)
      | (with_reducible exact spec_PasteImage.mono _ _ _ _ _ _ _ _ _ _ _)
      | (with_reducible exact LeO.refl _)
      | (with_reducible exact LeO.none _)
      | (with_reducible refine LeO.ite ?_ ?_)
      | (with_reducible refine LeO.bind ?_ (fun _ => ?_))
      | exact ih0 _ _ _ _ _ _ _ _ _ _ _ _ _ _ _ _ _ _ _ _ _
      | exact ih1 _ _ _ _ _ _ _ _ _ _ _ _ _ _ _
      | exact ih2 _ _ _ _ _ _ _ _ _ _ _ _ _ _ _ _
      | exact ih3 _ _ _ _ _ _ _ _ _ _ _ _ _ _ _ _ _
      | exact laws_equalImage.mono _ _ _ _ _ _ _ _ _
      | exact laws_equalInts.mono _ _ _
      | exact spec_DrawPasteImage.mono _ _
      | exact spec_PasteImage.mono _ _ _ _ _ _ _ _ _ _ _
      | exact LeO.none _
      | refine LeO.ite ?_ ?_
      | refine LeO.bind ?_ (fun _ => ?_)
    · intro y0 y1 y2 y3 y4 y5 y6 y7 y8 y9 y10 y11 y12 y13 y14 y15
      unfold laws_FnPasteImage.l1
      repeat' first
      | (with_reducible exact ih0 _ _ _ _ _ _ _ _ _ _ _ _ _ _ _ _ _ _ _ _ _)
      | (with_reducible exact ih1 _ _ _ _ _ _ _ _ _ _ _ _ _ _ _)
      | (with_reducible exact ih2 _ _ _ _ _ _ _ _ _ _ _ _ _ _ _ _)
      | (with_reducible exact ih3 _ _ _ _ _ _ _ _ _ _ _ _ _ _ _ _ _)
      | (with_reducible exact laws_equalImage.mono _ _ _ _ _ _ _ _ _)
      | (with_reducible exact laws_equalInts.mono _ _ _)
      | (with_reducible exact spec_DrawPasteImage.mono _ _)
      | (with_reducible exact spec_PasteImage.mono _ _ _ _ _ _ _ _ _ _ _)
      | (with_reducible exact LeO.refl _)
      | (with_reducible exact LeO.none _)
      | (with_reducible refine LeO.ite ?_ ?_)
      | (with_reducible refine LeO.bind ?_ (fun _ => ?_))
      | exact ih0 _ _ _ _ _ _ _ _ _ _ _ _ _ _ _ _ _ _ _ _ _
      | exact ih1 _ _ _ _ _ _ _ _ _ _ _ _ _ _ _
      | exact ih2 _ _ _ _ _ _ _ _ _ _ _ _ _ _ _ _
      | exact ih3 _ _ _ _ _ _ _ _ _ _ _ _ _ _ _ _ _
      | exact laws_equalImage.mono _ _ _ _ _ _ _ _ _
      | exact laws_equalInts.mono _ _ _
      | exact spec_DrawPasteImage.mono _ _
      | exact spec_PasteImage.mono _ _ _ _ _ _ _ _ _ _ _
      | exact LeO.none _
      | refine LeO.ite ?_ ?_
      | refine LeO.bind ?_ (fun _ => ?_)
    intro y0 y1 y2 y3 y4 y5 y6 y7 y8 y9 y10 y11 y12 y13 y14 y15 y16
    unfold laws_FnPasteImage.j3
    repeat' first
    | (with_reducible exact ih0 _ _ _ _ _ _ _ _ _ _ _ _ _ _ _ _ _ _ _ _ _)
    | (with_reducible exact ih1 _ _ _ _ _ _ _ _ _ _ _ _ _ _ _)
    | (with_reducible exact ih2 _ _ _ _ _ _ _ _ _ _ _ _ _ _ _ _)
    | (with_reducible exact ih3 _ _ _ _ _ _ _ _ _ _ _ _ _ _ _ _ _)
    | (with_reducible exact laws_equalImage.mono _ _ _ _ _ _ _ _ _)
    | (with_reducible exact laws_equalInts.mono _ _ _)
    | (with_reducible exact spec_DrawPasteImage.mono _ _)
    | (with_reducible exact spec_PasteImage.mono _ _ _ _ _ _ _ _ _ _ _)
    | (with_reducible exact LeO.refl _)
    | (with_reducible exact LeO.none _)
    | (with_reducible refine LeO.ite ?_ ?_)
    | (with_reducible refine LeO.bind ?_ (fun _ => ?_))
    | exact ih0 _ _ _ _ _ _ _ _ _ _ _ _ _ _ _ _ _ _ _ _ _
    | exact ih1 _ _ _ _ _ _ _ _ _ _ _ _ _ _ _
    | exact ih2 _ _ _ _ _ _ _ _ _ _ _ _ _ _ _ _
    | exact ih3 _ _ _ _ _ _ _ _ _ _ _ _ _ _ _ _ _
    | exact laws_equalImage.mono _ _ _ _ _ _ _ _ _
    | exact laws_equalInts.mono _ _ _
    | exact spec_DrawPasteImage.mono _ _
    | exact spec_PasteImage.mono _ _ _ _ _ _ _ _ _ _ _
    | exact LeO.none _
    | refine LeO.ite ?_ ?_
    | refine LeO.bind ?_ (fun _ => ?_)
theorem laws_FnPasteImage.mono : ∀ a0 k, LeO (laws_FnPasteImage.f k a0) (laws_FnPasteImage.f (k + 1) a0) := by
  intro a0 k
  obtain ⟨ih0, ih1, ih2, ih3⟩ := laws_FnPasteImage.mono_l k
  unfold laws_FnPasteImage.f
  repeat' first
      | (with_reducible exact ih0 _ _ _ _ _ _ _ _ _ _ _ _ _ _ _ _ _ _ _ _ _)
      | (with_reducible exact ih1 _ _ _ _ _ _ _ _ _ _ _ _ _ _ _)
      | (with_reducible exact ih2 _ _ _ _ _ _ _ _ _ _ _ _ _ _ _ _)
      | (with_reducible exact ih3 _ _ _ _ _ _ _ _ _ _ _ _ _ _ _ _ _)
      | (with_reducible exact laws_equalImage.mono _ _ _ _ _ _ _ _ _)
      | (with_reducible exact laws_equalInts.mono _ _ _)
      | (with_reducible exact spec_DrawPasteImage.mono _ _)
      | (with_reducible exact spec_PasteImage.mono _ _ _ _ _ _ _ _ _ _ _)
      | (with_reducible exact LeO.refl _)
      | (with_reducible exact LeO.none _)
      | (with_reducible refine LeO.ite ?_ ?_)
      | (with_reducible refine LeO.bind ?_ (fun _ => ?_))
      | exact ih0 _ _ _ _ _ _ _ _ _ _ _ _ _ _ _ _ _ _ _ _ _
      | exact ih1 _ _ _ _ _ _ _ _ _ _ _ _ _ _ _
      | exact ih2 _ _ _ _ _ _ _ _ _ _ _ _ _ _ _ _
      | exact ih3 _ _ _ _ _ _ _ _ _ _ _ _ _ _ _ _ _
      | exact laws_equalImage.mono _ _ _ _ _ _ _ _ _
      | exact laws_equalInts.mono _ _ _
      | exact spec_DrawPasteImage.mono _ _
      | exact spec_PasteImage.mono _ _ _ _ _ _ _ _ _ _ _
      | exact LeO.none _
      | refine LeO.ite ?_ ?_
      | refine LeO.bind ?_ (fun _ => ?_)
set_option maxHeartbeats 8000000 in
set_option maxRecDepth 100000 in
theorem laws_FnPasteImage.calls (k : Nat) (A0 : Option Addr) (c0 : Nat) (l0 : List Int) (r : Bool) (w : World) (hr0 : Kd.C (Kd.int .u8) w A0 l0.length l0) (hc0 : l0.length ≤ c0) (h : laws_FnPasteImage.f k l0 = some r) (ht_ : Aside0 (r = true)) :
    Calls Try.prog 7 #[.slice A0 l0.length c0] w fun e w' => e = .returned (.bool r) ∧ Below w.heap.size w w' := by
  have hu28 := Try.underlying28
  have HR0 := Aside0.mk hr0
  have HC0 := Aside0.mk hc0
  clear hr0 hc0
  have HB := Aside0.mk (Below.refl w.heap.size w)
  have H : (if (l0.length : Int) > 1048576 then (some true) else ((spec_DrawPasteImage.f k l0).bind fun bt650 => ((impl_PasteImage.f bt650.1 bt650.2.1 bt650.2.2.1 bt650.2.2.2.1 bt650.2.2.2.2.1 bt650.2.2.2.2.2.1 bt650.2.2.2.2.2.2.1 bt650.2.2.2.2.2.2.2.1 bt650.2.2.2.2.2.2.2.2.1 bt650.2.2.2.2.2.2.2.2.2).bind fun bt666 => ((spec_PasteImage.f k bt650.1 bt650.2.1 bt650.2.2.1 bt650.2.2.2.1 bt650.2.2.2.2.1 bt650.2.2.2.2.2.1 bt650.2.2.2.2.2.2.1 bt650.2.2.2.2.2.2.2.1 bt650.2.2.2.2.2.2.2.2.1 bt650.2.2.2.2.2.2.2.2.2).bind fun bt674 => ((laws_equalImage.f k bt666.1 bt666.2.1 bt666.2.2.1 bt666.2.2.2.1 bt674.1 bt674.2.1 bt674.2.2.1 bt674.2.2.2.1).bind fun t682 => (if t682 = true then (if (bt666.2.2.2.2 != bt674.2.2.2.2) = true then (laws_FnPasteImage.j0 k bt650.2.2.2.2.1 bt650.2.2.2.2.2.1 bt666.2.2.2.2 bt674.2.2.2.2 true bt650.1 bt650.2.1 bt650.2.2.1 bt650.2.2.2.1 bt650.2.2.2.2.2.2.1 bt650.2.2.2.2.2.2.2.1 bt650.2.2.2.2.2.2.2.2.1 bt650.2.2.2.2.2.2.2.2.2 bt666.1 bt666.2.1 bt666.2.2.1 bt666.2.2.2.1 bt674.1 bt674.2.1 bt674.2.2.1 bt674.2.2.2.1) else (laws_FnPasteImage.j0 k bt650.2.2.2.2.1 bt650.2.2.2.2.2.1 bt666.2.2.2.2 bt674.2.2.2.2 (!bt666.2.2.2.2) bt650.1 bt650.2.1 bt650.2.2.1 bt650.2.2.2.1 bt650.2.2.2.2.2.2.1 bt650.2.2.2.2.2.2.2.1 bt650.2.2.2.2.2.2.2.2.1 bt650.2.2.2.2.2.2.2.2.2 bt666.1 bt666.2.1 bt666.2.2.1 bt666.2.2.2.1 bt674.1 bt674.2.1 bt674.2.2.1 bt674.2.2.2.1)) else (laws_FnPasteImage.j0 k bt650.2.2.2.2.1 bt650.2.2.2.2.2.1 bt666.2.2.2.2 bt674.2.2.2.2 true bt650.1 bt650.2.1 bt650.2.2.1 bt650.2.2.2.1 bt650.2.2.2.2.2.2.1 bt650.2.2.2.2.2.2.2.1 bt650.2.2.2.2.2.2.2.2.1 bt650.2.2.2.2.2.2.2.2.2 bt666.1 bt666.2.1 bt666.2.2.1 bt666.2.2.2.1 bt674.1 bt674.2.1 bt674.2.2.1 bt674.2.2.2.1))))))) = some r := h
  clear h
  by_cases c2 : (l0.length : Int) > 1048576
  · rw [if_pos c2] at H
    have c2b0 : decide (1048576 < (l0.length : Int)) = true := decide_eq_true c2
    have c2b1 : decide (1048576 < l0.length) = true := decide_eq_true (by omega)
    clear c2
    obtain rfl := Option.some.inj H
    simp only [Option.some.injEq, Prod.mk.injEq] at H
    obtain ⟨rfl⟩ := H
    go_enter Try.func7, Try.ntmps7
    go_wp2
    go_ret
    exact ⟨by first | rfl | (simp [errW_none, errW_some] <;> rfl) | (simp [*, errW_none, errW_some] <;> rfl), B.bl HB⟩
  rw [if_neg c2] at H
  have c2b0 : decide (1048576 < (l0.length : Int)) = false := decide_eq_false c2
  have c2b1 : decide (1048576 < l0.length) = false := decide_eq_false (by omega)
  clear c2
  replace H := Option.bind_eq_some_iff.mp H
  obtain ⟨⟨t650, t651, t652, t653, t656, t657, t658, t659, t660, t661⟩, A30, H⟩ := H
  replace H : ((impl_PasteImage.f t650 t651 t652 t653 t656 t657 t658 t659 t660 t661).bind fun bt666 => ((spec_PasteImage.f k t650 t651 t652 t653 t656 t657 t658 t659 t660 t661).bind fun bt674 => ((laws_equalImage.f k bt666.1 bt666.2.1 bt666.2.2.1 bt666.2.2.2.1 bt674.1 bt674.2.1 bt674.2.2.1 bt674.2.2.2.1).bind fun t682 => (if t682 = true then (if (bt666.2.2.2.2 != bt674.2.2.2.2) = true then (laws_FnPasteImage.j0 k t656 t657 bt666.2.2.2.2 bt674.2.2.2.2 true t650 t651 t652 t653 t658 t659 t660 t661 bt666.1 bt666.2.1 bt666.2.2.1 bt666.2.2.2.1 bt674.1 bt674.2.1 bt674.2.2.1 bt674.2.2.2.1) else (laws_FnPasteImage.j0 k t656 t657 bt666.2.2.2.2 bt674.2.2.2.2 (!bt666.2.2.2.2) t650 t651 t652 t653 t658 t659 t660 t661 bt666.1 bt666.2.1 bt666.2.2.1 bt666.2.2.2.1 bt674.1 bt674.2.1 bt674.2.2.1 bt674.2.2.2.1)) else (laws_FnPasteImage.j0 k t656 t657 bt666.2.2.2.2 bt674.2.2.2.2 true t650 t651 t652 t653 t658 t659 t660 t661 bt666.1 bt666.2.1 bt666.2.2.1 bt666.2.2.2.1 bt674.1 bt674.2.1 bt674.2.2.1 bt674.2.2.2.1))))) = some r := H
  have A3 := Aside0.mk A30
  clear A30
  replace H := Option.bind_eq_some_iff.mp H
  obtain ⟨⟨t666, t667, t668, t669, t672⟩, A40, H⟩ := H
  replace H : ((spec_PasteImage.f k t650 t651 t652 t653 t656 t657 t658 t659 t660 t661).bind fun bt674 => ((laws_equalImage.f k t666 t667 t668 t669 bt674.1 bt674.2.1 bt674.2.2.1 bt674.2.2.2.1).bind fun t682 => (if t682 = true then (if (t672 != bt674.2.2.2.2) = true then (laws_FnPasteImage.j0 k t656 t657 t672 bt674.2.2.2.2 true t650 t651 t652 t653 t658 t659 t660 t661 t666 t667 t668 t669 bt674.1 bt674.2.1 bt674.2.2.1 bt674.2.2.2.1) else (laws_FnPasteImage.j0 k t656 t657 t672 bt674.2.2.2.2 (!t672) t650 t651 t652 t653 t658 t659 t660 t661 t666 t667 t668 t669 bt674.1 bt674.2.1 bt674.2.2.1 bt674.2.2.2.1)) else (laws_FnPasteImage.j0 k t656 t657 t672 bt674.2.2.2.2 true t650 t651 t652 t653 t658 t659 t660 t661 t666 t667 t668 t669 bt674.1 bt674.2.1 bt674.2.2.1 bt674.2.2.2.1)))) = some r := H
  have A4 := Aside0.mk A40
  clear A40
  replace H := Option.bind_eq_some_iff.mp H
  obtain ⟨⟨t674, t675, t676, t677, t680⟩, A50, H⟩ := H
  replace H : ((laws_equalImage.f k t666 t667 t668 t669 t674 t675 t676 t677).bind fun t682 => (if t682 = true then (if (t672 != t680) = true then (laws_FnPasteImage.j0 k t656 t657 t672 t680 true t650 t651 t652 t653 t658 t659 t660 t661 t666 t667 t668 t669 t674 t675 t676 t677) else (laws_FnPasteImage.j0 k t656 t657 t672 t680 (!t672) t650 t651 t652 t653 t658 t659 t660 t661 t666 t667 t668 t669 t674 t675 t676 t677)) else (laws_FnPasteImage.j0 k t656 t657 t672 t680 true t650 t651 t652 t653 t658 t659 t660 t661 t666 t667 t668 t669 t674 t675 t676 t677))) = some r := H
  have A5 := Aside0.mk A50
  clear A50
  have HC6 := Aside0.mk H
  clear H
  go_enter Try.func7, Try.ntmps7
  go_upto_region 6 with (first | ((with_reducible refine gate_callee (f := 22) rfl ?_); refine goesL_ (some 21) rfl rfl Try.func22 (by kernel_rfl) rfl #[.slice A0 l0.length c0] rfl B.am ?_; (with_reducible refine (spec_DrawPasteImage.calls k _ _ l0 t650 t651 t652 t653 t656 t657 t658 t659 t660 t661 _ ?side1 ?side2 A3.out).mono ?_); (case side1 => exact B.kc (HR0.out)); (case side2 => exact HC0.out); rintro e w7 ⟨v654, v662, rfl, ho0, ho1, hb⟩; refine ⟨_, rfl, ?_⟩; have n0_ := Aside0.mk (Kd.Q_lower ho0 (below_size (B.bl HB))); have n1_ := Aside0.mk (Kd.Q_lower ho1 (below_size (B.bl HB))); have n2_ := Aside0.mk (below_step (B.bl HB) hb); clear HB; have HO655 := n0_; have HO663 := n1_; have HB := n2_; clear n0_ n1_ n2_; (try clear hb); (try clear hb2); (try clear hk); (try clear hi); (try clear ho0); (try clear ho1)) | ((with_reducible refine gate_dst (N := 3) rfl ?_); refine box_event ?hg (N := 3) ?hd (cs := #[.int .i64 0, .int .i64 0, .int .i64 0, .slice none 0 0]) (t := 28) ?hr ?_; (case hd => rfl); (case hg => rfl); (case hr => first | (go_simp; done) | (go_simp; rfl)); intro gb664 hg w8 hbox hb; have n0_ := Aside0.mk (Kd.Q_below (B.kq HO655) hb); have n1_ := Aside0.mk (Kd.Q_below (B.kq HO663) hb); have n2_ := Aside0.mk (below_step (B.bl HB) hb); have n3_ := Aside0.mk (hbox); have n4_ := Aside0.mk (B.nle hg (below_size (B.bl HB))); have n5_ := Aside0.mk (B.nle hg (below_size (B.bl HB))); clear HO655 HO663 HB; have HO655 := n0_; have HO663 := n1_; have HB := n2_; have BK664 := n3_; have GW664 := n4_; have GE664 := n5_; clear n0_ n1_ n2_ n3_ n4_ n5_; clear hb hbox hg) | ((with_reducible refine gate_dst (N := 6) rfl ?_); refine box_event ?hg (N := 6) ?hd (cs := #[.int .i64 0, .int .i64 0, .int .i64 0, .slice none 0 0]) (t := 28) ?hr ?_; (case hd => rfl); (case hg => rfl); (case hr => first | (go_simp; done) | (go_simp; rfl)); intro gb665 hg w9 hbox hb; have n0_ := Aside0.mk (Kd.Q_below (B.kq HO655) hb); have n1_ := Aside0.mk (Kd.Q_below (B.kq HO663) hb); have n2_ := Aside0.mk (blk_below (B.kb BK664) hb); have n3_ := Aside0.mk (below_step (B.bl HB) hb); have n4_ := Aside0.mk (hbox); have n5_ := Aside0.mk (B.nle hg (below_size (B.bl HB))); have n6_ := Aside0.mk (B.nle hg (below_size (B.bl HB))); have n7_ := Aside0.mk (B.nlt hg (blk_lt (B.kb BK664))); have n8_ := Aside0.mk (B.ngt hg (blk_lt (B.kb BK664))); clear HO655 HO663 BK664 HB; have HO655 := n0_; have HO663 := n1_; have BK664 := n2_; have HB := n3_; have BK665 := n4_; have GW665 := n5_; have GE665 := n6_; have NB664_665 := n7_; have NB665_664 := n8_; clear n0_ n1_ n2_ n3_ n4_ n5_ n6_ n7_ n8_; clear hb hbox hg; have hnb10 := NB664_665.out; have hnc10 := NB665_664.out; have hcz11_0 : w9.cell? ⟨gb664, 0, none⟩ = some (.int .i64 0) := B.bc BK664 0; have hcz11_1 : w9.cell? ⟨gb664, 1, none⟩ = some (.int .i64 0) := B.bc BK664 1; have hcz11_2 : w9.cell? ⟨gb664, 2, none⟩ = some (.int .i64 0) := B.bc BK664 2; have hcz11_3 : w9.cell? ⟨gb664, 3, none⟩ = some (.slice none 0 0) := B.bc BK664 3; have hfz11_0 := blk_frozen BK664.out 0; have hfz11_1 := blk_frozen BK664.out 1; have hfz11_2 := blk_frozen BK664.out 2; have hfz11_3 := blk_frozen BK664.out 3; obtain ⟨Ao12, co12, eo12, _⟩ := Kd.Q_slice HO655.out; subst eo12; have hcz13_0 : w9.cell? ⟨gb665, 0, none⟩ = some (.int .i64 0) := B.bc BK665 0; have hcz13_1 : w9.cell? ⟨gb665, 1, none⟩ = some (.int .i64 0) := B.bc BK665 1; have hcz13_2 : w9.cell? ⟨gb665, 2, none⟩ = some (.int .i64 0) := B.bc BK665 2; have hcz13_3 : w9.cell? ⟨gb665, 3, none⟩ = some (.slice none 0 0) := B.bc BK665 3; have hfz13_0 := blk_frozen BK665.out 0; have hfz13_1 := blk_frozen BK665.out 1; have hfz13_2 := blk_frozen BK665.out 2; have hfz13_3 := blk_frozen BK665.out 3; obtain ⟨Ao14, co14, eo14, _⟩ := Kd.Q_slice HO663.out; subst eo14) | ((with_reducible refine gate_callee (f := 18) rfl ?_); refine goesL_ (some 31) rfl rfl Try.func18 (by kernel_rfl) rfl #[.agg #[.int .i64 t650, .int .i64 t651, .int .i64 t652, .slice Ao12 t653.length co12], .int .i64 t656, .int .i64 t657, .agg #[.int .i64 t658, .int .i64 t659, .int .i64 t660, .slice Ao14 t661.length co14]] rfl B.am ?_; (with_reducible refine (impl_PasteImage.calls t650 t651 t652 _ _ t653 t656 t657 t658 t659 t660 _ _ t661 t666 t667 t668 t669 t672 _ ?side1 ?side2 ?side3 ?side4 A4.out).mono ?_); (case side1 => refine (Kd.Q_reads' (e := 3) (base := w.heap.size) (ok := fun k_ => some k_ ≠ (.slice Ao14 t661.length co14 : Value).ownBlock) (n := t653.length) (c := co12) ?_).2.2; exact (by (with_reducible repeat (first | apply Kd.Q_alloc | apply Kd.Q_drewN | apply Kd.Q_drew)); exact (Kd.Q_mono (Kd.Q_mono (Kd.Q_far (p := ⟨gb665, 3, none⟩) (Kd.Q_far (p := ⟨gb665, 2, none⟩) (Kd.Q_far (p := ⟨gb665, 1, none⟩) (Kd.Q_far (p := ⟨gb665, 0, none⟩) (Kd.Q_far (p := ⟨gb664, 3, none⟩) (Kd.Q_far (p := ⟨gb664, 2, none⟩) (Kd.Q_far (p := ⟨gb664, 1, none⟩) (Kd.Q_far (p := ⟨gb664, 0, none⟩) (Kd.Q_types (Kd.Q_types HO655.out BK664.out (by decide)) BK665.out (by decide)) (fun _ hk => hk.1.2) (.int .i64 t650)) (fun _ hk => hk.1.2) (.int .i64 t651)) (fun _ hk => hk.1.2) (.int .i64 t652)) (fun _ hk => hk.1.2) (.slice Ao12 t653.length co12)) (fun _ hk => hk.2) (.int .i64 t658)) (fun _ hk => hk.2) (.int .i64 t659)) (fun _ hk => hk.2) (.int .i64 t660)) (fun _ hk => hk.2) (.slice Ao14 t661.length co14)) (fun _ h_ => h_.1)) (fun _ h_ => h_.1)))); (case side2 => exact (Kd.Q_reads' HO655.out).2.1); (case side3 => refine (Kd.Q_reads' (e := 3) (base := w.heap.size) (ok := fun k_ => some k_ ≠ (.slice Ao12 t653.length co12 : Value).ownBlock) (n := t661.length) (c := co14) ?_).2.2; exact (by (with_reducible repeat (first | apply Kd.Q_alloc | apply Kd.Q_drewN | apply Kd.Q_drew)); exact (Kd.Q_mono (Kd.Q_mono (Kd.Q_far (p := ⟨gb665, 3, none⟩) (Kd.Q_far (p := ⟨gb665, 2, none⟩) (Kd.Q_far (p := ⟨gb665, 1, none⟩) (Kd.Q_far (p := ⟨gb665, 0, none⟩) (Kd.Q_far (p := ⟨gb664, 3, none⟩) (Kd.Q_far (p := ⟨gb664, 2, none⟩) (Kd.Q_far (p := ⟨gb664, 1, none⟩) (Kd.Q_far (p := ⟨gb664, 0, none⟩) (Kd.Q_types (Kd.Q_types HO663.out BK664.out (by decide)) BK665.out (by decide)) (fun _ hk => hk.1.2) (.int .i64 t650)) (fun _ hk => hk.1.2) (.int .i64 t651)) (fun _ hk => hk.1.2) (.int .i64 t652)) (fun _ hk => hk.1.2) (.slice Ao12 t653.length co12)) (fun _ hk => hk.2) (.int .i64 t658)) (fun _ hk => hk.2) (.int .i64 t659)) (fun _ hk => hk.2) (.int .i64 t660)) (fun _ hk => hk.2) (.slice Ao14 t661.length co14)) (fun _ h_ => h_.1)) (fun _ h_ => h_.1)))); (case side4 => exact (Kd.Q_reads' HO663.out).2.1); rintro e w15 ⟨v670, rfl, ho0, hb⟩; refine ⟨_, rfl, ?_⟩; have n0_ := Aside0.mk (Kd.Q_elder' (by (with_reducible repeat (first | apply Kd.Q_alloc | apply Kd.Q_drewN | apply Kd.Q_drew)); exact (Kd.Q_mono (Kd.Q_mono (Kd.Q_far (p := ⟨gb665, 3, none⟩) (Kd.Q_far (p := ⟨gb665, 2, none⟩) (Kd.Q_far (p := ⟨gb665, 1, none⟩) (Kd.Q_far (p := ⟨gb665, 0, none⟩) (Kd.Q_far (p := ⟨gb664, 3, none⟩) (Kd.Q_far (p := ⟨gb664, 2, none⟩) (Kd.Q_far (p := ⟨gb664, 1, none⟩) (Kd.Q_far (p := ⟨gb664, 0, none⟩) (Kd.Q_types (Kd.Q_types HO655.out BK664.out (by decide)) BK665.out (by decide)) (fun _ hk => hk.1.2) (.int .i64 t650)) (fun _ hk => hk.1.2) (.int .i64 t651)) (fun _ hk => hk.1.2) (.int .i64 t652)) (fun _ hk => hk.1.2) (.slice Ao12 t653.length co12)) (fun _ hk => hk.2) (.int .i64 t658)) (fun _ hk => hk.2) (.int .i64 t659)) (fun _ hk => hk.2) (.int .i64 t660)) (fun _ hk => hk.2) (.slice Ao14 t661.length co14)) (fun _ h_ => h_.1)) (fun _ h_ => h_.1))) (Kd.R_base ho0) hb); have n1_ := Aside0.mk (Kd.Q_elder' (by (with_reducible repeat (first | apply Kd.Q_alloc | apply Kd.Q_drewN | apply Kd.Q_drew)); exact (Kd.Q_mono (Kd.Q_mono (Kd.Q_far (p := ⟨gb665, 3, none⟩) (Kd.Q_far (p := ⟨gb665, 2, none⟩) (Kd.Q_far (p := ⟨gb665, 1, none⟩) (Kd.Q_far (p := ⟨gb665, 0, none⟩) (Kd.Q_far (p := ⟨gb664, 3, none⟩) (Kd.Q_far (p := ⟨gb664, 2, none⟩) (Kd.Q_far (p := ⟨gb664, 1, none⟩) (Kd.Q_far (p := ⟨gb664, 0, none⟩) (Kd.Q_types (Kd.Q_types HO663.out BK664.out (by decide)) BK665.out (by decide)) (fun _ hk => hk.1.2) (.int .i64 t650)) (fun _ hk => hk.1.2) (.int .i64 t651)) (fun _ hk => hk.1.2) (.int .i64 t652)) (fun _ hk => hk.1.2) (.slice Ao12 t653.length co12)) (fun _ hk => hk.2) (.int .i64 t658)) (fun _ hk => hk.2) (.int .i64 t659)) (fun _ hk => hk.2) (.int .i64 t660)) (fun _ hk => hk.2) (.slice Ao14 t661.length co14)) (fun _ h_ => h_.1)) (fun _ h_ => h_.1))) (Kd.R_base ho0) hb); have n2_ := Aside0.mk (Kd.R_lower (Kd.R_new' (Kd.R_new' ho0 (Kd.Q_lt (by (with_reducible repeat (first | apply Kd.Q_alloc | apply Kd.Q_drewN | apply Kd.Q_drew)); exact (Kd.Q_mono (Kd.Q_mono (Kd.Q_far (p := ⟨gb665, 3, none⟩) (Kd.Q_far (p := ⟨gb665, 2, none⟩) (Kd.Q_far (p := ⟨gb665, 1, none⟩) (Kd.Q_far (p := ⟨gb665, 0, none⟩) (Kd.Q_far (p := ⟨gb664, 3, none⟩) (Kd.Q_far (p := ⟨gb664, 2, none⟩) (Kd.Q_far (p := ⟨gb664, 1, none⟩) (Kd.Q_far (p := ⟨gb664, 0, none⟩) (Kd.Q_types (Kd.Q_types HO655.out BK664.out (by decide)) BK665.out (by decide)) (fun _ hk => hk.1.2) (.int .i64 t650)) (fun _ hk => hk.1.2) (.int .i64 t651)) (fun _ hk => hk.1.2) (.int .i64 t652)) (fun _ hk => hk.1.2) (.slice Ao12 t653.length co12)) (fun _ hk => hk.2) (.int .i64 t658)) (fun _ hk => hk.2) (.int .i64 t659)) (fun _ hk => hk.2) (.int .i64 t660)) (fun _ hk => hk.2) (.slice Ao14 t661.length co14)) (fun _ h_ => h_.1)) (fun _ h_ => h_.1))))) (Kd.Q_lt (by (with_reducible repeat (first | apply Kd.Q_alloc | apply Kd.Q_drewN | apply Kd.Q_drew)); exact (Kd.Q_mono (Kd.Q_mono (Kd.Q_far (p := ⟨gb665, 3, none⟩) (Kd.Q_far (p := ⟨gb665, 2, none⟩) (Kd.Q_far (p := ⟨gb665, 1, none⟩) (Kd.Q_far (p := ⟨gb665, 0, none⟩) (Kd.Q_far (p := ⟨gb664, 3, none⟩) (Kd.Q_far (p := ⟨gb664, 2, none⟩) (Kd.Q_far (p := ⟨gb664, 1, none⟩) (Kd.Q_far (p := ⟨gb664, 0, none⟩) (Kd.Q_types (Kd.Q_types HO663.out BK664.out (by decide)) BK665.out (by decide)) (fun _ hk => hk.1.2) (.int .i64 t650)) (fun _ hk => hk.1.2) (.int .i64 t651)) (fun _ hk => hk.1.2) (.int .i64 t652)) (fun _ hk => hk.1.2) (.slice Ao12 t653.length co12)) (fun _ hk => hk.2) (.int .i64 t658)) (fun _ hk => hk.2) (.int .i64 t659)) (fun _ hk => hk.2) (.int .i64 t660)) (fun _ hk => hk.2) (.slice Ao14 t661.length co14)) (fun _ h_ => h_.1)) (fun _ h_ => h_.1))))) (below_size (B.bl HB))); have n3_ := Aside0.mk (blk_below (g := gb664) (o := .cells #[.int .i64 t650, .int .i64 t651, .int .i64 t652, .slice Ao12 t653.length co12] 28 (0, 0)) (by (with_reducible repeat (first | refine blk_drewN ?_ _ | refine blk_drew ?_ | refine blk_alloc ?_ _)); refine blk_far ?_ NB664_665.out _; (with_reducible repeat (first | refine blk_drewN ?_ _ | refine blk_drew ?_ | refine blk_alloc ?_ _)); refine blk_far ?_ NB664_665.out _; (with_reducible repeat (first | refine blk_drewN ?_ _ | refine blk_drew ?_ | refine blk_alloc ?_ _)); refine blk_far ?_ NB664_665.out _; (with_reducible repeat (first | refine blk_drewN ?_ _ | refine blk_drew ?_ | refine blk_alloc ?_ _)); refine blk_far ?_ NB664_665.out _; (with_reducible repeat (first | refine blk_drewN ?_ _ | refine blk_drew ?_ | refine blk_alloc ?_ _)); refine blk_put (cs := #[.int .i64 t650, .int .i64 t651, .int .i64 t652, .slice none 0 0]) ?_ 3 _ rfl; (with_reducible repeat (first | refine blk_drewN ?_ _ | refine blk_drew ?_ | refine blk_alloc ?_ _)); refine blk_put (cs := #[.int .i64 t650, .int .i64 t651, .int .i64 0, .slice none 0 0]) ?_ 2 _ rfl; (with_reducible repeat (first | refine blk_drewN ?_ _ | refine blk_drew ?_ | refine blk_alloc ?_ _)); refine blk_put (cs := #[.int .i64 t650, .int .i64 0, .int .i64 0, .slice none 0 0]) ?_ 1 _ rfl; (with_reducible repeat (first | refine blk_drewN ?_ _ | refine blk_drew ?_ | refine blk_alloc ?_ _)); refine blk_put (cs := #[.int .i64 0, .int .i64 0, .int .i64 0, .slice none 0 0]) ?_ 0 _ rfl; (with_reducible repeat (first | refine blk_drewN ?_ _ | refine blk_drew ?_ | refine blk_alloc ?_ _)); exact BK664.out) hb); have n4_ := Aside0.mk (blk_below (g := gb665) (o := .cells #[.int .i64 t658, .int .i64 t659, .int .i64 t660, .slice Ao14 t661.length co14] 28 (0, 0)) (by (with_reducible repeat (first | refine blk_drewN ?_ _ | refine blk_drew ?_ | refine blk_alloc ?_ _)); refine blk_put (cs := #[.int .i64 t658, .int .i64 t659, .int .i64 t660, .slice none 0 0]) ?_ 3 _ rfl; (with_reducible repeat (first | refine blk_drewN ?_ _ | refine blk_drew ?_ | refine blk_alloc ?_ _)); refine blk_put (cs := #[.int .i64 t658, .int .i64 t659, .int .i64 0, .slice none 0 0]) ?_ 2 _ rfl; (with_reducible repeat (first | refine blk_drewN ?_ _ | refine blk_drew ?_ | refine blk_alloc ?_ _)); refine blk_put (cs := #[.int .i64 t658, .int .i64 0, .int .i64 0, .slice none 0 0]) ?_ 1 _ rfl; (with_reducible repeat (first | refine blk_drewN ?_ _ | refine blk_drew ?_ | refine blk_alloc ?_ _)); refine blk_put (cs := #[.int .i64 0, .int .i64 0, .int .i64 0, .slice none 0 0]) ?_ 0 _ rfl; (with_reducible repeat (first | refine blk_drewN ?_ _ | refine blk_drew ?_ | refine blk_alloc ?_ _)); refine blk_far ?_ NB665_664.out _; (with_reducible repeat (first | refine blk_drewN ?_ _ | refine blk_drew ?_ | refine blk_alloc ?_ _)); refine blk_far ?_ NB665_664.out _; (with_reducible repeat (first | refine blk_drewN ?_ _ | refine blk_drew ?_ | refine blk_alloc ?_ _)); refine blk_far ?_ NB665_664.out _; (with_reducible repeat (first | refine blk_drewN ?_ _ | refine blk_drew ?_ | refine blk_alloc ?_ _)); refine blk_far ?_ NB665_664.out _; (with_reducible repeat (first | refine blk_drewN ?_ _ | refine blk_drew ?_ | refine blk_alloc ?_ _)); exact BK665.out) hb); have n5_ := Aside0.mk (below_step (B.bl HB) hb); clear HO655 HO663 BK664 BK665 HB; have HO655 := n0_; have HO663 := n1_; have HO671 := n2_; have BK664 := n3_; have BK665 := n4_; have HB := n5_; clear n0_ n1_ n2_ n3_ n4_ n5_; (try clear hb); (try clear hb2); (try clear hk); (try clear hi); (try clear ho0)) | ((with_reducible refine gate_dst (N := 7) rfl ?_); refine box_event ?hg (N := 7) ?hd (cs := #[.int .i64 0, .int .i64 0, .int .i64 0, .slice none 0 0]) (t := 28) ?hr ?_; (case hd => rfl); (case hg => rfl); (case hr => first | (go_simp; done) | (go_simp; rfl)); intro gb673 hg w16 hbox hb; have n0_ := Aside0.mk (Kd.Q_below (B.kq HO655) hb); have n1_ := Aside0.mk (Kd.Q_below (B.kq HO663) hb); have n2_ := Aside0.mk (Kd.R_below (B.kr HO671) hb); have n3_ := Aside0.mk (blk_below (B.kb BK664) hb); have n4_ := Aside0.mk (blk_below (B.kb BK665) hb); have n5_ := Aside0.mk (below_step (B.bl HB) hb); have n6_ := Aside0.mk (hbox); have n7_ := Aside0.mk (B.nle hg (below_size (B.bl HB))); have n8_ := Aside0.mk (B.nle hg (below_size (B.bl HB))); have n9_ := Aside0.mk (B.nlt hg (blk_lt (B.kb BK664))); have n10_ := Aside0.mk (B.ngt hg (blk_lt (B.kb BK664))); have n11_ := Aside0.mk (B.nlt hg (blk_lt (B.kb BK665))); have n12_ := Aside0.mk (B.ngt hg (blk_lt (B.kb BK665))); clear HO655 HO663 HO671 BK664 BK665 HB; have HO655 := n0_; have HO663 := n1_; have HO671 := n2_; have BK664 := n3_; have BK665 := n4_; have HB := n5_; have BK673 := n6_; have GW673 := n7_; have GE673 := n8_; have NB664_673 := n9_; have NB673_664 := n10_; have NB665_673 := n11_; have NB673_665 := n12_; clear n0_ n1_ n2_ n3_ n4_ n5_ n6_ n7_ n8_ n9_ n10_ n11_ n12_; clear hb hbox hg; have hnb17 := NB673_664.out; have hnc17 := NB664_673.out; have hnb18 := NB673_665.out; have hnc18 := NB665_673.out; have hcz19_0 : w16.cell? ⟨gb673, 0, none⟩ = some (.int .i64 0) := B.bc BK673 0; have hcz19_1 : w16.cell? ⟨gb673, 1, none⟩ = some (.int .i64 0) := B.bc BK673 1; have hcz19_2 : w16.cell? ⟨gb673, 2, none⟩ = some (.int .i64 0) := B.bc BK673 2; have hcz19_3 : w16.cell? ⟨gb673, 3, none⟩ = some (.slice none 0 0) := B.bc BK673 3; have hfz19_0 := blk_frozen BK673.out 0; have hfz19_1 := blk_frozen BK673.out 1; have hfz19_2 := blk_frozen BK673.out 2; have hfz19_3 := blk_frozen BK673.out 3; obtain ⟨Ao20, co20, eo20⟩ := Kd.R_slice HO671.out; subst eo20; have hcz21_0 : w16.cell? ⟨gb664, 0, none⟩ = some (.int .i64 t650) := B.bc BK664 0; have hcz21_1 : w16.cell? ⟨gb664, 1, none⟩ = some (.int .i64 t651) := B.bc BK664 1; have hcz21_2 : w16.cell? ⟨gb664, 2, none⟩ = some (.int .i64 t652) := B.bc BK664 2; have hcz21_3 : w16.cell? ⟨gb664, 3, none⟩ = some (.slice Ao12 t653.length co12) := B.bc BK664 3; have hfz21_0 := blk_frozen BK664.out 0; have hfz21_1 := blk_frozen BK664.out 1; have hfz21_2 := blk_frozen BK664.out 2; have hfz21_3 := blk_frozen BK664.out 3; have hcz22_0 : w16.cell? ⟨gb665, 0, none⟩ = some (.int .i64 t658) := B.bc BK665 0; have hcz22_1 : w16.cell? ⟨gb665, 1, none⟩ = some (.int .i64 t659) := B.bc BK665 1; have hcz22_2 : w16.cell? ⟨gb665, 2, none⟩ = some (.int .i64 t660) := B.bc BK665 2; have hcz22_3 : w16.cell? ⟨gb665, 3, none⟩ = some (.slice Ao14 t661.length co14) := B.bc BK665 3; have hfz22_0 := blk_frozen BK665.out 0; have hfz22_1 := blk_frozen BK665.out 1; have hfz22_2 := blk_frozen BK665.out 2; have hfz22_3 := blk_frozen BK665.out 3) | ((with_reducible refine gate_callee (f := 21) rfl ?_); refine goesL_ (some 39) rfl rfl Try.func21 (by kernel_rfl) rfl #[.agg #[.int .i64 t650, .int .i64 t651, .int .i64 t652, .slice Ao12 t653.length co12], .int .i64 t656, .int .i64 t657, .agg #[.int .i64 t658, .int .i64 t659, .int .i64 t660, .slice Ao14 t661.length co14]] rfl B.am ?_; (with_reducible refine (spec_PasteImage.calls k t650 t651 t652 _ _ t653 t656 t657 t658 t659 t660 _ _ t661 t674 t675 t676 t677 t680 _ ?side1 ?side2 ?side3 ?side4 A5.out).mono ?_); (case side1 => refine (Kd.Q_reads' (e := 3) (base := w.heap.size) (ok := fun k_ => (some k_ ≠ (.slice Ao14 t661.length co14 : Value).ownBlock ∧ some k_ ≠ (.slice Ao20 t669.length co20 : Value).ownBlock)) (n := t653.length) (c := co12) ?_).2.2; exact (by (with_reducible repeat (first | apply Kd.Q_alloc | apply Kd.Q_drewN | apply Kd.Q_drew)); exact (Kd.Q_mono (Kd.Q_far (p := ⟨gb673, 3, none⟩) (Kd.Q_far (p := ⟨gb673, 2, none⟩) (Kd.Q_far (p := ⟨gb673, 1, none⟩) (Kd.Q_far (p := ⟨gb673, 0, none⟩) (Kd.Q_types HO655.out BK673.out (by decide)) (fun _ hk => hk.2) (.int .i64 t666)) (fun _ hk => hk.2) (.int .i64 t667)) (fun _ hk => hk.2) (.int .i64 t668)) (fun _ hk => hk.2) (.slice Ao20 t669.length co20)) (fun _ h_ => h_.1)))); (case side2 => exact (Kd.Q_reads' HO655.out).2.1); (case side3 => refine (Kd.Q_reads' (e := 3) (base := w.heap.size) (ok := fun k_ => (some k_ ≠ (.slice Ao12 t653.length co12 : Value).ownBlock ∧ some k_ ≠ (.slice Ao20 t669.length co20 : Value).ownBlock)) (n := t661.length) (c := co14) ?_).2.2; exact (by (with_reducible repeat (first | apply Kd.Q_alloc | apply Kd.Q_drewN | apply Kd.Q_drew)); exact (Kd.Q_mono (Kd.Q_far (p := ⟨gb673, 3, none⟩) (Kd.Q_far (p := ⟨gb673, 2, none⟩) (Kd.Q_far (p := ⟨gb673, 1, none⟩) (Kd.Q_far (p := ⟨gb673, 0, none⟩) (Kd.Q_types HO663.out BK673.out (by decide)) (fun _ hk => hk.2) (.int .i64 t666)) (fun _ hk => hk.2) (.int .i64 t667)) (fun _ hk => hk.2) (.int .i64 t668)) (fun _ hk => hk.2) (.slice Ao20 t669.length co20)) (fun _ h_ => h_.1)))); (case side4 => exact (Kd.Q_reads' HO663.out).2.1); rintro e w23 ⟨v678, rfl, ho0, hb⟩; refine ⟨_, rfl, ?_⟩; have n0_ := Aside0.mk (Kd.Q_elder' (by (with_reducible repeat (first | apply Kd.Q_alloc | apply Kd.Q_drewN | apply Kd.Q_drew)); exact (Kd.Q_mono (Kd.Q_far (p := ⟨gb673, 3, none⟩) (Kd.Q_far (p := ⟨gb673, 2, none⟩) (Kd.Q_far (p := ⟨gb673, 1, none⟩) (Kd.Q_far (p := ⟨gb673, 0, none⟩) (Kd.Q_types HO655.out BK673.out (by decide)) (fun _ hk => hk.2) (.int .i64 t666)) (fun _ hk => hk.2) (.int .i64 t667)) (fun _ hk => hk.2) (.int .i64 t668)) (fun _ hk => hk.2) (.slice Ao20 t669.length co20)) (fun _ h_ => h_.1))) (Kd.R_base ho0) hb); have n1_ := Aside0.mk (Kd.Q_elder' (by (with_reducible repeat (first | apply Kd.Q_alloc | apply Kd.Q_drewN | apply Kd.Q_drew)); exact (Kd.Q_mono (Kd.Q_far (p := ⟨gb673, 3, none⟩) (Kd.Q_far (p := ⟨gb673, 2, none⟩) (Kd.Q_far (p := ⟨gb673, 1, none⟩) (Kd.Q_far (p := ⟨gb673, 0, none⟩) (Kd.Q_types HO663.out BK673.out (by decide)) (fun _ hk => hk.2) (.int .i64 t666)) (fun _ hk => hk.2) (.int .i64 t667)) (fun _ hk => hk.2) (.int .i64 t668)) (fun _ hk => hk.2) (.slice Ao20 t669.length co20)) (fun _ h_ => h_.1))) (Kd.R_base ho0) hb); have n2_ := Aside0.mk (Kd.R_elder' (B.kr0 (B.rs4 HO671 BK673)) (Kd.R_base ho0) hb); have n3_ := Aside0.mk (Kd.R_lower (Kd.R_new' (Kd.R_new' (Kd.R_new' ho0 (Kd.Q_lt (by (with_reducible repeat (first | apply Kd.Q_alloc | apply Kd.Q_drewN | apply Kd.Q_drew)); exact (Kd.Q_mono (Kd.Q_far (p := ⟨gb673, 3, none⟩) (Kd.Q_far (p := ⟨gb673, 2, none⟩) (Kd.Q_far (p := ⟨gb673, 1, none⟩) (Kd.Q_far (p := ⟨gb673, 0, none⟩) (Kd.Q_types HO655.out BK673.out (by decide)) (fun _ hk => hk.2) (.int .i64 t666)) (fun _ hk => hk.2) (.int .i64 t667)) (fun _ hk => hk.2) (.int .i64 t668)) (fun _ hk => hk.2) (.slice Ao20 t669.length co20)) (fun _ h_ => h_.1))))) (Kd.Q_lt (by (with_reducible repeat (first | apply Kd.Q_alloc | apply Kd.Q_drewN | apply Kd.Q_drew)); exact (Kd.Q_mono (Kd.Q_far (p := ⟨gb673, 3, none⟩) (Kd.Q_far (p := ⟨gb673, 2, none⟩) (Kd.Q_far (p := ⟨gb673, 1, none⟩) (Kd.Q_far (p := ⟨gb673, 0, none⟩) (Kd.Q_types HO663.out BK673.out (by decide)) (fun _ hk => hk.2) (.int .i64 t666)) (fun _ hk => hk.2) (.int .i64 t667)) (fun _ hk => hk.2) (.int .i64 t668)) (fun _ hk => hk.2) (.slice Ao20 t669.length co20)) (fun _ h_ => h_.1))))) (Kd.R_lt (B.kr0 (B.rs4 HO671 BK673)))) (below_size (B.bl HB))); have n4_ := Aside0.mk (blk_below (B.kb0 (B.bf4 BK664 NB664_673)) hb); have n5_ := Aside0.mk (blk_below (B.kb0 (B.bf4 BK665 NB665_673)) hb); have n6_ := Aside0.mk (blk_below (g := gb673) (o := .cells #[.int .i64 t666, .int .i64 t667, .int .i64 t668, .slice Ao20 t669.length co20] 28 (0, 0)) (B.kb0 (B.bp4 BK673)) hb); have n7_ := Aside0.mk (below_step (B.bl HB) hb); clear HO655 HO663 HO671 BK664 BK665 BK673 HB; have HO655 := n0_; have HO663 := n1_; have HO671 := n2_; have HO679 := n3_; have BK664 := n4_; have BK665 := n5_; have BK673 := n6_; have HB := n7_; clear n0_ n1_ n2_ n3_ n4_ n5_ n6_ n7_; (try clear hb); (try clear hb2); (try clear hk); (try clear hi); (try clear ho0)) | ((with_reducible refine gate_dst (N := 9) rfl ?_); refine box_event ?hg (N := 9) ?hd (cs := #[.int .i64 0, .int .i64 0, .int .i64 0, .slice none 0 0]) (t := 28) ?hr ?_; (case hd => rfl); (case hg => rfl); (case hr => first | (go_simp; done) | (go_simp; rfl)); intro gb681 hg w24 hbox hb; have n0_ := Aside0.mk (Kd.Q_below (B.kq HO655) hb); have n1_ := Aside0.mk (Kd.Q_below (B.kq HO663) hb); have n2_ := Aside0.mk (Kd.R_below (B.kr HO671) hb); have n3_ := Aside0.mk (Kd.R_below (B.kr HO679) hb); have n4_ := Aside0.mk (blk_below (B.kb BK664) hb); have n5_ := Aside0.mk (blk_below (B.kb BK665) hb); have n6_ := Aside0.mk (blk_below (B.kb BK673) hb); have n7_ := Aside0.mk (below_step (B.bl HB) hb); have n8_ := Aside0.mk (hbox); have n9_ := Aside0.mk (B.nle hg (below_size (B.bl HB))); have n10_ := Aside0.mk (B.nle hg (below_size (B.bl HB))); have n11_ := Aside0.mk (B.nlt hg (blk_lt (B.kb BK664))); have n12_ := Aside0.mk (B.ngt hg (blk_lt (B.kb BK664))); have n13_ := Aside0.mk (B.nlt hg (blk_lt (B.kb BK665))); have n14_ := Aside0.mk (B.ngt hg (blk_lt (B.kb BK665))); have n15_ := Aside0.mk (B.nlt hg (blk_lt (B.kb BK673))); have n16_ := Aside0.mk (B.ngt hg (blk_lt (B.kb BK673))); clear HO655 HO663 HO671 HO679 BK664 BK665 BK673 HB; have HO655 := n0_; have HO663 := n1_; have HO671 := n2_; have HO679 := n3_; have BK664 := n4_; have BK665 := n5_; have BK673 := n6_; have HB := n7_; have BK681 := n8_; have GW681 := n9_; have GE681 := n10_; have NB664_681 := n11_; have NB681_664 := n12_; have NB665_681 := n13_; have NB681_665 := n14_; have NB673_681 := n15_; have NB681_673 := n16_; clear n0_ n1_ n2_ n3_ n4_ n5_ n6_ n7_ n8_ n9_ n10_ n11_ n12_ n13_ n14_ n15_ n16_; clear hb hbox hg; have hnb25 := NB681_664.out; have hnc25 := NB664_681.out; have hnb26 := NB681_665.out; have hnc26 := NB665_681.out; have hnb27 := NB681_673.out; have hnc27 := NB673_681.out; have hcz28_0 : w24.cell? ⟨gb681, 0, none⟩ = some (.int .i64 0) := B.bc BK681 0; have hcz28_1 : w24.cell? ⟨gb681, 1, none⟩ = some (.int .i64 0) := B.bc BK681 1; have hcz28_2 : w24.cell? ⟨gb681, 2, none⟩ = some (.int .i64 0) := B.bc BK681 2; have hcz28_3 : w24.cell? ⟨gb681, 3, none⟩ = some (.slice none 0 0) := B.bc BK681 3; have hfz28_0 := blk_frozen BK681.out 0; have hfz28_1 := blk_frozen BK681.out 1; have hfz28_2 := blk_frozen BK681.out 2; have hfz28_3 := blk_frozen BK681.out 3; obtain ⟨Ao29, co29, eo29⟩ := Kd.R_slice HO679.out; subst eo29))
  (try simp only [Act.put, List.setIfInBounds_toArray, List.set_cons_zero, List.set_cons_succ])
  go_cut [54] (fun v54 wc => ∃ (kq : Nat) (x54_5 : Bool), v54 = .bool x54_5 ∧ Aside0 (laws_FnPasteImage.j0 kq t656 t657 t672 t680 x54_5 t650 t651 t652 t653 t658 t659 t660 t661 t666 t667 t668 t669 t674 t675 t676 t677 = some r) ∧ Aside0 (kq ≤ k) ∧ Aside0 (Kd.Q (Kd.int .i64) 3 wc w.heap.size (fun k_ => some k_ ≠ ((.slice Ao14 t661.length co14) : Value).ownBlock ∧ some k_ ≠ ((.slice Ao20 t669.length co20) : Value).ownBlock ∧ some k_ ≠ ((.slice Ao29 t677.length co29) : Value).ownBlock) (.slice Ao12 t653.length co12) t653) ∧ Aside0 (Kd.Q (Kd.int .i64) 3 wc w.heap.size (fun k_ => some k_ ≠ ((.slice Ao12 t653.length co12) : Value).ownBlock ∧ some k_ ≠ ((.slice Ao20 t669.length co20) : Value).ownBlock ∧ some k_ ≠ ((.slice Ao29 t677.length co29) : Value).ownBlock) (.slice Ao14 t661.length co14) t661) ∧ Aside0 (Kd.Q (Kd.int .i64) 3 wc w.heap.size (fun k_ => some k_ ≠ ((.slice Ao12 t653.length co12) : Value).ownBlock ∧ some k_ ≠ ((.slice Ao14 t661.length co14) : Value).ownBlock ∧ some k_ ≠ ((.slice Ao29 t677.length co29) : Value).ownBlock) (.slice Ao20 t669.length co20) t669) ∧ Aside0 (Kd.Q (Kd.int .i64) 3 wc w.heap.size (fun k_ => some k_ ≠ ((.slice Ao12 t653.length co12) : Value).ownBlock ∧ some k_ ≠ ((.slice Ao14 t661.length co14) : Value).ownBlock ∧ some k_ ≠ ((.slice Ao20 t669.length co20) : Value).ownBlock) (.slice Ao29 t677.length co29) t677) ∧ Aside0 (wc.heap[gb664]? = some (.cells #[.int .i64 t650, .int .i64 t651, .int .i64 t652, (.slice Ao12 t653.length co12)] 28 (0, 0))) ∧ Aside0 (wc.heap[gb665]? = some (.cells #[.int .i64 t658, .int .i64 t659, .int .i64 t660, (.slice Ao14 t661.length co14)] 28 (0, 0))) ∧ Aside0 (wc.heap[gb673]? = some (.cells #[.int .i64 t666, .int .i64 t667, .int .i64 t668, (.slice Ao20 t669.length co20)] 28 (0, 0))) ∧ Aside0 (wc.heap[gb681]? = some (.cells #[.int .i64 t674, .int .i64 t675, .int .i64 t676, (.slice Ao29 t677.length co29)] 28 (0, 0))) ∧ Aside0 (Below w.heap.size w wc))
  case first =>
    have H := HC6.out
    clear HC6
    replace H := Option.bind_eq_some_iff.mp H
    obtain ⟨t682, A300, H⟩ := H
    replace H : (if t682 = true then (if (t672 != t680) = true then (laws_FnPasteImage.j0 k t656 t657 t672 t680 true t650 t651 t652 t653 t658 t659 t660 t661 t666 t667 t668 t669 t674 t675 t676 t677) else (laws_FnPasteImage.j0 k t656 t657 t672 t680 (!t672) t650 t651 t652 t653 t658 t659 t660 t661 t666 t667 t668 t669 t674 t675 t676 t677)) else (laws_FnPasteImage.j0 k t656 t657 t672 t680 true t650 t651 t652 t653 t658 t659 t660 t661 t666 t667 t668 t669 t674 t675 t676 t677)) = some r := H
    have A30 := Aside0.mk A300
    clear A300
    by_cases c31 : t682 = true
    · subst c31
      have H1 : (if (t672 != t680) = true then (laws_FnPasteImage.j0 k t656 t657 t672 t680 true t650 t651 t652 t653 t658 t659 t660 t661 t666 t667 t668 t669 t674 t675 t676 t677) else (laws_FnPasteImage.j0 k t656 t657 t672 t680 (!t672) t650 t651 t652 t653 t658 t659 t660 t661 t666 t667 t668 t669 t674 t675 t676 t677)) = some r := by rw [if_pos rfl] at H; exact H
      clear H
      have H := H1
      clear H1
      by_cases c32 : (t672 != t680) = true
      · rw [if_pos c32] at H
        have c32b0 : (t672 != t680) = true := c32
        (try (have c32b1 : decide (t672 = t680) = false := by simpa using c32))
        (try (have c32b2 : (t672 == t680) = false := by simpa using c32))
        (try (have c32b3 : ¬ (t672 = t680) := by simpa using c32))
        clear c32
        (first | rw [c32b0] | (simp only [i64_w, i32_w]; rw [c32b0]) | skip)
        have H' := Aside0.mk H
        clear H
        have hnb33 := NB673_664.out
        have hnc33 := NB664_673.out
        have hnb34 := NB673_665.out
        have hnc34 := NB665_673.out
        have hnb35 := NB673_681.out
        have hnc35 := NB681_673.out
        have hcz36_0 : w24.cell? ⟨gb673, 0, none⟩ = some (.int .i64 t666) := B.bc BK673 0
        have hcz36_1 : w24.cell? ⟨gb673, 1, none⟩ = some (.int .i64 t667) := B.bc BK673 1
        have hcz36_2 : w24.cell? ⟨gb673, 2, none⟩ = some (.int .i64 t668) := B.bc BK673 2
        have hcz36_3 : w24.cell? ⟨gb673, 3, none⟩ = some (.slice Ao20 t669.length co20) := B.bc BK673 3
        have hfz36_0 := blk_frozen BK673.out 0
        have hfz36_1 := blk_frozen BK673.out 1
        have hfz36_2 := blk_frozen BK673.out 2
        have hfz36_3 := blk_frozen BK673.out 3
        have hnb37 := NB681_664.out
        have hnc37 := NB664_681.out
        have hnb38 := NB681_665.out
        have hnc38 := NB665_681.out
        have hcz39_0 : w24.cell? ⟨gb681, 0, none⟩ = some (.int .i64 0) := B.bc BK681 0
        have hcz39_1 : w24.cell? ⟨gb681, 1, none⟩ = some (.int .i64 0) := B.bc BK681 1
        have hcz39_2 : w24.cell? ⟨gb681, 2, none⟩ = some (.int .i64 0) := B.bc BK681 2
        have hcz39_3 : w24.cell? ⟨gb681, 3, none⟩ = some (.slice none 0 0) := B.bc BK681 3
        have hfz39_0 := blk_frozen BK681.out 0
        have hfz39_1 := blk_frozen BK681.out 1
        have hfz39_2 := blk_frozen BK681.out 2
        have hfz39_3 := blk_frozen BK681.out 3
        go_wp2_with (first | ((with_reducible refine gate_callee (f := 17) rfl ?_); refine goesL_ (some 44) rfl rfl Try.func17 (by kernel_rfl) rfl #[.agg #[.int .i64 t666, .int .i64 t667, .int .i64 t668, .slice Ao20 t669.length co20], .agg #[.int .i64 t674, .int .i64 t675, .int .i64 t676, .slice Ao29 t677.length co29]] rfl B.am ?_; (with_reducible refine (laws_equalImage.calls k t666 t667 t668 _ _ t669 t674 t675 t676 _ _ t677 true _ ?side1 ?side2 ?side3 ?side4 A30.out).mono ?_); (case side1 => refine (Kd.R_reads' (e := 3) (base := w.heap.size) (ok := fun k_ => (((True ∧ some k_ ≠ (.slice Ao12 t653.length co12 : Value).ownBlock) ∧ some k_ ≠ (.slice Ao14 t661.length co14 : Value).ownBlock) ∧ some k_ ≠ (.slice Ao29 t677.length co29 : Value).ownBlock)) (n := t669.length) (c := co20) ?_).2.2; exact (B.kr0 (B.rs4 HO671 BK681))); (case side2 => exact (Kd.R_reads' HO671.out).2.1); (case side3 => refine (Kd.R_reads' (e := 3) (base := w.heap.size) (ok := fun k_ => (((True ∧ some k_ ≠ (.slice Ao12 t653.length co12 : Value).ownBlock) ∧ some k_ ≠ (.slice Ao14 t661.length co14 : Value).ownBlock) ∧ some k_ ≠ (.slice Ao20 t669.length co20 : Value).ownBlock)) (n := t677.length) (c := co29) ?_).2.2; exact (B.kr0 (B.rs4 HO679 BK681))); (case side4 => exact (Kd.R_reads' HO679.out).2.1); rintro e w40 ⟨rfl, hb⟩; refine ⟨_, rfl, ?_⟩; have n0_ := Aside0.mk (Kd.Q_below (by (with_reducible repeat (first | apply Kd.Q_alloc | apply Kd.Q_drewN | apply Kd.Q_drew)); exact (Kd.Q_mono (Kd.Q_far (p := ⟨gb681, 3, none⟩) (Kd.Q_far (p := ⟨gb681, 2, none⟩) (Kd.Q_far (p := ⟨gb681, 1, none⟩) (Kd.Q_far (p := ⟨gb681, 0, none⟩) (Kd.Q_types HO655.out BK681.out (by decide)) (fun _ hk => hk.2) (.int .i64 t674)) (fun _ hk => hk.2) (.int .i64 t675)) (fun _ hk => hk.2) (.int .i64 t676)) (fun _ hk => hk.2) (.slice Ao29 t677.length co29)) (fun _ h_ => h_.1))) hb); have n1_ := Aside0.mk (Kd.Q_below (by (with_reducible repeat (first | apply Kd.Q_alloc | apply Kd.Q_drewN | apply Kd.Q_drew)); exact (Kd.Q_mono (Kd.Q_far (p := ⟨gb681, 3, none⟩) (Kd.Q_far (p := ⟨gb681, 2, none⟩) (Kd.Q_far (p := ⟨gb681, 1, none⟩) (Kd.Q_far (p := ⟨gb681, 0, none⟩) (Kd.Q_types HO663.out BK681.out (by decide)) (fun _ hk => hk.2) (.int .i64 t674)) (fun _ hk => hk.2) (.int .i64 t675)) (fun _ hk => hk.2) (.int .i64 t676)) (fun _ hk => hk.2) (.slice Ao29 t677.length co29)) (fun _ h_ => h_.1))) hb); have n2_ := Aside0.mk (Kd.R_below (B.kr0 (B.rs4 HO671 BK681)) hb); have n3_ := Aside0.mk (Kd.R_below (B.kr0 (B.rs4 HO679 BK681)) hb); have n4_ := Aside0.mk (blk_below (B.kb0 (B.bf4 BK664 NB664_681)) hb); have n5_ := Aside0.mk (blk_below (B.kb0 (B.bf4 BK665 NB665_681)) hb); have n6_ := Aside0.mk (blk_below (B.kb0 (B.bf4 BK673 NB673_681)) hb); have n7_ := Aside0.mk (blk_below (g := gb681) (o := .cells #[.int .i64 t674, .int .i64 t675, .int .i64 t676, .slice Ao29 t677.length co29] 28 (0, 0)) (B.kb0 (B.bp4 BK681)) hb); have n8_ := Aside0.mk (below_step (B.bl HB) hb); clear HO655 HO663 HO671 HO679 BK664 BK665 BK673 BK681 HB; have HO655 := n0_; have HO663 := n1_; have HO671 := n2_; have HO679 := n3_; have BK664 := n4_; have BK665 := n5_; have BK673 := n6_; have BK681 := n7_; have HB := n8_; clear n0_ n1_ n2_ n3_ n4_ n5_ n6_ n7_ n8_; (try clear hb); (try clear hb2); (try clear hk); (try clear hi)))
        go_meet
        case rel => exact ⟨_, (true), (by first | rfl | (simp; done) | (simp [*]; done)), H', ⟨by first | omega | exact Nat.le_refl _⟩, ⟨by (with_reducible repeat (first | apply Kd.Q_alloc | apply Kd.Q_drewN | apply Kd.Q_drew)); exact Kd.Q_mono HO655.out (fun _ hk => ⟨hk.1.1, ⟨hk.1.2, hk.2⟩⟩)⟩, ⟨by (with_reducible repeat (first | apply Kd.Q_alloc | apply Kd.Q_drewN | apply Kd.Q_drew)); exact Kd.Q_mono HO663.out (fun _ hk => ⟨hk.1.1, ⟨hk.1.2, hk.2⟩⟩)⟩, ⟨Kd.Q_of_R (B.kr0 (Kd.R_mono HO671.out (fun _ hk => ⟨hk.1.1.2, ⟨hk.1.2, hk.2⟩⟩)))⟩, ⟨Kd.Q_of_R (B.kr0 (Kd.R_mono HO679.out (fun _ hk => ⟨hk.1.1.2, ⟨hk.1.2, hk.2⟩⟩)))⟩, ⟨B.kb BK664⟩, ⟨B.kb BK665⟩, ⟨B.kb BK673⟩, ⟨B.kb BK681⟩, ⟨B.bl HB⟩⟩
      rw [if_neg c32] at H
      have c32b0 : (t672 != t680) = false := by simpa using c32
      (try (have c32b1 : decide (t672 = t680) = true := by simpa using c32))
      (try (have c32b2 : (t672 == t680) = true := by simpa using c32))
      clear c32
      (first | rw [c32b0] | (simp only [i64_w, i32_w]; rw [c32b0]) | skip)
      have H' := Aside0.mk H
      clear H
      have hnb41 := NB673_664.out
      have hnc41 := NB664_673.out
      have hnb42 := NB673_665.out
      have hnc42 := NB665_673.out
      have hnb43 := NB673_681.out
      have hnc43 := NB681_673.out
      have hcz44_0 : w24.cell? ⟨gb673, 0, none⟩ = some (.int .i64 t666) := B.bc BK673 0
      have hcz44_1 : w24.cell? ⟨gb673, 1, none⟩ = some (.int .i64 t667) := B.bc BK673 1
      have hcz44_2 : w24.cell? ⟨gb673, 2, none⟩ = some (.int .i64 t668) := B.bc BK673 2
      have hcz44_3 : w24.cell? ⟨gb673, 3, none⟩ = some (.slice Ao20 t669.length co20) := B.bc BK673 3
      have hfz44_0 := blk_frozen BK673.out 0
      have hfz44_1 := blk_frozen BK673.out 1
      have hfz44_2 := blk_frozen BK673.out 2
      have hfz44_3 := blk_frozen BK673.out 3
      have hnb45 := NB681_664.out
      have hnc45 := NB664_681.out
      have hnb46 := NB681_665.out
      have hnc46 := NB665_681.out
      have hcz47_0 : w24.cell? ⟨gb681, 0, none⟩ = some (.int .i64 0) := B.bc BK681 0
      have hcz47_1 : w24.cell? ⟨gb681, 1, none⟩ = some (.int .i64 0) := B.bc BK681 1
      have hcz47_2 : w24.cell? ⟨gb681, 2, none⟩ = some (.int .i64 0) := B.bc BK681 2
      have hcz47_3 : w24.cell? ⟨gb681, 3, none⟩ = some (.slice none 0 0) := B.bc BK681 3
      have hfz47_0 := blk_frozen BK681.out 0
      have hfz47_1 := blk_frozen BK681.out 1
      have hfz47_2 := blk_frozen BK681.out 2
      have hfz47_3 := blk_frozen BK681.out 3
      go_wp2_with (first | ((with_reducible refine gate_callee (f := 17) rfl ?_); refine goesL_ (some 44) rfl rfl Try.func17 (by kernel_rfl) rfl #[.agg #[.int .i64 t666, .int .i64 t667, .int .i64 t668, .slice Ao20 t669.length co20], .agg #[.int .i64 t674, .int .i64 t675, .int .i64 t676, .slice Ao29 t677.length co29]] rfl B.am ?_; (with_reducible refine (laws_equalImage.calls k t666 t667 t668 _ _ t669 t674 t675 t676 _ _ t677 true _ ?side1 ?side2 ?side3 ?side4 A30.out).mono ?_); (case side1 => refine (Kd.R_reads' (e := 3) (base := w.heap.size) (ok := fun k_ => (((True ∧ some k_ ≠ (.slice Ao12 t653.length co12 : Value).ownBlock) ∧ some k_ ≠ (.slice Ao14 t661.length co14 : Value).ownBlock) ∧ some k_ ≠ (.slice Ao29 t677.length co29 : Value).ownBlock)) (n := t669.length) (c := co20) ?_).2.2; exact (B.kr0 (B.rs4 HO671 BK681))); (case side2 => exact (Kd.R_reads' HO671.out).2.1); (case side3 => refine (Kd.R_reads' (e := 3) (base := w.heap.size) (ok := fun k_ => (((True ∧ some k_ ≠ (.slice Ao12 t653.length co12 : Value).ownBlock) ∧ some k_ ≠ (.slice Ao14 t661.length co14 : Value).ownBlock) ∧ some k_ ≠ (.slice Ao20 t669.length co20 : Value).ownBlock)) (n := t677.length) (c := co29) ?_).2.2; exact (B.kr0 (B.rs4 HO679 BK681))); (case side4 => exact (Kd.R_reads' HO679.out).2.1); rintro e w48 ⟨rfl, hb⟩; refine ⟨_, rfl, ?_⟩; have n0_ := Aside0.mk (Kd.Q_below (by (with_reducible repeat (first | apply Kd.Q_alloc | apply Kd.Q_drewN | apply Kd.Q_drew)); exact (Kd.Q_mono (Kd.Q_far (p := ⟨gb681, 3, none⟩) (Kd.Q_far (p := ⟨gb681, 2, none⟩) (Kd.Q_far (p := ⟨gb681, 1, none⟩) (Kd.Q_far (p := ⟨gb681, 0, none⟩) (Kd.Q_types HO655.out BK681.out (by decide)) (fun _ hk => hk.2) (.int .i64 t674)) (fun _ hk => hk.2) (.int .i64 t675)) (fun _ hk => hk.2) (.int .i64 t676)) (fun _ hk => hk.2) (.slice Ao29 t677.length co29)) (fun _ h_ => h_.1))) hb); have n1_ := Aside0.mk (Kd.Q_below (by (with_reducible repeat (first | apply Kd.Q_alloc | apply Kd.Q_drewN | apply Kd.Q_drew)); exact (Kd.Q_mono (Kd.Q_far (p := ⟨gb681, 3, none⟩) (Kd.Q_far (p := ⟨gb681, 2, none⟩) (Kd.Q_far (p := ⟨gb681, 1, none⟩) (Kd.Q_far (p := ⟨gb681, 0, none⟩) (Kd.Q_types HO663.out BK681.out (by decide)) (fun _ hk => hk.2) (.int .i64 t674)) (fun _ hk => hk.2) (.int .i64 t675)) (fun _ hk => hk.2) (.int .i64 t676)) (fun _ hk => hk.2) (.slice Ao29 t677.length co29)) (fun _ h_ => h_.1))) hb); have n2_ := Aside0.mk (Kd.R_below (B.kr0 (B.rs4 HO671 BK681)) hb); have n3_ := Aside0.mk (Kd.R_below (B.kr0 (B.rs4 HO679 BK681)) hb); have n4_ := Aside0.mk (blk_below (B.kb0 (B.bf4 BK664 NB664_681)) hb); have n5_ := Aside0.mk (blk_below (B.kb0 (B.bf4 BK665 NB665_681)) hb); have n6_ := Aside0.mk (blk_below (B.kb0 (B.bf4 BK673 NB673_681)) hb); have n7_ := Aside0.mk (blk_below (g := gb681) (o := .cells #[.int .i64 t674, .int .i64 t675, .int .i64 t676, .slice Ao29 t677.length co29] 28 (0, 0)) (B.kb0 (B.bp4 BK681)) hb); have n8_ := Aside0.mk (below_step (B.bl HB) hb); clear HO655 HO663 HO671 HO679 BK664 BK665 BK673 BK681 HB; have HO655 := n0_; have HO663 := n1_; have HO671 := n2_; have HO679 := n3_; have BK664 := n4_; have BK665 := n5_; have BK673 := n6_; have BK681 := n7_; have HB := n8_; clear n0_ n1_ n2_ n3_ n4_ n5_ n6_ n7_ n8_; (try clear hb); (try clear hb2); (try clear hk); (try clear hi)))
      go_meet
      case rel => exact ⟨_, (!t672), (by first | rfl | (simp; done) | (simp [*]; done)), H', ⟨by first | omega | exact Nat.le_refl _⟩, ⟨by (with_reducible repeat (first | apply Kd.Q_alloc | apply Kd.Q_drewN | apply Kd.Q_drew)); exact Kd.Q_mono HO655.out (fun _ hk => ⟨hk.1.1, ⟨hk.1.2, hk.2⟩⟩)⟩, ⟨by (with_reducible repeat (first | apply Kd.Q_alloc | apply Kd.Q_drewN | apply Kd.Q_drew)); exact Kd.Q_mono HO663.out (fun _ hk => ⟨hk.1.1, ⟨hk.1.2, hk.2⟩⟩)⟩, ⟨Kd.Q_of_R (B.kr0 (Kd.R_mono HO671.out (fun _ hk => ⟨hk.1.1.2, ⟨hk.1.2, hk.2⟩⟩)))⟩, ⟨Kd.Q_of_R (B.kr0 (Kd.R_mono HO679.out (fun _ hk => ⟨hk.1.1.2, ⟨hk.1.2, hk.2⟩⟩)))⟩, ⟨B.kb BK664⟩, ⟨B.kb BK665⟩, ⟨B.kb BK673⟩, ⟨B.kb BK681⟩, ⟨B.bl HB⟩⟩
    replace c31 := Bool.eq_false_iff.mpr c31
    subst c31
    have H1 : (laws_FnPasteImage.j0 k t656 t657 t672 t680 true t650 t651 t652 t653 t658 t659 t660 t661 t666 t667 t668 t669 t674 t675 t676 t677) = some r := by rw [if_neg (show ¬ (false = true) by decide)] at H; exact H
    clear H
    have H := H1
    clear H1
    have H' := Aside0.mk H
    clear H
    have hnb49 := NB673_664.out
    have hnc49 := NB664_673.out
    have hnb50 := NB673_665.out
    have hnc50 := NB665_673.out
    have hnb51 := NB673_681.out
    have hnc51 := NB681_673.out
    have hcz52_0 : w24.cell? ⟨gb673, 0, none⟩ = some (.int .i64 t666) := B.bc BK673 0
    have hcz52_1 : w24.cell? ⟨gb673, 1, none⟩ = some (.int .i64 t667) := B.bc BK673 1
    have hcz52_2 : w24.cell? ⟨gb673, 2, none⟩ = some (.int .i64 t668) := B.bc BK673 2
    have hcz52_3 : w24.cell? ⟨gb673, 3, none⟩ = some (.slice Ao20 t669.length co20) := B.bc BK673 3
    have hfz52_0 := blk_frozen BK673.out 0
    have hfz52_1 := blk_frozen BK673.out 1
    have hfz52_2 := blk_frozen BK673.out 2
    have hfz52_3 := blk_frozen BK673.out 3
    have hnb53 := NB681_664.out
    have hnc53 := NB664_681.out
    have hnb54 := NB681_665.out
    have hnc54 := NB665_681.out
    have hcz55_0 : w24.cell? ⟨gb681, 0, none⟩ = some (.int .i64 0) := B.bc BK681 0
    have hcz55_1 : w24.cell? ⟨gb681, 1, none⟩ = some (.int .i64 0) := B.bc BK681 1
    have hcz55_2 : w24.cell? ⟨gb681, 2, none⟩ = some (.int .i64 0) := B.bc BK681 2
    have hcz55_3 : w24.cell? ⟨gb681, 3, none⟩ = some (.slice none 0 0) := B.bc BK681 3
    have hfz55_0 := blk_frozen BK681.out 0
    have hfz55_1 := blk_frozen BK681.out 1
    have hfz55_2 := blk_frozen BK681.out 2
    have hfz55_3 := blk_frozen BK681.out 3
    go_wp2_with (first | ((with_reducible refine gate_callee (f := 17) rfl ?_); refine goesL_ (some 44) rfl rfl Try.func17 (by kernel_rfl) rfl #[.agg #[.int .i64 t666, .int .i64 t667, .int .i64 t668, .slice Ao20 t669.length co20], .agg #[.int .i64 t674, .int .i64 t675, .int .i64 t676, .slice Ao29 t677.length co29]] rfl B.am ?_; (with_reducible refine (laws_equalImage.calls k t666 t667 t668 _ _ t669 t674 t675 t676 _ _ t677 false _ ?side1 ?side2 ?side3 ?side4 A30.out).mono ?_); (case side1 => refine (Kd.R_reads' (e := 3) (base := w.heap.size) (ok := fun k_ => (((True ∧ some k_ ≠ (.slice Ao12 t653.length co12 : Value).ownBlock) ∧ some k_ ≠ (.slice Ao14 t661.length co14 : Value).ownBlock) ∧ some k_ ≠ (.slice Ao29 t677.length co29 : Value).ownBlock)) (n := t669.length) (c := co20) ?_).2.2; exact (B.kr0 (B.rs4 HO671 BK681))); (case side2 => exact (Kd.R_reads' HO671.out).2.1); (case side3 => refine (Kd.R_reads' (e := 3) (base := w.heap.size) (ok := fun k_ => (((True ∧ some k_ ≠ (.slice Ao12 t653.length co12 : Value).ownBlock) ∧ some k_ ≠ (.slice Ao14 t661.length co14 : Value).ownBlock) ∧ some k_ ≠ (.slice Ao20 t669.length co20 : Value).ownBlock)) (n := t677.length) (c := co29) ?_).2.2; exact (B.kr0 (B.rs4 HO679 BK681))); (case side4 => exact (Kd.R_reads' HO679.out).2.1); rintro e w56 ⟨rfl, hb⟩; refine ⟨_, rfl, ?_⟩; have n0_ := Aside0.mk (Kd.Q_below (by (with_reducible repeat (first | apply Kd.Q_alloc | apply Kd.Q_drewN | apply Kd.Q_drew)); exact (Kd.Q_mono (Kd.Q_far (p := ⟨gb681, 3, none⟩) (Kd.Q_far (p := ⟨gb681, 2, none⟩) (Kd.Q_far (p := ⟨gb681, 1, none⟩) (Kd.Q_far (p := ⟨gb681, 0, none⟩) (Kd.Q_types HO655.out BK681.out (by decide)) (fun _ hk => hk.2) (.int .i64 t674)) (fun _ hk => hk.2) (.int .i64 t675)) (fun _ hk => hk.2) (.int .i64 t676)) (fun _ hk => hk.2) (.slice Ao29 t677.length co29)) (fun _ h_ => h_.1))) hb); have n1_ := Aside0.mk (Kd.Q_below (by (with_reducible repeat (first | apply Kd.Q_alloc | apply Kd.Q_drewN | apply Kd.Q_drew)); exact (Kd.Q_mono (Kd.Q_far (p := ⟨gb681, 3, none⟩) (Kd.Q_far (p := ⟨gb681, 2, none⟩) (Kd.Q_far (p := ⟨gb681, 1, none⟩) (Kd.Q_far (p := ⟨gb681, 0, none⟩) (Kd.Q_types HO663.out BK681.out (by decide)) (fun _ hk => hk.2) (.int .i64 t674)) (fun _ hk => hk.2) (.int .i64 t675)) (fun _ hk => hk.2) (.int .i64 t676)) (fun _ hk => hk.2) (.slice Ao29 t677.length co29)) (fun _ h_ => h_.1))) hb); have n2_ := Aside0.mk (Kd.R_below (B.kr0 (B.rs4 HO671 BK681)) hb); have n3_ := Aside0.mk (Kd.R_below (B.kr0 (B.rs4 HO679 BK681)) hb); have n4_ := Aside0.mk (blk_below (B.kb0 (B.bf4 BK664 NB664_681)) hb); have n5_ := Aside0.mk (blk_below (B.kb0 (B.bf4 BK665 NB665_681)) hb); have n6_ := Aside0.mk (blk_below (B.kb0 (B.bf4 BK673 NB673_681)) hb); have n7_ := Aside0.mk (blk_below (g := gb681) (o := .cells #[.int .i64 t674, .int .i64 t675, .int .i64 t676, .slice Ao29 t677.length co29] 28 (0, 0)) (B.kb0 (B.bp4 BK681)) hb); have n8_ := Aside0.mk (below_step (B.bl HB) hb); clear HO655 HO663 HO671 HO679 BK664 BK665 BK673 BK681 HB; have HO655 := n0_; have HO663 := n1_; have HO671 := n2_; have HO679 := n3_; have BK664 := n4_; have BK665 := n5_; have BK673 := n6_; have BK681 := n7_; have HB := n8_; clear n0_ n1_ n2_ n3_ n4_ n5_ n6_ n7_ n8_; (try clear hb); (try clear hb2); (try clear hk); (try clear hi)))
    go_meet
    case rel => exact ⟨_, (true), (by first | rfl | (simp; done) | (simp [*]; done)), H', ⟨by first | omega | exact Nat.le_refl _⟩, ⟨by (with_reducible repeat (first | apply Kd.Q_alloc | apply Kd.Q_drewN | apply Kd.Q_drew)); exact Kd.Q_mono HO655.out (fun _ hk => ⟨hk.1.1, ⟨hk.1.2, hk.2⟩⟩)⟩, ⟨by (with_reducible repeat (first | apply Kd.Q_alloc | apply Kd.Q_drewN | apply Kd.Q_drew)); exact Kd.Q_mono HO663.out (fun _ hk => ⟨hk.1.1, ⟨hk.1.2, hk.2⟩⟩)⟩, ⟨Kd.Q_of_R (B.kr0 (Kd.R_mono HO671.out (fun _ hk => ⟨hk.1.1.2, ⟨hk.1.2, hk.2⟩⟩)))⟩, ⟨Kd.Q_of_R (B.kr0 (Kd.R_mono HO679.out (fun _ hk => ⟨hk.1.1.2, ⟨hk.1.2, hk.2⟩⟩)))⟩, ⟨B.kb BK664⟩, ⟨B.kb BK665⟩, ⟨B.kb BK673⟩, ⟨B.kb BK681⟩, ⟨B.bl HB⟩⟩
  case rest =>
    clear HC6
    try clear c1
    try clear c2
    try clear c2b0
    try clear c2b1
    try clear p2
    try clear c3
    try clear c4
    try clear c5
    try clear c7
    try clear c10
    try clear c17
    try clear c18
    try clear c21
    try clear c22
    try clear c25
    try clear c26
    try clear c27
    try clear c31
    try clear c32
    try clear c32b0
    try clear c32b1
    try clear c32b2
    try clear c33
    try clear c34
    try clear c35
    try clear c37
    try clear c38
    try clear c41
    try clear c42
    try clear c43
    try clear c45
    try clear c46
    try clear c49
    try clear c50
    try clear c51
    try clear c53
    try clear c54
    try clear hcz11_0
    try clear hcz11_1
    try clear hcz11_2
    try clear hcz11_3
    try clear hcz13_0
    try clear hcz13_1
    try clear hcz13_2
    try clear hcz13_3
    try clear hcz19_0
    try clear hcz19_1
    try clear hcz19_2
    try clear hcz19_3
    try clear hcz21_0
    try clear hcz21_1
    try clear hcz21_2
    try clear hcz21_3
    try clear hcz22_0
    try clear hcz22_1
    try clear hcz22_2
    try clear hcz22_3
    try clear hcz28_0
    try clear hcz28_1
    try clear hcz28_2
    try clear hcz28_3
    try clear hcz36_0
    try clear hcz36_1
    try clear hcz36_2
    try clear hcz36_3
    try clear hcz39_0
    try clear hcz39_1
    try clear hcz39_2
    try clear hcz39_3
    try clear hcz44_0
    try clear hcz44_1
    try clear hcz44_2
    try clear hcz44_3
    try clear hcz47_0
    try clear hcz47_1
    try clear hcz47_2
    try clear hcz47_3
    try clear hcz52_0
    try clear hcz52_1
    try clear hcz52_2
    try clear hcz52_3
    try clear hcz55_0
    try clear hcz55_1
    try clear hcz55_2
    try clear hcz55_3
    try clear hfz11_0
    try clear hfz11_1
    try clear hfz11_2
    try clear hfz11_3
    try clear hfz13_0
    try clear hfz13_1
    try clear hfz13_2
    try clear hfz13_3
    try clear hfz19_0
    try clear hfz19_1
    try clear hfz19_2
    try clear hfz19_3
    try clear hfz21_0
    try clear hfz21_1
    try clear hfz21_2
    try clear hfz21_3
    try clear hfz22_0
    try clear hfz22_1
    try clear hfz22_2
    try clear hfz22_3
    try clear hfz28_0
    try clear hfz28_1
    try clear hfz28_2
    try clear hfz28_3
    try clear hfz36_0
    try clear hfz36_1
    try clear hfz36_2
    try clear hfz36_3
    try clear hfz39_0
    try clear hfz39_1
    try clear hfz39_2
    try clear hfz39_3
    try clear hfz44_0
    try clear hfz44_1
    try clear hfz44_2
    try clear hfz44_3
    try clear hfz47_0
    try clear hfz47_1
    try clear hfz47_2
    try clear hfz47_3
    try clear hfz52_0
    try clear hfz52_1
    try clear hfz52_2
    try clear hfz52_3
    try clear hfz55_0
    try clear hfz55_1
    try clear hfz55_2
    try clear hfz55_3
    obtain ⟨kq, x54_5, rfl, HA, HJ5, HO_665003, HO_666003, HO_674003, HO_682003, BK664, BK665, BK673, BK681, HB⟩ := hcut
    cases kq with
    | zero => exact absurd HA.out (by simp [laws_FnPasteImage.j0])
    | succ kj5 =>
      have H := HA.out
      clear HA
      simp only [laws_FnPasteImage.j0] at H
      by_cases c57 : x54_5 = true
      · subst c57
        have H1 : ((laws_equalImage.f kj5 t666 t667 t668 t669 t674 t675 t676 t677).bind fun t683 => (if t683 = true then (some (t672 == t680)) else (some false))) = some r := by rw [if_pos rfl] at H; exact H
        clear H
        have H := H1
        clear H1
        replace H := Option.bind_eq_some_iff.mp H
        obtain ⟨t683, A580, H⟩ := H
        replace H : (if t683 = true then (some (t672 == t680)) else (some false)) = some r := H
        have A58 := Aside0.mk A580
        clear A580
        by_cases c59 : t683 = true
        · subst c59
          have H1 : (some (t672 == t680)) = some r := by rw [if_pos rfl] at H; exact H
          clear H
          have H := H1
          clear H1
          obtain rfl := Option.some.inj H
          simp only [Option.some.injEq, Prod.mk.injEq] at H
          obtain ⟨rfl⟩ := H
          have hnb60 := NB673_664.out
          have hnc60 := NB664_673.out
          have hnb61 := NB673_665.out
          have hnc61 := NB665_673.out
          have hnb62 := NB673_681.out
          have hnc62 := NB681_673.out
          have hcz63_0 : wc.cell? ⟨gb673, 0, none⟩ = some (.int .i64 t666) := B.bc BK673 0
          have hcz63_1 : wc.cell? ⟨gb673, 1, none⟩ = some (.int .i64 t667) := B.bc BK673 1
          have hcz63_2 : wc.cell? ⟨gb673, 2, none⟩ = some (.int .i64 t668) := B.bc BK673 2
          have hcz63_3 : wc.cell? ⟨gb673, 3, none⟩ = some (.slice Ao20 t669.length co20) := B.bc BK673 3
          have hfz63_0 := blk_frozen BK673.out 0
          have hfz63_1 := blk_frozen BK673.out 1
          have hfz63_2 := blk_frozen BK673.out 2
          have hfz63_3 := blk_frozen BK673.out 3
          have hnb64 := NB681_664.out
          have hnc64 := NB664_681.out
          have hnb65 := NB681_665.out
          have hnc65 := NB665_681.out
          have hcz66_0 : wc.cell? ⟨gb681, 0, none⟩ = some (.int .i64 t674) := B.bc BK681 0
          have hcz66_1 : wc.cell? ⟨gb681, 1, none⟩ = some (.int .i64 t675) := B.bc BK681 1
          have hcz66_2 : wc.cell? ⟨gb681, 2, none⟩ = some (.int .i64 t676) := B.bc BK681 2
          have hcz66_3 : wc.cell? ⟨gb681, 3, none⟩ = some (.slice Ao29 t677.length co29) := B.bc BK681 3
          have hfz66_0 := blk_frozen BK681.out 0
          have hfz66_1 := blk_frozen BK681.out 1
          have hfz66_2 := blk_frozen BK681.out 2
          have hfz66_3 := blk_frozen BK681.out 3
          go_wp2_with (first | ((with_reducible refine gate_callee (f := 17) rfl ?_); refine goesL_ (some 57) rfl rfl Try.func17 (by kernel_rfl) rfl #[.agg #[.int .i64 t666, .int .i64 t667, .int .i64 t668, .slice Ao20 t669.length co20], .agg #[.int .i64 t674, .int .i64 t675, .int .i64 t676, .slice Ao29 t677.length co29]] rfl B.am ?_; (with_reducible refine (laws_equalImage.calls kj5 t666 t667 t668 _ _ t669 t674 t675 t676 _ _ t677 true _ ?side1 ?side2 ?side3 ?side4 A58.out).mono ?_); (case side1 => exact B.kc ((Kd.Q_reads' HO_674003.out).2.2)); (case side2 => exact (Kd.Q_reads' HO_674003.out).2.1); (case side3 => exact B.kc ((Kd.Q_reads' HO_682003.out).2.2)); (case side4 => exact (Kd.Q_reads' HO_682003.out).2.1); rintro e w67 ⟨rfl, hb⟩; refine ⟨_, rfl, ?_⟩; have n0_ := Aside0.mk (Kd.Q_below (B.kq HO_665003) hb); have n1_ := Aside0.mk (Kd.Q_below (B.kq HO_666003) hb); have n2_ := Aside0.mk (Kd.Q_below (B.kq HO_674003) hb); have n3_ := Aside0.mk (Kd.Q_below (B.kq HO_682003) hb); have n4_ := Aside0.mk (blk_below (B.kb BK664) hb); have n5_ := Aside0.mk (blk_below (B.kb BK665) hb); have n6_ := Aside0.mk (blk_below (B.kb BK673) hb); have n7_ := Aside0.mk (blk_below (B.kb BK681) hb); have n8_ := Aside0.mk (below_step (B.bl HB) hb); clear HO_665003 HO_666003 HO_674003 HO_682003 BK664 BK665 BK673 BK681 HB; have HO_665003 := n0_; have HO_666003 := n1_; have HO_674003 := n2_; have HO_682003 := n3_; have BK664 := n4_; have BK665 := n5_; have BK673 := n6_; have BK681 := n7_; have HB := n8_; clear n0_ n1_ n2_ n3_ n4_ n5_ n6_ n7_ n8_; (try clear hb); (try clear hb2); (try clear hk); (try clear hi)))
          go_ret
          exact ⟨by first | rfl | (simp [errW_none, errW_some] <;> rfl) | (simp [*, errW_none, errW_some] <;> rfl), B.bl HB⟩
        replace c59 := Bool.eq_false_iff.mpr c59
        subst c59
        have H1 : (some false) = some r := by rw [if_neg (show ¬ (false = true) by decide)] at H; exact H
        clear H
        have H := H1
        clear H1
        obtain rfl := Option.some.inj H
        exact absurd ht_.out (by decide)
      replace c57 := Bool.eq_false_iff.mpr c57
      subst c57
      have H1 : (laws_FnPasteImage.l0 kj5 t656 t657 0 t650 t651 t652 t653 t658 t659 t660 t661 t666 t667 t668 t669) = some r := by rw [if_neg (show ¬ (false = true) by decide)] at H; exact H
      clear H
      have H := H1
      clear H1
      have H' := Aside0.mk H
      clear H
      go_wp2
      go_loopg [11] kj5 (fun kq v11 w' => ∃ (x11_2 : Int), v11 = .int .i64 x11_2 ∧ Aside0 (laws_FnPasteImage.l0 kq t656 t657 x11_2 t650 t651 t652 t653 t658 t659 t660 t661 t666 t667 t668 t669 = some r) ∧ Aside0 (kq ≤ kj5) ∧ Aside0 (Kd.Q (Kd.int .i64) 3 w' w.heap.size (fun k_ => some k_ ≠ ((.slice Ao14 t661.length co14) : Value).ownBlock ∧ some k_ ≠ ((.slice Ao20 t669.length co20) : Value).ownBlock ∧ some k_ ≠ ((.slice Ao29 t677.length co29) : Value).ownBlock) (.slice Ao12 t653.length co12) t653) ∧ Aside0 (Kd.Q (Kd.int .i64) 3 w' w.heap.size (fun k_ => some k_ ≠ ((.slice Ao12 t653.length co12) : Value).ownBlock ∧ some k_ ≠ ((.slice Ao20 t669.length co20) : Value).ownBlock ∧ some k_ ≠ ((.slice Ao29 t677.length co29) : Value).ownBlock) (.slice Ao14 t661.length co14) t661) ∧ Aside0 (Kd.Q (Kd.int .i64) 3 w' w.heap.size (fun k_ => some k_ ≠ ((.slice Ao12 t653.length co12) : Value).ownBlock ∧ some k_ ≠ ((.slice Ao14 t661.length co14) : Value).ownBlock ∧ some k_ ≠ ((.slice Ao29 t677.length co29) : Value).ownBlock) (.slice Ao20 t669.length co20) t669) ∧ Aside0 (Kd.Q (Kd.int .i64) 3 w' w.heap.size (fun k_ => some k_ ≠ ((.slice Ao12 t653.length co12) : Value).ownBlock ∧ some k_ ≠ ((.slice Ao14 t661.length co14) : Value).ownBlock ∧ some k_ ≠ ((.slice Ao20 t669.length co20) : Value).ownBlock) (.slice Ao29 t677.length co29) t677) ∧ Aside0 (w'.heap[gb664]? = some (.cells #[.int .i64 t650, .int .i64 t651, .int .i64 t652, (.slice Ao12 t653.length co12)] 28 (0, 0))) ∧ Aside0 (w'.heap[gb665]? = some (.cells #[.int .i64 t658, .int .i64 t659, .int .i64 t660, (.slice Ao14 t661.length co14)] 28 (0, 0))) ∧ Aside0 (w'.heap[gb673]? = some (.cells #[.int .i64 t666, .int .i64 t667, .int .i64 t668, (.slice Ao20 t669.length co20)] 28 (0, 0))) ∧ Aside0 (w'.heap[gb681]? = some (.cells #[.int .i64 t674, .int .i64 t675, .int .i64 t676, (.slice Ao29 t677.length co29)] 28 (0, 0))) ∧ Aside0 (Below w.heap.size w w'))
      case atStart => exact ⟨(0), (by first | rfl | (simp; done) | (simp [*]; done)), H', ⟨Nat.le_refl _⟩, ⟨by (with_reducible repeat (first | apply Kd.Q_alloc | apply Kd.Q_drewN | apply Kd.Q_drew)); exact HO_665003.out⟩, ⟨by (with_reducible repeat (first | apply Kd.Q_alloc | apply Kd.Q_drewN | apply Kd.Q_drew)); exact HO_666003.out⟩, ⟨by (with_reducible repeat (first | apply Kd.Q_alloc | apply Kd.Q_drewN | apply Kd.Q_drew)); exact HO_674003.out⟩, ⟨by (with_reducible repeat (first | apply Kd.Q_alloc | apply Kd.Q_drewN | apply Kd.Q_drew)); exact HO_682003.out⟩, ⟨B.kb BK664⟩, ⟨B.kb BK665⟩, ⟨B.kb BK673⟩, ⟨B.kb BK681⟩, ⟨B.bl HB⟩⟩
      case round =>
        clear H'
        try clear c1
        try clear c2
        try clear c2b0
        try clear c2b1
        try clear p2
        try clear c3
        try clear c4
        try clear c5
        try clear c6
        try clear c7
        try clear c10
        try clear c17
        try clear c18
        try clear c21
        try clear c22
        try clear c25
        try clear c26
        try clear c27
        try clear c31
        try clear c32
        try clear c32b0
        try clear c32b1
        try clear c32b2
        try clear c33
        try clear c34
        try clear c35
        try clear c37
        try clear c38
        try clear c41
        try clear c42
        try clear c43
        try clear c45
        try clear c46
        try clear c49
        try clear c50
        try clear c51
        try clear c53
        try clear c54
        try clear c57
        try clear c59
        try clear c60
        try clear c61
        try clear c62
        try clear c64
        try clear c65
        try clear hcz11_0
        try clear hcz11_1
        try clear hcz11_2
        try clear hcz11_3
        try clear hcz13_0
        try clear hcz13_1
        try clear hcz13_2
        try clear hcz13_3
        try clear hcz19_0
        try clear hcz19_1
        try clear hcz19_2
        try clear hcz19_3
        try clear hcz21_0
        try clear hcz21_1
        try clear hcz21_2
        try clear hcz21_3
        try clear hcz22_0
        try clear hcz22_1
        try clear hcz22_2
        try clear hcz22_3
        try clear hcz28_0
        try clear hcz28_1
        try clear hcz28_2
        try clear hcz28_3
        try clear hcz36_0
        try clear hcz36_1
        try clear hcz36_2
        try clear hcz36_3
        try clear hcz39_0
        try clear hcz39_1
        try clear hcz39_2
        try clear hcz39_3
        try clear hcz44_0
        try clear hcz44_1
        try clear hcz44_2
        try clear hcz44_3
        try clear hcz47_0
        try clear hcz47_1
        try clear hcz47_2
        try clear hcz47_3
        try clear hcz52_0
        try clear hcz52_1
        try clear hcz52_2
        try clear hcz52_3
        try clear hcz55_0
        try clear hcz55_1
        try clear hcz55_2
        try clear hcz55_3
        try clear hcz63_0
        try clear hcz63_1
        try clear hcz63_2
        try clear hcz63_3
        try clear hcz66_0
        try clear hcz66_1
        try clear hcz66_2
        try clear hcz66_3
        try clear hfz11_0
        try clear hfz11_1
        try clear hfz11_2
        try clear hfz11_3
        try clear hfz13_0
        try clear hfz13_1
        try clear hfz13_2
        try clear hfz13_3
        try clear hfz19_0
        try clear hfz19_1
        try clear hfz19_2
        try clear hfz19_3
        try clear hfz21_0
        try clear hfz21_1
        try clear hfz21_2
        try clear hfz21_3
        try clear hfz22_0
        try clear hfz22_1
        try clear hfz22_2
        try clear hfz22_3
        try clear hfz28_0
        try clear hfz28_1
        try clear hfz28_2
        try clear hfz28_3
        try clear hfz36_0
        try clear hfz36_1
        try clear hfz36_2
        try clear hfz36_3
        try clear hfz39_0
        try clear hfz39_1
        try clear hfz39_2
        try clear hfz39_3
        try clear hfz44_0
        try clear hfz44_1
        try clear hfz44_2
        try clear hfz44_3
        try clear hfz47_0
        try clear hfz47_1
        try clear hfz47_2
        try clear hfz47_3
        try clear hfz52_0
        try clear hfz52_1
        try clear hfz52_2
        try clear hfz52_3
        try clear hfz55_0
        try clear hfz55_1
        try clear hfz55_2
        try clear hfz55_3
        try clear hfz63_0
        try clear hfz63_1
        try clear hfz63_2
        try clear hfz63_3
        try clear hfz66_0
        try clear hfz66_1
        try clear hfz66_2
        try clear hfz66_3
        try clear p2
        obtain ⟨x11_2, rfl, HA, HK2, HO_665003, HO_666003, HO_674003, HO_682003, BK664, BK665, BK673, BK681, HB⟩ := hrel
        cases gk with
        | zero => exact absurd HA.out (by simp [laws_FnPasteImage.l0])
        | succ k2 =>
          have H := HA.out
          clear HA
          simp only [laws_FnPasteImage.l0] at H
          by_cases c68 : x11_2 < t651
          · rw [if_pos c68] at H
            have c68b0 : decide (x11_2 < t651) = true := decide_eq_true c68
            clear c68
            have H' := Aside0.mk H
            clear H
            have hnb69 := NB664_665.out
            have hnc69 := NB665_664.out
            have hnb70 := NB664_673.out
            have hnc70 := NB673_664.out
            have hnb71 := NB664_681.out
            have hnc71 := NB681_664.out
            have hcz72_0 : wr.cell? ⟨gb664, 0, none⟩ = some (.int .i64 t650) := B.bc BK664 0
            have hcz72_1 : wr.cell? ⟨gb664, 1, none⟩ = some (.int .i64 t651) := B.bc BK664 1
            have hcz72_2 : wr.cell? ⟨gb664, 2, none⟩ = some (.int .i64 t652) := B.bc BK664 2
            have hcz72_3 : wr.cell? ⟨gb664, 3, none⟩ = some (.slice Ao12 t653.length co12) := B.bc BK664 3
            have hfz72_0 := blk_frozen BK664.out 0
            have hfz72_1 := blk_frozen BK664.out 1
            have hfz72_2 := blk_frozen BK664.out 2
            have hfz72_3 := blk_frozen BK664.out 3
            go_wp2
            go_loopg [12] k2 (fun kq v12 w' => ∃ (x12_3 : Int), v12 = .int .i64 x12_3 ∧ Aside0 (laws_FnPasteImage.l1 kq t656 t657 x11_2 x12_3 t650 t651 t652 t653 t658 t659 t660 t661 t666 t667 t668 t669 = some r) ∧ Aside0 (kq ≤ k2) ∧ Aside0 (Kd.Q (Kd.int .i64) 3 w' w.heap.size (fun k_ => some k_ ≠ ((.slice Ao14 t661.length co14) : Value).ownBlock ∧ some k_ ≠ ((.slice Ao20 t669.length co20) : Value).ownBlock ∧ some k_ ≠ ((.slice Ao29 t677.length co29) : Value).ownBlock) (.slice Ao12 t653.length co12) t653) ∧ Aside0 (Kd.Q (Kd.int .i64) 3 w' w.heap.size (fun k_ => some k_ ≠ ((.slice Ao12 t653.length co12) : Value).ownBlock ∧ some k_ ≠ ((.slice Ao20 t669.length co20) : Value).ownBlock ∧ some k_ ≠ ((.slice Ao29 t677.length co29) : Value).ownBlock) (.slice Ao14 t661.length co14) t661) ∧ Aside0 (Kd.Q (Kd.int .i64) 3 w' w.heap.size (fun k_ => some k_ ≠ ((.slice Ao12 t653.length co12) : Value).ownBlock ∧ some k_ ≠ ((.slice Ao14 t661.length co14) : Value).ownBlock ∧ some k_ ≠ ((.slice Ao29 t677.length co29) : Value).ownBlock) (.slice Ao20 t669.length co20) t669) ∧ Aside0 (Kd.Q (Kd.int .i64) 3 w' w.heap.size (fun k_ => some k_ ≠ ((.slice Ao12 t653.length co12) : Value).ownBlock ∧ some k_ ≠ ((.slice Ao14 t661.length co14) : Value).ownBlock ∧ some k_ ≠ ((.slice Ao20 t669.length co20) : Value).ownBlock) (.slice Ao29 t677.length co29) t677) ∧ Aside0 (w'.heap[gb664]? = some (.cells #[.int .i64 t650, .int .i64 t651, .int .i64 t652, (.slice Ao12 t653.length co12)] 28 (0, 0))) ∧ Aside0 (w'.heap[gb665]? = some (.cells #[.int .i64 t658, .int .i64 t659, .int .i64 t660, (.slice Ao14 t661.length co14)] 28 (0, 0))) ∧ Aside0 (w'.heap[gb673]? = some (.cells #[.int .i64 t666, .int .i64 t667, .int .i64 t668, (.slice Ao20 t669.length co20)] 28 (0, 0))) ∧ Aside0 (w'.heap[gb681]? = some (.cells #[.int .i64 t674, .int .i64 t675, .int .i64 t676, (.slice Ao29 t677.length co29)] 28 (0, 0))) ∧ Aside0 (Below w.heap.size w w'))
            case atStart => exact ⟨(0), (by first | rfl | (simp; done) | (simp [*]; done)), H', ⟨Nat.le_refl _⟩, ⟨by (with_reducible repeat (first | apply Kd.Q_alloc | apply Kd.Q_drewN | apply Kd.Q_drew)); exact HO_665003.out⟩, ⟨by (with_reducible repeat (first | apply Kd.Q_alloc | apply Kd.Q_drewN | apply Kd.Q_drew)); exact HO_666003.out⟩, ⟨by (with_reducible repeat (first | apply Kd.Q_alloc | apply Kd.Q_drewN | apply Kd.Q_drew)); exact HO_674003.out⟩, ⟨by (with_reducible repeat (first | apply Kd.Q_alloc | apply Kd.Q_drewN | apply Kd.Q_drew)); exact HO_682003.out⟩, ⟨B.kb BK664⟩, ⟨B.kb BK665⟩, ⟨B.kb BK673⟩, ⟨B.kb BK681⟩, ⟨B.bl HB⟩⟩
            case round =>
              clear H'
              try clear c1
              try clear c2
              try clear c2b0
              try clear c2b1
              try clear p2
              try clear c3
              try clear c4
              try clear c5
              try clear c6
              try clear c7
              try clear c10
              try clear c17
              try clear c18
              try clear c21
              try clear c22
              try clear c25
              try clear c26
              try clear c27
              try clear c31
              try clear c32
              try clear c32b0
              try clear c32b1
              try clear c32b2
              try clear c33
              try clear c34
              try clear c35
              try clear c37
              try clear c38
              try clear c41
              try clear c42
              try clear c43
              try clear c45
              try clear c46
              try clear c49
              try clear c50
              try clear c51
              try clear c53
              try clear c54
              try clear c57
              try clear c59
              try clear c60
              try clear c61
              try clear c62
              try clear c64
              try clear c65
              try clear c68
              try clear c68b0
              try clear c69
              try clear c70
              try clear c71
              try clear hcz11_0
              try clear hcz11_1
              try clear hcz11_2
              try clear hcz11_3
              try clear hcz13_0
              try clear hcz13_1
              try clear hcz13_2
              try clear hcz13_3
              try clear hcz19_0
              try clear hcz19_1
              try clear hcz19_2
              try clear hcz19_3
              try clear hcz21_0
              try clear hcz21_1
              try clear hcz21_2
              try clear hcz21_3
              try clear hcz22_0
              try clear hcz22_1
              try clear hcz22_2
              try clear hcz22_3
              try clear hcz28_0
              try clear hcz28_1
              try clear hcz28_2
              try clear hcz28_3
              try clear hcz36_0
              try clear hcz36_1
              try clear hcz36_2
              try clear hcz36_3
              try clear hcz39_0
              try clear hcz39_1
              try clear hcz39_2
              try clear hcz39_3
              try clear hcz44_0
              try clear hcz44_1
              try clear hcz44_2
              try clear hcz44_3
              try clear hcz47_0
              try clear hcz47_1
              try clear hcz47_2
              try clear hcz47_3
              try clear hcz52_0
              try clear hcz52_1
              try clear hcz52_2
              try clear hcz52_3
              try clear hcz55_0
              try clear hcz55_1
              try clear hcz55_2
              try clear hcz55_3
              try clear hcz63_0
              try clear hcz63_1
              try clear hcz63_2
              try clear hcz63_3
              try clear hcz66_0
              try clear hcz66_1
              try clear hcz66_2
              try clear hcz66_3
              try clear hcz72_0
              try clear hcz72_1
              try clear hcz72_2
              try clear hcz72_3
              try clear hfz11_0
              try clear hfz11_1
              try clear hfz11_2
              try clear hfz11_3
              try clear hfz13_0
              try clear hfz13_1
              try clear hfz13_2
              try clear hfz13_3
              try clear hfz19_0
              try clear hfz19_1
              try clear hfz19_2
              try clear hfz19_3
              try clear hfz21_0
              try clear hfz21_1
              try clear hfz21_2
              try clear hfz21_3
              try clear hfz22_0
              try clear hfz22_1
              try clear hfz22_2
              try clear hfz22_3
              try clear hfz28_0
              try clear hfz28_1
              try clear hfz28_2
              try clear hfz28_3
              try clear hfz36_0
              try clear hfz36_1
              try clear hfz36_2
              try clear hfz36_3
              try clear hfz39_0
              try clear hfz39_1
              try clear hfz39_2
              try clear hfz39_3
              try clear hfz44_0
              try clear hfz44_1
              try clear hfz44_2
              try clear hfz44_3
              try clear hfz47_0
              try clear hfz47_1
              try clear hfz47_2
              try clear hfz47_3
              try clear hfz52_0
              try clear hfz52_1
              try clear hfz52_2
              try clear hfz52_3
              try clear hfz55_0
              try clear hfz55_1
              try clear hfz55_2
              try clear hfz55_3
              try clear hfz63_0
              try clear hfz63_1
              try clear hfz63_2
              try clear hfz63_3
              try clear hfz66_0
              try clear hfz66_1
              try clear hfz66_2
              try clear hfz66_3
              try clear hfz72_0
              try clear hfz72_1
              try clear hfz72_2
              try clear hfz72_3
              try clear p2
              obtain ⟨x12_3, rfl, HA, HK3, HO_665003, HO_666003, HO_674003, HO_682003, BK664, BK665, BK673, BK681, HB⟩ := hrel
              cases gk with
              | zero => exact absurd HA.out (by simp [laws_FnPasteImage.l1])
              | succ k3 =>
                have H := HA.out
                clear HA
                simp only [laws_FnPasteImage.l1] at H
                by_cases c73 : x12_3 < t650
                · rw [if_pos c73] at H
                  have c73b0 : decide (x12_3 < t650) = true := decide_eq_true c73
                  clear c73
                  replace H := Option.bind_eq_some_iff.mp H
                  obtain ⟨t693, A740, H⟩ := H
                  replace H : (if (t693.length : Int) = 0 then ((impl_PixelAt.f t650 t651 t652 t653 x12_3 x11_2).bind fun t696 => (laws_FnPasteImage.j3 k3 t656 t657 x11_2 x12_3 t696 t650 t651 t652 t653 t658 t659 t660 t661 t666 t667 t668 t669)) else (laws_FnPasteImage.j3 k3 t656 t657 x11_2 x12_3 t693 t650 t651 t652 t653 t658 t659 t660 t661 t666 t667 t668 t669)) = some r := H
                  have A74 := Aside0.mk A740
                  clear A740
                  have HC75 := Aside0.mk H
                  clear H
                  have hnb76 := NB664_665.out
                  have hnc76 := NB665_664.out
                  have hnb77 := NB664_673.out
                  have hnc77 := NB673_664.out
                  have hnb78 := NB664_681.out
                  have hnc78 := NB681_664.out
                  have hcz79_0 : wr.cell? ⟨gb664, 0, none⟩ = some (.int .i64 t650) := B.bc BK664 0
                  have hcz79_1 : wr.cell? ⟨gb664, 1, none⟩ = some (.int .i64 t651) := B.bc BK664 1
                  have hcz79_2 : wr.cell? ⟨gb664, 2, none⟩ = some (.int .i64 t652) := B.bc BK664 2
                  have hcz79_3 : wr.cell? ⟨gb664, 3, none⟩ = some (.slice Ao12 t653.length co12) := B.bc BK664 3
                  have hfz79_0 := blk_frozen BK664.out 0
                  have hfz79_1 := blk_frozen BK664.out 1
                  have hfz79_2 := blk_frozen BK664.out 2
                  have hfz79_3 := blk_frozen BK664.out 3
                  have hnb80 := NB665_673.out
                  have hnc80 := NB673_665.out
                  have hnb81 := NB665_681.out
                  have hnc81 := NB681_665.out
                  have hcz82_0 : wr.cell? ⟨gb665, 0, none⟩ = some (.int .i64 t658) := B.bc BK665 0
                  have hcz82_1 : wr.cell? ⟨gb665, 1, none⟩ = some (.int .i64 t659) := B.bc BK665 1
                  have hcz82_2 : wr.cell? ⟨gb665, 2, none⟩ = some (.int .i64 t660) := B.bc BK665 2
                  have hcz82_3 : wr.cell? ⟨gb665, 3, none⟩ = some (.slice Ao14 t661.length co14) := B.bc BK665 3
                  have hfz82_0 := blk_frozen BK665.out 0
                  have hfz82_1 := blk_frozen BK665.out 1
                  have hfz82_2 := blk_frozen BK665.out 2
                  have hfz82_3 := blk_frozen BK665.out 3
                  go_upto_if 85 with (first | ((with_reducible refine gate_callee (f := 20) rfl ?_); refine goesL_ (some 82) rfl rfl Try.func20 (by kernel_rfl) rfl #[.agg #[.int .i64 t658, .int .i64 t659, .int .i64 t660, .slice Ao14 t661.length co14], .int .i64 (wrap64 (x12_3 - t656)), .int .i64 (wrap64 (x11_2 - t657))] rfl B.am ?_; (with_reducible refine (impl_PixelAt.calls t658 t659 t660 _ _ t661 (wrap64 (x12_3 - t656)) (wrap64 (x11_2 - t657)) t693 _ ?side1 ?side2 A74.out).mono ?_); (case side1 => exact B.kc ((Kd.Q_reads' HO_666003.out).2.2)); (case side2 => exact (Kd.Q_reads' HO_666003.out).2.1); rintro e w83 ⟨v694, rfl, ho0, hb⟩; refine ⟨_, rfl, ?_⟩; have n0_ := Aside0.mk (Kd.Q_elder' (B.kq HO_665003) (Kd.R_base ho0) hb); have n1_ := Aside0.mk (Kd.Q_elder' (B.kq HO_666003) (Kd.R_base ho0) hb); have n2_ := Aside0.mk (Kd.Q_elder' (B.kq HO_674003) (Kd.R_base ho0) hb); have n3_ := Aside0.mk (Kd.Q_elder' (B.kq HO_682003) (Kd.R_base ho0) hb); have n4_ := Aside0.mk (Kd.R_lower (Kd.R_new' (Kd.R_new' (Kd.R_new' (Kd.R_new' ho0 (Kd.Q_lt (B.kq HO_665003))) (Kd.Q_lt (B.kq HO_666003))) (Kd.Q_lt (B.kq HO_674003))) (Kd.Q_lt (B.kq HO_682003))) (below_size (B.bl HB))); have n5_ := Aside0.mk (blk_below (B.kb BK664) hb); have n6_ := Aside0.mk (blk_below (B.kb BK665) hb); have n7_ := Aside0.mk (blk_below (B.kb BK673) hb); have n8_ := Aside0.mk (blk_below (B.kb BK681) hb); have n9_ := Aside0.mk (below_step (B.bl HB) hb); clear HO_665003 HO_666003 HO_674003 HO_682003 BK664 BK665 BK673 BK681 HB; have HO_665003 := n0_; have HO_666003 := n1_; have HO_674003 := n2_; have HO_682003 := n3_; have HO695 := n4_; have BK664 := n5_; have BK665 := n6_; have BK673 := n7_; have BK681 := n8_; have HB := n9_; clear n0_ n1_ n2_ n3_ n4_ n5_ n6_ n7_ n8_ n9_; (try clear hb); (try clear hb2); (try clear hk); (try clear hi); (try clear ho0); obtain ⟨Ao84, co84, eo84⟩ := Kd.R_slice HO695.out; subst eo84))
                  (try simp only [Act.put, List.setIfInBounds_toArray, List.set_cons_zero, List.set_cons_succ])
                  go_cut [13] (fun v13 wc => ∃ (kq : Nat) (x13_74 : List Int), Aside0 (laws_FnPasteImage.j3 kq t656 t657 x11_2 x12_3 x13_74 t650 t651 t652 t653 t658 t659 t660 t661 t666 t667 t668 t669 = some r) ∧ Aside0 (kq ≤ k3) ∧ Aside0 (Kd.R (Kd.int .i64) 3 wc w.heap.size (fun k_ => some k_ ≠ ((.slice Ao12 t653.length co12) : Value).ownBlock ∧ some k_ ≠ ((.slice Ao14 t661.length co14) : Value).ownBlock ∧ some k_ ≠ ((.slice Ao20 t669.length co20) : Value).ownBlock ∧ some k_ ≠ ((.slice Ao29 t677.length co29) : Value).ownBlock) v13 x13_74) ∧ Aside0 (Kd.Q (Kd.int .i64) 3 wc w.heap.size (fun k_ => some k_ ≠ (v13 : Value).ownBlock ∧ some k_ ≠ ((.slice Ao14 t661.length co14) : Value).ownBlock ∧ some k_ ≠ ((.slice Ao20 t669.length co20) : Value).ownBlock ∧ some k_ ≠ ((.slice Ao29 t677.length co29) : Value).ownBlock) (.slice Ao12 t653.length co12) t653) ∧ Aside0 (Kd.Q (Kd.int .i64) 3 wc w.heap.size (fun k_ => some k_ ≠ (v13 : Value).ownBlock ∧ some k_ ≠ ((.slice Ao12 t653.length co12) : Value).ownBlock ∧ some k_ ≠ ((.slice Ao20 t669.length co20) : Value).ownBlock ∧ some k_ ≠ ((.slice Ao29 t677.length co29) : Value).ownBlock) (.slice Ao14 t661.length co14) t661) ∧ Aside0 (Kd.Q (Kd.int .i64) 3 wc w.heap.size (fun k_ => some k_ ≠ (v13 : Value).ownBlock ∧ some k_ ≠ ((.slice Ao12 t653.length co12) : Value).ownBlock ∧ some k_ ≠ ((.slice Ao14 t661.length co14) : Value).ownBlock ∧ some k_ ≠ ((.slice Ao29 t677.length co29) : Value).ownBlock) (.slice Ao20 t669.length co20) t669) ∧ Aside0 (Kd.Q (Kd.int .i64) 3 wc w.heap.size (fun k_ => some k_ ≠ (v13 : Value).ownBlock ∧ some k_ ≠ ((.slice Ao12 t653.length co12) : Value).ownBlock ∧ some k_ ≠ ((.slice Ao14 t661.length co14) : Value).ownBlock ∧ some k_ ≠ ((.slice Ao20 t669.length co20) : Value).ownBlock) (.slice Ao29 t677.length co29) t677) ∧ Aside0 (wc.heap[gb664]? = some (.cells #[.int .i64 t650, .int .i64 t651, .int .i64 t652, (.slice Ao12 t653.length co12)] 28 (0, 0))) ∧ Aside0 (wc.heap[gb665]? = some (.cells #[.int .i64 t658, .int .i64 t659, .int .i64 t660, (.slice Ao14 t661.length co14)] 28 (0, 0))) ∧ Aside0 (wc.heap[gb673]? = some (.cells #[.int .i64 t666, .int .i64 t667, .int .i64 t668, (.slice Ao20 t669.length co20)] 28 (0, 0))) ∧ Aside0 (wc.heap[gb681]? = some (.cells #[.int .i64 t674, .int .i64 t675, .int .i64 t676, (.slice Ao29 t677.length co29)] 28 (0, 0))) ∧ Aside0 (Below w.heap.size w wc))
                  case first =>
                    have H := HC75.out
                    clear HC75
                    by_cases c85 : (t693.length : Int) = 0
                    · rw [if_pos c85] at H
                      have c85b0 : ((t693.length : Int) == 0) = true := beq_iff_eq.mpr c85
                      have c85b1 : ((t693.length : Int) != 0) = false := bne_eq_false_iff_eq.mpr c85
                      clear c85
                      (first | rw [c85b0] | (simp only [i64_w, i32_w]; rw [c85b0]) | skip)
                      replace H := Option.bind_eq_some_iff.mp H
                      obtain ⟨t696, A860, H⟩ := H
                      replace H : (laws_FnPasteImage.j3 k3 t656 t657 x11_2 x12_3 t696 t650 t651 t652 t653 t658 t659 t660 t661 t666 t667 t668 t669) = some r := H
                      have A86 := Aside0.mk A860
                      clear A860
                      have H' := Aside0.mk H
                      clear H
                      have hnb87 := NB664_665.out
                      have hnc87 := NB665_664.out
                      have hnb88 := NB664_673.out
                      have hnc88 := NB673_664.out
                      have hnb89 := NB664_681.out
                      have hnc89 := NB681_664.out
                      have hcz90_0 : w83.cell? ⟨gb664, 0, none⟩ = some (.int .i64 t650) := B.bc BK664 0
                      have hcz90_1 : w83.cell? ⟨gb664, 1, none⟩ = some (.int .i64 t651) := B.bc BK664 1
                      have hcz90_2 : w83.cell? ⟨gb664, 2, none⟩ = some (.int .i64 t652) := B.bc BK664 2
                      have hcz90_3 : w83.cell? ⟨gb664, 3, none⟩ = some (.slice Ao12 t653.length co12) := B.bc BK664 3
                      have hfz90_0 := blk_frozen BK664.out 0
                      have hfz90_1 := blk_frozen BK664.out 1
                      have hfz90_2 := blk_frozen BK664.out 2
                      have hfz90_3 := blk_frozen BK664.out 3
                      go_wp2_with (first | ((with_reducible refine gate_callee (f := 20) rfl ?_); refine goesL_ (some 89) rfl rfl Try.func20 (by kernel_rfl) rfl #[.agg #[.int .i64 t650, .int .i64 t651, .int .i64 t652, .slice Ao12 t653.length co12], .int .i64 x12_3, .int .i64 x11_2] rfl B.am ?_; (with_reducible refine (impl_PixelAt.calls t650 t651 t652 _ _ t653 x12_3 x11_2 t696 _ ?side1 ?side2 A86.out).mono ?_); (case side1 => exact B.kc ((Kd.Q_reads' HO_665003.out).2.2)); (case side2 => exact (Kd.Q_reads' HO_665003.out).2.1); rintro e w91 ⟨v697, rfl, ho0, hb⟩; refine ⟨_, rfl, ?_⟩; have n0_ := Aside0.mk (Kd.Q_elder' (B.kq HO_665003) (Kd.R_base ho0) hb); have n1_ := Aside0.mk (Kd.Q_elder' (B.kq HO_666003) (Kd.R_base ho0) hb); have n2_ := Aside0.mk (Kd.Q_elder' (B.kq HO_674003) (Kd.R_base ho0) hb); have n3_ := Aside0.mk (Kd.Q_elder' (B.kq HO_682003) (Kd.R_base ho0) hb); have n4_ := Aside0.mk (Kd.R_elder' (B.kr HO695) (Kd.R_base ho0) hb); have n5_ := Aside0.mk (Kd.R_lower (Kd.R_new' (Kd.R_new' (Kd.R_new' (Kd.R_new' (Kd.R_new' ho0 (Kd.Q_lt (B.kq HO_665003))) (Kd.Q_lt (B.kq HO_666003))) (Kd.Q_lt (B.kq HO_674003))) (Kd.Q_lt (B.kq HO_682003))) (Kd.R_lt (B.kr HO695))) (below_size (B.bl HB))); have n6_ := Aside0.mk (blk_below (B.kb BK664) hb); have n7_ := Aside0.mk (blk_below (B.kb BK665) hb); have n8_ := Aside0.mk (blk_below (B.kb BK673) hb); have n9_ := Aside0.mk (blk_below (B.kb BK681) hb); have n10_ := Aside0.mk (below_step (B.bl HB) hb); clear HO_665003 HO_666003 HO_674003 HO_682003 HO695 BK664 BK665 BK673 BK681 HB; have HO_665003 := n0_; have HO_666003 := n1_; have HO_674003 := n2_; have HO_682003 := n3_; have HO695 := n4_; have HO698 := n5_; have BK664 := n6_; have BK665 := n7_; have BK673 := n8_; have BK681 := n9_; have HB := n10_; clear n0_ n1_ n2_ n3_ n4_ n5_ n6_ n7_ n8_ n9_ n10_; (try clear hb); (try clear hb2); (try clear hk); (try clear hi); (try clear ho0)))
                      go_meet
                      case rel => exact ⟨_, (t696), H', ⟨by have := HJ5.out; have := HK2.out; have := HK3.out; first | omega | exact Nat.le_refl _⟩, ⟨B.kr0 (Kd.R_mono HO698.out (fun _ hk => ⟨hk.1.1.1.1.2, ⟨hk.1.1.1.2, ⟨hk.1.1.2, hk.1.2⟩⟩⟩))⟩, ⟨by (with_reducible repeat (first | apply Kd.Q_alloc | apply Kd.Q_drewN | apply Kd.Q_drew)); exact Kd.Q_mono HO_665003.out (fun _ hk => ⟨hk.2, ⟨hk.1.1.1, ⟨hk.1.1.2.1, hk.1.1.2.2⟩⟩⟩)⟩, ⟨by (with_reducible repeat (first | apply Kd.Q_alloc | apply Kd.Q_drewN | apply Kd.Q_drew)); exact Kd.Q_mono HO_666003.out (fun _ hk => ⟨hk.2, ⟨hk.1.1.1, ⟨hk.1.1.2.1, hk.1.1.2.2⟩⟩⟩)⟩, ⟨by (with_reducible repeat (first | apply Kd.Q_alloc | apply Kd.Q_drewN | apply Kd.Q_drew)); exact Kd.Q_mono HO_674003.out (fun _ hk => ⟨hk.2, ⟨hk.1.1.1, ⟨hk.1.1.2.1, hk.1.1.2.2⟩⟩⟩)⟩, ⟨by (with_reducible repeat (first | apply Kd.Q_alloc | apply Kd.Q_drewN | apply Kd.Q_drew)); exact Kd.Q_mono HO_682003.out (fun _ hk => ⟨hk.2, ⟨hk.1.1.1, ⟨hk.1.1.2.1, hk.1.1.2.2⟩⟩⟩)⟩, ⟨B.kb BK664⟩, ⟨B.kb BK665⟩, ⟨B.kb BK673⟩, ⟨B.kb BK681⟩, ⟨B.bl HB⟩⟩
                    rw [if_neg c85] at H
                    have c85b0 : ((t693.length : Int) == 0) = false := beq_eq_false_iff_ne.mpr c85
                    have c85b1 : ((t693.length : Int) != 0) = true := bne_iff_ne.mpr c85
                    have c85b2 : ¬ (t693 = []) := fun h_ => c85 (by rw [h_]; rfl)
                    (first | rw [c85b0] | (simp only [i64_w, i32_w]; rw [c85b0]) | skip)
                    have H' := Aside0.mk H
                    clear H
                    go_wp2
                    go_meet
                    case rel => exact ⟨_, (t693), H', ⟨by have := HJ5.out; have := HK2.out; have := HK3.out; first | omega | exact Nat.le_refl _⟩, ⟨B.kr0 (Kd.R_mono HO695.out (fun _ hk => ⟨hk.1.1.1.2, ⟨hk.1.1.2, ⟨hk.1.2, hk.2⟩⟩⟩))⟩, ⟨by (with_reducible repeat (first | apply Kd.Q_alloc | apply Kd.Q_drewN | apply Kd.Q_drew)); exact Kd.Q_mono HO_665003.out (fun _ hk => ⟨hk.2, ⟨hk.1.1, ⟨hk.1.2.1, hk.1.2.2⟩⟩⟩)⟩, ⟨by (with_reducible repeat (first | apply Kd.Q_alloc | apply Kd.Q_drewN | apply Kd.Q_drew)); exact Kd.Q_mono HO_666003.out (fun _ hk => ⟨hk.2, ⟨hk.1.1, ⟨hk.1.2.1, hk.1.2.2⟩⟩⟩)⟩, ⟨by (with_reducible repeat (first | apply Kd.Q_alloc | apply Kd.Q_drewN | apply Kd.Q_drew)); exact Kd.Q_mono HO_674003.out (fun _ hk => ⟨hk.2, ⟨hk.1.1, ⟨hk.1.2.1, hk.1.2.2⟩⟩⟩)⟩, ⟨by (with_reducible repeat (first | apply Kd.Q_alloc | apply Kd.Q_drewN | apply Kd.Q_drew)); exact Kd.Q_mono HO_682003.out (fun _ hk => ⟨hk.2, ⟨hk.1.1, ⟨hk.1.2.1, hk.1.2.2⟩⟩⟩)⟩, ⟨B.kb BK664⟩, ⟨B.kb BK665⟩, ⟨B.kb BK673⟩, ⟨B.kb BK681⟩, ⟨B.bl HB⟩⟩
                  case rest =>
                    clear HC75
                    try clear c1
                    try clear c2
                    try clear c2b0
                    try clear c2b1
                    try clear p2
                    try clear c3
                    try clear c4
                    try clear c5
                    try clear c6
                    try clear p6
                    try clear c7
                    try clear c8
                    try clear c10
                    try clear c17
                    try clear c18
                    try clear c20
                    try clear c21
                    try clear c22
                    try clear c25
                    try clear c26
                    try clear c27
                    try clear c31
                    try clear c32
                    try clear c32b0
                    try clear c32b1
                    try clear c32b2
                    try clear c33
                    try clear c34
                    try clear c35
                    try clear c37
                    try clear c38
                    try clear c41
                    try clear c42
                    try clear c43
                    try clear c45
                    try clear c46
                    try clear c49
                    try clear c50
                    try clear c51
                    try clear c53
                    try clear c54
                    try clear c57
                    try clear c59
                    try clear c60
                    try clear c61
                    try clear c62
                    try clear c64
                    try clear p64
                    try clear c65
                    try clear c68
                    try clear c68b0
                    try clear c69
                    try clear c70
                    try clear c71
                    try clear c73
                    try clear c73b0
                    try clear c76
                    try clear c77
                    try clear c78
                    try clear c80
                    try clear c81
                    try clear c85
                    try clear c85b0
                    try clear c85b1
                    try clear c85b2
                    try clear c87
                    try clear c88
                    try clear c89
                    try clear hcz11_0
                    try clear hcz11_1
                    try clear hcz11_2
                    try clear hcz11_3
                    try clear hcz13_0
                    try clear hcz13_1
                    try clear hcz13_2
                    try clear hcz13_3
                    try clear hcz19_0
                    try clear hcz19_1
                    try clear hcz19_2
                    try clear hcz19_3
                    try clear hcz21_0
                    try clear hcz21_1
                    try clear hcz21_2
                    try clear hcz21_3
                    try clear hcz22_0
                    try clear hcz22_1
                    try clear hcz22_2
                    try clear hcz22_3
                    try clear hcz28_0
                    try clear hcz28_1
                    try clear hcz28_2
                    try clear hcz28_3
                    try clear hcz36_0
                    try clear hcz36_1
                    try clear hcz36_2
                    try clear hcz36_3
                    try clear hcz39_0
                    try clear hcz39_1
                    try clear hcz39_2
                    try clear hcz39_3
                    try clear hcz44_0
                    try clear hcz44_1
                    try clear hcz44_2
                    try clear hcz44_3
                    try clear hcz47_0
                    try clear hcz47_1
                    try clear hcz47_2
                    try clear hcz47_3
                    try clear hcz52_0
                    try clear hcz52_1
                    try clear hcz52_2
                    try clear hcz52_3
                    try clear hcz55_0
                    try clear hcz55_1
                    try clear hcz55_2
                    try clear hcz55_3
                    try clear hcz63_0
                    try clear hcz63_1
                    try clear hcz63_2
                    try clear hcz63_3
                    try clear hcz66_0
                    try clear hcz66_1
                    try clear hcz66_2
                    try clear hcz66_3
                    try clear hcz72_0
                    try clear hcz72_1
                    try clear hcz72_2
                    try clear hcz72_3
                    try clear hcz79_0
                    try clear hcz79_1
                    try clear hcz79_2
                    try clear hcz79_3
                    try clear hcz82_0
                    try clear hcz82_1
                    try clear hcz82_2
                    try clear hcz82_3
                    try clear hcz90_0
                    try clear hcz90_1
                    try clear hcz90_2
                    try clear hcz90_3
                    try clear hfz11_0
                    try clear hfz11_1
                    try clear hfz11_2
                    try clear hfz11_3
                    try clear hfz13_0
                    try clear hfz13_1
                    try clear hfz13_2
                    try clear hfz13_3
                    try clear hfz19_0
                    try clear hfz19_1
                    try clear hfz19_2
                    try clear hfz19_3
                    try clear hfz21_0
                    try clear hfz21_1
                    try clear hfz21_2
                    try clear hfz21_3
                    try clear hfz22_0
                    try clear hfz22_1
                    try clear hfz22_2
                    try clear hfz22_3
                    try clear hfz28_0
                    try clear hfz28_1
                    try clear hfz28_2
                    try clear hfz28_3
                    try clear hfz36_0
                    try clear hfz36_1
                    try clear hfz36_2
                    try clear hfz36_3
                    try clear hfz39_0
                    try clear hfz39_1
                    try clear hfz39_2
                    try clear hfz39_3
                    try clear hfz44_0
                    try clear hfz44_1
                    try clear hfz44_2
                    try clear hfz44_3
                    try clear hfz47_0
                    try clear hfz47_1
                    try clear hfz47_2
                    try clear hfz47_3
                    try clear hfz52_0
                    try clear hfz52_1
                    try clear hfz52_2
                    try clear hfz52_3
                    try clear hfz55_0
                    try clear hfz55_1
                    try clear hfz55_2
                    try clear hfz55_3
                    try clear hfz63_0
                    try clear hfz63_1
                    try clear hfz63_2
                    try clear hfz63_3
                    try clear hfz66_0
                    try clear hfz66_1
                    try clear hfz66_2
                    try clear hfz66_3
                    try clear hfz72_0
                    try clear hfz72_1
                    try clear hfz72_2
                    try clear hfz72_3
                    try clear hfz79_0
                    try clear hfz79_1
                    try clear hfz79_2
                    try clear hfz79_3
                    try clear hfz82_0
                    try clear hfz82_1
                    try clear hfz82_2
                    try clear hfz82_3
                    try clear hfz90_0
                    try clear hfz90_1
                    try clear hfz90_2
                    try clear hfz90_3
                    try clear p2
                    obtain ⟨kq, x13_74, HA, HJ74, HO_13, HO_665003, HO_666003, HO_674003, HO_682003, BK664, BK665, BK673, BK681, HB⟩ := hcut
                    cases kq with
                    | zero => exact absurd HA.out (by simp [laws_FnPasteImage.j3])
                    | succ kj74 =>
                      have H := HA.out
                      clear HA
                      simp only [laws_FnPasteImage.j3] at H
                      replace H := Option.bind_eq_some_iff.mp H
                      obtain ⟨t699, A920, H⟩ := H
                      replace H : ((laws_equalInts.f kj74 t699 x13_74).bind fun t702 => (if t702 = true then (laws_FnPasteImage.l1 kj74 t656 t657 x11_2 (wrap64 (x12_3 + 1)) t650 t651 t652 t653 t658 t659 t660 t661 t666 t667 t668 t669) else (some false))) = some r := H
                      have A92 := Aside0.mk A920
                      clear A920
                      replace H := Option.bind_eq_some_iff.mp H
                      obtain ⟨t702, A930, H⟩ := H
                      replace H : (if t702 = true then (laws_FnPasteImage.l1 kj74 t656 t657 x11_2 (wrap64 (x12_3 + 1)) t650 t651 t652 t653 t658 t659 t660 t661 t666 t667 t668 t669) else (some false)) = some r := H
                      have A93 := Aside0.mk A930
                      clear A930
                      by_cases c94 : t702 = true
                      · subst c94
                        have H1 : (laws_FnPasteImage.l1 kj74 t656 t657 x11_2 (wrap64 (x12_3 + 1)) t650 t651 t652 t653 t658 t659 t660 t661 t666 t667 t668 t669) = some r := by rw [if_pos rfl] at H; exact H
                        clear H
                        have H := H1
                        clear H1
                        have H' := Aside0.mk H
                        clear H
                        have hnb95 := NB673_664.out
                        have hnc95 := NB664_673.out
                        have hnb96 := NB673_665.out
                        have hnc96 := NB665_673.out
                        have hnb97 := NB673_681.out
                        have hnc97 := NB681_673.out
                        have hcz98_0 : wc.cell? ⟨gb673, 0, none⟩ = some (.int .i64 t666) := B.bc BK673 0
                        have hcz98_1 : wc.cell? ⟨gb673, 1, none⟩ = some (.int .i64 t667) := B.bc BK673 1
                        have hcz98_2 : wc.cell? ⟨gb673, 2, none⟩ = some (.int .i64 t668) := B.bc BK673 2
                        have hcz98_3 : wc.cell? ⟨gb673, 3, none⟩ = some (.slice Ao20 t669.length co20) := B.bc BK673 3
                        have hfz98_0 := blk_frozen BK673.out 0
                        have hfz98_1 := blk_frozen BK673.out 1
                        have hfz98_2 := blk_frozen BK673.out 2
                        have hfz98_3 := blk_frozen BK673.out 3
                        go_wp2_with (first | ((with_reducible refine gate_callee (f := 20) rfl ?_); refine goesL_ (some 93) rfl rfl Try.func20 (by kernel_rfl) rfl #[.agg #[.int .i64 t666, .int .i64 t667, .int .i64 t668, .slice Ao20 t669.length co20], .int .i64 x12_3, .int .i64 x11_2] rfl B.am ?_; (with_reducible refine (impl_PixelAt.calls t666 t667 t668 _ _ t669 x12_3 x11_2 t699 _ ?side1 ?side2 A92.out).mono ?_); (case side1 => exact B.kc ((Kd.Q_reads' HO_674003.out).2.2)); (case side2 => exact (Kd.Q_reads' HO_674003.out).2.1); rintro e w99 ⟨v700, rfl, ho0, hb⟩; refine ⟨_, rfl, ?_⟩; have n0_ := Aside0.mk (Kd.R_elder' (B.kr HO_13) (Kd.R_base ho0) hb); have n1_ := Aside0.mk (Kd.Q_elder' (B.kq HO_665003) (Kd.R_base ho0) hb); have n2_ := Aside0.mk (Kd.Q_elder' (B.kq HO_666003) (Kd.R_base ho0) hb); have n3_ := Aside0.mk (Kd.Q_elder' (B.kq HO_674003) (Kd.R_base ho0) hb); have n4_ := Aside0.mk (Kd.Q_elder' (B.kq HO_682003) (Kd.R_base ho0) hb); have n5_ := Aside0.mk (Kd.R_lower (Kd.R_new' (Kd.R_new' (Kd.R_new' (Kd.R_new' (Kd.R_new' ho0 (Kd.R_lt (B.kr HO_13))) (Kd.Q_lt (B.kq HO_665003))) (Kd.Q_lt (B.kq HO_666003))) (Kd.Q_lt (B.kq HO_674003))) (Kd.Q_lt (B.kq HO_682003))) (below_size (B.bl HB))); have n6_ := Aside0.mk (blk_below (B.kb BK664) hb); have n7_ := Aside0.mk (blk_below (B.kb BK665) hb); have n8_ := Aside0.mk (blk_below (B.kb BK673) hb); have n9_ := Aside0.mk (blk_below (B.kb BK681) hb); have n10_ := Aside0.mk (below_step (B.bl HB) hb); clear HO_13 HO_665003 HO_666003 HO_674003 HO_682003 BK664 BK665 BK673 BK681 HB; have HO_13 := n0_; have HO_665003 := n1_; have HO_666003 := n2_; have HO_674003 := n3_; have HO_682003 := n4_; have HO701 := n5_; have BK664 := n6_; have BK665 := n7_; have BK673 := n8_; have BK681 := n9_; have HB := n10_; clear n0_ n1_ n2_ n3_ n4_ n5_ n6_ n7_ n8_ n9_ n10_; (try clear hb); (try clear hb2); (try clear hk); (try clear hi); (try clear ho0); obtain ⟨Ao100, co100, eo100⟩ := Kd.R_slice HO701.out; subst eo100; obtain ⟨Ao101, co101, eo101⟩ := Kd.R_slice HO_13.out; subst eo101) | ((with_reducible refine gate_callee (f := 19) rfl ?_); refine goesL_ (some 95) rfl rfl Try.func19 (by kernel_rfl) rfl #[.slice Ao100 t699.length co100, .slice Ao101 x13_74.length co101] rfl B.am ?_; (with_reducible refine (laws_equalInts.calls kj74 _ _ t699 _ _ x13_74 true _ ?side1 ?side2 ?side3 ?side4 A93.out).mono ?_); (case side1 => exact B.kc ((Kd.R_reads' HO701.out).2.2)); (case side2 => exact (Kd.R_reads' HO701.out).2.1); (case side3 => exact B.kc ((Kd.R_reads' HO_13.out).2.2)); (case side4 => exact (Kd.R_reads' HO_13.out).2.1); rintro e w' ⟨rfl, ⟨nd, rfl⟩⟩; refine ⟨_, rfl, ?_⟩))
                        go_roundg kj74
                        case measure => have := HJ5.out; have := HK2.out; have := HK3.out; have := HJ74.out; omega
                        case rel => exact ⟨(wrap64 (x12_3 + 1)), (by first | rfl | (simp; done) | (simp [*]; done)), H', ⟨by have := HJ5.out; have := HK2.out; have := HK3.out; have := HJ74.out; omega⟩, ⟨by (with_reducible repeat (first | apply Kd.Q_alloc | apply Kd.Q_drewN | apply Kd.Q_drew)); exact Kd.Q_mono HO_665003.out (fun _ hk => ⟨hk.1.2.1, ⟨hk.1.2.2.1, hk.1.2.2.2⟩⟩)⟩, ⟨by (with_reducible repeat (first | apply Kd.Q_alloc | apply Kd.Q_drewN | apply Kd.Q_drew)); exact Kd.Q_mono HO_666003.out (fun _ hk => ⟨hk.1.2.1, ⟨hk.1.2.2.1, hk.1.2.2.2⟩⟩)⟩, ⟨by (with_reducible repeat (first | apply Kd.Q_alloc | apply Kd.Q_drewN | apply Kd.Q_drew)); exact Kd.Q_mono HO_674003.out (fun _ hk => ⟨hk.1.2.1, ⟨hk.1.2.2.1, hk.1.2.2.2⟩⟩)⟩, ⟨by (with_reducible repeat (first | apply Kd.Q_alloc | apply Kd.Q_drewN | apply Kd.Q_drew)); exact Kd.Q_mono HO_682003.out (fun _ hk => ⟨hk.1.2.1, ⟨hk.1.2.2.1, hk.1.2.2.2⟩⟩)⟩, ⟨B.kb BK664⟩, ⟨B.kb BK665⟩, ⟨B.kb BK673⟩, ⟨B.kb BK681⟩, ⟨B.bl HB⟩⟩
                      replace c94 := Bool.eq_false_iff.mpr c94
                      subst c94
                      have H1 : (some false) = some r := by rw [if_neg (show ¬ (false = true) by decide)] at H; exact H
                      clear H
                      have H := H1
                      clear H1
                      obtain rfl := Option.some.inj H
                      exact absurd ht_.out (by decide)
                rw [if_neg c73] at H
                have c73b0 : decide (x12_3 < t650) = false := decide_eq_false c73
                clear c73
                have H' := Aside0.mk H
                clear H
                have hnb102 := NB664_665.out
                have hnc102 := NB665_664.out
                have hnb103 := NB664_673.out
                have hnc103 := NB673_664.out
                have hnb104 := NB664_681.out
                have hnc104 := NB681_664.out
                have hcz105_0 : wr.cell? ⟨gb664, 0, none⟩ = some (.int .i64 t650) := B.bc BK664 0
                have hcz105_1 : wr.cell? ⟨gb664, 1, none⟩ = some (.int .i64 t651) := B.bc BK664 1
                have hcz105_2 : wr.cell? ⟨gb664, 2, none⟩ = some (.int .i64 t652) := B.bc BK664 2
                have hcz105_3 : wr.cell? ⟨gb664, 3, none⟩ = some (.slice Ao12 t653.length co12) := B.bc BK664 3
                have hfz105_0 := blk_frozen BK664.out 0
                have hfz105_1 := blk_frozen BK664.out 1
                have hfz105_2 := blk_frozen BK664.out 2
                have hfz105_3 := blk_frozen BK664.out 3
                go_wp2
                go_roundg k3
                case measure => have := HJ5.out; have := HK2.out; have := HK3.out; omega
                case rel => exact ⟨(wrap64 (x11_2 + 1)), (by first | rfl | (simp; done) | (simp [*]; done)), H', ⟨by have := HJ5.out; have := HK2.out; have := HK3.out; omega⟩, ⟨by (with_reducible repeat (first | apply Kd.Q_alloc | apply Kd.Q_drewN | apply Kd.Q_drew)); exact HO_665003.out⟩, ⟨by (with_reducible repeat (first | apply Kd.Q_alloc | apply Kd.Q_drewN | apply Kd.Q_drew)); exact HO_666003.out⟩, ⟨by (with_reducible repeat (first | apply Kd.Q_alloc | apply Kd.Q_drewN | apply Kd.Q_drew)); exact HO_674003.out⟩, ⟨by (with_reducible repeat (first | apply Kd.Q_alloc | apply Kd.Q_drewN | apply Kd.Q_drew)); exact HO_682003.out⟩, ⟨B.kb BK664⟩, ⟨B.kb BK665⟩, ⟨B.kb BK673⟩, ⟨B.kb BK681⟩, ⟨B.bl HB⟩⟩
          rw [if_neg c68] at H
          have c68b0 : decide (x11_2 < t651) = false := decide_eq_false c68
          clear c68
          replace H := Option.bind_eq_some_iff.mp H
          obtain ⟨⟨t684, t685, t686, t687, t690⟩, A1060, H⟩ := H
          replace H : (if t690 = true then ((laws_equalImage.f k2 t684 t685 t686 t687 t666 t667 t668 t669).bind fun t692 => (some t692)) else (some false)) = some r := H
          have A106 := Aside0.mk A1060
          clear A1060
          by_cases c107 : t690 = true
          · subst c107
            have H1 : ((laws_equalImage.f k2 t684 t685 t686 t687 t666 t667 t668 t669).bind fun t692 => (some t692)) = some r := by rw [if_pos rfl] at H; exact H
            clear H
            have H := H1
            clear H1
            replace H := Option.bind_eq_some_iff.mp H
            obtain ⟨t692, A1080, H⟩ := H
            replace H : (some t692) = some r := H
            have A108 := Aside0.mk A1080
            clear A1080
            obtain rfl := Option.some.inj H
            simp only [Option.some.injEq, Prod.mk.injEq] at H
            obtain ⟨rfl⟩ := H
            have hnb109 := NB664_665.out
            have hnc109 := NB665_664.out
            have hnb110 := NB664_673.out
            have hnc110 := NB673_664.out
            have hnb111 := NB664_681.out
            have hnc111 := NB681_664.out
            have hcz112_0 : wr.cell? ⟨gb664, 0, none⟩ = some (.int .i64 t650) := B.bc BK664 0
            have hcz112_1 : wr.cell? ⟨gb664, 1, none⟩ = some (.int .i64 t651) := B.bc BK664 1
            have hcz112_2 : wr.cell? ⟨gb664, 2, none⟩ = some (.int .i64 t652) := B.bc BK664 2
            have hcz112_3 : wr.cell? ⟨gb664, 3, none⟩ = some (.slice Ao12 t653.length co12) := B.bc BK664 3
            have hfz112_0 := blk_frozen BK664.out 0
            have hfz112_1 := blk_frozen BK664.out 1
            have hfz112_2 := blk_frozen BK664.out 2
            have hfz112_3 := blk_frozen BK664.out 3
            have hnb113 := NB673_665.out
            have hnc113 := NB665_673.out
            have hnb114 := NB673_681.out
            have hnc114 := NB681_673.out
            have hcz115_0 : wr.cell? ⟨gb673, 0, none⟩ = some (.int .i64 t666) := B.bc BK673 0
            have hcz115_1 : wr.cell? ⟨gb673, 1, none⟩ = some (.int .i64 t667) := B.bc BK673 1
            have hcz115_2 : wr.cell? ⟨gb673, 2, none⟩ = some (.int .i64 t668) := B.bc BK673 2
            have hcz115_3 : wr.cell? ⟨gb673, 3, none⟩ = some (.slice Ao20 t669.length co20) := B.bc BK673 3
            have hfz115_0 := blk_frozen BK673.out 0
            have hfz115_1 := blk_frozen BK673.out 1
            have hfz115_2 := blk_frozen BK673.out 2
            have hfz115_3 := blk_frozen BK673.out 3
            have hnb116 := NB665_681.out
            have hnc116 := NB681_665.out
            have hcz117_0 : wr.cell? ⟨gb665, 0, none⟩ = some (.int .i64 t658) := B.bc BK665 0
            have hcz117_1 : wr.cell? ⟨gb665, 1, none⟩ = some (.int .i64 t659) := B.bc BK665 1
            have hcz117_2 : wr.cell? ⟨gb665, 2, none⟩ = some (.int .i64 t660) := B.bc BK665 2
            have hcz117_3 : wr.cell? ⟨gb665, 3, none⟩ = some (.slice Ao14 t661.length co14) := B.bc BK665 3
            have hfz117_0 := blk_frozen BK665.out 0
            have hfz117_1 := blk_frozen BK665.out 1
            have hfz117_2 := blk_frozen BK665.out 2
            have hfz117_3 := blk_frozen BK665.out 3
            go_wp2_with (first | ((with_reducible refine gate_callee (f := 18) rfl ?_); refine goesL_ (some 102) rfl rfl Try.func18 (by kernel_rfl) rfl #[.agg #[.int .i64 t666, .int .i64 t667, .int .i64 t668, .slice Ao20 t669.length co20], .int .i64 t656, .int .i64 t657, .agg #[.int .i64 t658, .int .i64 t659, .int .i64 t660, .slice Ao14 t661.length co14]] rfl B.am ?_; (with_reducible refine (impl_PasteImage.calls t666 t667 t668 _ _ t669 t656 t657 t658 t659 t660 _ _ t661 t684 t685 t686 t687 true _ ?side1 ?side2 ?side3 ?side4 A106.out).mono ?_); (case side1 => exact B.kc ((Kd.Q_reads' HO_674003.out).2.2)); (case side2 => exact (Kd.Q_reads' HO_674003.out).2.1); (case side3 => exact B.kc ((Kd.Q_reads' HO_666003.out).2.2)); (case side4 => exact (Kd.Q_reads' HO_666003.out).2.1); rintro e w118 ⟨v688, rfl, ho0, hb⟩; refine ⟨_, rfl, ?_⟩; have n0_ := Aside0.mk (Kd.Q_elder' (B.kq HO_665003) (Kd.R_base ho0) hb); have n1_ := Aside0.mk (Kd.Q_elder' (B.kq HO_666003) (Kd.R_base ho0) hb); have n2_ := Aside0.mk (Kd.Q_elder' (B.kq HO_674003) (Kd.R_base ho0) hb); have n3_ := Aside0.mk (Kd.Q_elder' (B.kq HO_682003) (Kd.R_base ho0) hb); have n4_ := Aside0.mk (Kd.R_lower (Kd.R_new' (Kd.R_new' (Kd.R_new' (Kd.R_new' ho0 (Kd.Q_lt (B.kq HO_665003))) (Kd.Q_lt (B.kq HO_666003))) (Kd.Q_lt (B.kq HO_674003))) (Kd.Q_lt (B.kq HO_682003))) (below_size (B.bl HB))); have n5_ := Aside0.mk (blk_below (B.kb BK664) hb); have n6_ := Aside0.mk (blk_below (B.kb BK665) hb); have n7_ := Aside0.mk (blk_below (B.kb BK673) hb); have n8_ := Aside0.mk (blk_below (B.kb BK681) hb); have n9_ := Aside0.mk (below_step (B.bl HB) hb); clear HO_665003 HO_666003 HO_674003 HO_682003 BK664 BK665 BK673 BK681 HB; have HO_665003 := n0_; have HO_666003 := n1_; have HO_674003 := n2_; have HO_682003 := n3_; have HO689 := n4_; have BK664 := n5_; have BK665 := n6_; have BK673 := n7_; have BK681 := n8_; have HB := n9_; clear n0_ n1_ n2_ n3_ n4_ n5_ n6_ n7_ n8_ n9_; (try clear hb); (try clear hb2); (try clear hk); (try clear hi); (try clear ho0)) | ((with_reducible refine gate_dst (N := 14) rfl ?_); refine box_event ?hg (N := 14) ?hd (cs := #[.int .i64 0, .int .i64 0, .int .i64 0, .slice none 0 0]) (t := 28) ?hr ?_; (case hd => rfl); (case hg => rfl); (case hr => first | (go_simp; done) | (go_simp; rfl)); intro gb691 hg w119 hbox hb; have n0_ := Aside0.mk (Kd.Q_below (B.kq HO_665003) hb); have n1_ := Aside0.mk (Kd.Q_below (B.kq HO_666003) hb); have n2_ := Aside0.mk (Kd.Q_below (B.kq HO_674003) hb); have n3_ := Aside0.mk (Kd.Q_below (B.kq HO_682003) hb); have n4_ := Aside0.mk (Kd.R_below (B.kr HO689) hb); have n5_ := Aside0.mk (blk_below (B.kb BK664) hb); have n6_ := Aside0.mk (blk_below (B.kb BK665) hb); have n7_ := Aside0.mk (blk_below (B.kb BK673) hb); have n8_ := Aside0.mk (blk_below (B.kb BK681) hb); have n9_ := Aside0.mk (below_step (B.bl HB) hb); have n10_ := Aside0.mk (hbox); have n11_ := Aside0.mk (B.nle hg (below_size (B.bl HB))); have n12_ := Aside0.mk (B.nle hg (below_size (B.bl HB))); have n13_ := Aside0.mk (B.nlt hg (blk_lt (B.kb BK664))); have n14_ := Aside0.mk (B.ngt hg (blk_lt (B.kb BK664))); have n15_ := Aside0.mk (B.nlt hg (blk_lt (B.kb BK665))); have n16_ := Aside0.mk (B.ngt hg (blk_lt (B.kb BK665))); have n17_ := Aside0.mk (B.nlt hg (blk_lt (B.kb BK673))); have n18_ := Aside0.mk (B.ngt hg (blk_lt (B.kb BK673))); have n19_ := Aside0.mk (B.nlt hg (blk_lt (B.kb BK681))); have n20_ := Aside0.mk (B.ngt hg (blk_lt (B.kb BK681))); clear HO_665003 HO_666003 HO_674003 HO_682003 HO689 BK664 BK665 BK673 BK681 HB; have HO_665003 := n0_; have HO_666003 := n1_; have HO_674003 := n2_; have HO_682003 := n3_; have HO689 := n4_; have BK664 := n5_; have BK665 := n6_; have BK673 := n7_; have BK681 := n8_; have HB := n9_; have BK691 := n10_; have GW691 := n11_; have GE691 := n12_; have NB664_691 := n13_; have NB691_664 := n14_; have NB665_691 := n15_; have NB691_665 := n16_; have NB673_691 := n17_; have NB691_673 := n18_; have NB681_691 := n19_; have NB691_681 := n20_; clear n0_ n1_ n2_ n3_ n4_ n5_ n6_ n7_ n8_ n9_ n10_ n11_ n12_ n13_ n14_ n15_ n16_ n17_ n18_ n19_ n20_; clear hb hbox hg; have hnb120 := NB691_664.out; have hnc120 := NB664_691.out; have hnb121 := NB691_665.out; have hnc121 := NB665_691.out; have hnb122 := NB691_673.out; have hnc122 := NB673_691.out; have hnb123 := NB691_681.out; have hnc123 := NB681_691.out; have hcz124_0 : w119.cell? ⟨gb691, 0, none⟩ = some (.int .i64 0) := B.bc BK691 0; have hcz124_1 : w119.cell? ⟨gb691, 1, none⟩ = some (.int .i64 0) := B.bc BK691 1; have hcz124_2 : w119.cell? ⟨gb691, 2, none⟩ = some (.int .i64 0) := B.bc BK691 2; have hcz124_3 : w119.cell? ⟨gb691, 3, none⟩ = some (.slice none 0 0) := B.bc BK691 3; have hfz124_0 := blk_frozen BK691.out 0; have hfz124_1 := blk_frozen BK691.out 1; have hfz124_2 := blk_frozen BK691.out 2; have hfz124_3 := blk_frozen BK691.out 3; obtain ⟨Ao125, co125, eo125⟩ := Kd.R_slice HO689.out; subst eo125; have hcz126_0 : w119.cell? ⟨gb673, 0, none⟩ = some (.int .i64 t666) := B.bc BK673 0; have hcz126_1 : w119.cell? ⟨gb673, 1, none⟩ = some (.int .i64 t667) := B.bc BK673 1; have hcz126_2 : w119.cell? ⟨gb673, 2, none⟩ = some (.int .i64 t668) := B.bc BK673 2; have hcz126_3 : w119.cell? ⟨gb673, 3, none⟩ = some (.slice Ao20 t669.length co20) := B.bc BK673 3; have hfz126_0 := blk_frozen BK673.out 0; have hfz126_1 := blk_frozen BK673.out 1; have hfz126_2 := blk_frozen BK673.out 2; have hfz126_3 := blk_frozen BK673.out 3) | (go_at_call 17; (with_reducible refine (laws_equalImage.calls k2 t684 t685 t686 _ _ t687 t666 t667 t668 _ _ t669 t692 _ ?side1 ?side2 ?side3 ?side4 A108.out).mono ?_); (case side1 => refine (Kd.R_reads' (e := 3) (base := w.heap.size) (ok := fun k_ => ((((True ∧ some k_ ≠ (.slice Ao12 t653.length co12 : Value).ownBlock) ∧ some k_ ≠ (.slice Ao14 t661.length co14 : Value).ownBlock) ∧ some k_ ≠ (.slice Ao20 t669.length co20 : Value).ownBlock) ∧ some k_ ≠ (.slice Ao29 t677.length co29 : Value).ownBlock)) (n := t687.length) (c := co125) ?_).2.2; exact (B.kr0 (B.rs4 HO689 BK691))); (case side2 => exact (Kd.R_reads' HO689.out).2.1); (case side3 => refine (Kd.Q_reads' (e := 3) (base := w.heap.size) (ok := fun k_ => ((some k_ ≠ (.slice Ao12 t653.length co12 : Value).ownBlock ∧ (some k_ ≠ (.slice Ao14 t661.length co14 : Value).ownBlock ∧ some k_ ≠ (.slice Ao29 t677.length co29 : Value).ownBlock)) ∧ some k_ ≠ (.slice Ao125 t687.length co125 : Value).ownBlock)) (n := t669.length) (c := co20) ?_).2.2; exact (by (with_reducible repeat (first | apply Kd.Q_alloc | apply Kd.Q_drewN | apply Kd.Q_drew)); exact (Kd.Q_mono (Kd.Q_far (p := ⟨gb691, 3, none⟩) (Kd.Q_far (p := ⟨gb691, 2, none⟩) (Kd.Q_far (p := ⟨gb691, 1, none⟩) (Kd.Q_far (p := ⟨gb691, 0, none⟩) (Kd.Q_types HO_674003.out BK691.out (by decide)) (fun _ hk => hk.2) (.int .i64 t684)) (fun _ hk => hk.2) (.int .i64 t685)) (fun _ hk => hk.2) (.int .i64 t686)) (fun _ hk => hk.2) (.slice Ao125 t687.length co125)) (fun _ h_ => h_.1)))); (case side4 => exact (Kd.Q_reads' HO_674003.out).2.1); rintro e w127 ⟨rfl, hb⟩; have n0_ := Aside0.mk (Kd.Q_below (by (with_reducible repeat (first | apply Kd.Q_alloc | apply Kd.Q_drewN | apply Kd.Q_drew)); exact (Kd.Q_mono (Kd.Q_far (p := ⟨gb691, 3, none⟩) (Kd.Q_far (p := ⟨gb691, 2, none⟩) (Kd.Q_far (p := ⟨gb691, 1, none⟩) (Kd.Q_far (p := ⟨gb691, 0, none⟩) (Kd.Q_types HO_665003.out BK691.out (by decide)) (fun _ hk => hk.2) (.int .i64 t684)) (fun _ hk => hk.2) (.int .i64 t685)) (fun _ hk => hk.2) (.int .i64 t686)) (fun _ hk => hk.2) (.slice Ao125 t687.length co125)) (fun _ h_ => h_.1))) hb); have n1_ := Aside0.mk (Kd.Q_below (by (with_reducible repeat (first | apply Kd.Q_alloc | apply Kd.Q_drewN | apply Kd.Q_drew)); exact (Kd.Q_mono (Kd.Q_far (p := ⟨gb691, 3, none⟩) (Kd.Q_far (p := ⟨gb691, 2, none⟩) (Kd.Q_far (p := ⟨gb691, 1, none⟩) (Kd.Q_far (p := ⟨gb691, 0, none⟩) (Kd.Q_types HO_666003.out BK691.out (by decide)) (fun _ hk => hk.2) (.int .i64 t684)) (fun _ hk => hk.2) (.int .i64 t685)) (fun _ hk => hk.2) (.int .i64 t686)) (fun _ hk => hk.2) (.slice Ao125 t687.length co125)) (fun _ h_ => h_.1))) hb); have n2_ := Aside0.mk (Kd.Q_below (by (with_reducible repeat (first | apply Kd.Q_alloc | apply Kd.Q_drewN | apply Kd.Q_drew)); exact (Kd.Q_mono (Kd.Q_far (p := ⟨gb691, 3, none⟩) (Kd.Q_far (p := ⟨gb691, 2, none⟩) (Kd.Q_far (p := ⟨gb691, 1, none⟩) (Kd.Q_far (p := ⟨gb691, 0, none⟩) (Kd.Q_types HO_674003.out BK691.out (by decide)) (fun _ hk => hk.2) (.int .i64 t684)) (fun _ hk => hk.2) (.int .i64 t685)) (fun _ hk => hk.2) (.int .i64 t686)) (fun _ hk => hk.2) (.slice Ao125 t687.length co125)) (fun _ h_ => h_.1))) hb); have n3_ := Aside0.mk (Kd.Q_below (by (with_reducible repeat (first | apply Kd.Q_alloc | apply Kd.Q_drewN | apply Kd.Q_drew)); exact (Kd.Q_mono (Kd.Q_far (p := ⟨gb691, 3, none⟩) (Kd.Q_far (p := ⟨gb691, 2, none⟩) (Kd.Q_far (p := ⟨gb691, 1, none⟩) (Kd.Q_far (p := ⟨gb691, 0, none⟩) (Kd.Q_types HO_682003.out BK691.out (by decide)) (fun _ hk => hk.2) (.int .i64 t684)) (fun _ hk => hk.2) (.int .i64 t685)) (fun _ hk => hk.2) (.int .i64 t686)) (fun _ hk => hk.2) (.slice Ao125 t687.length co125)) (fun _ h_ => h_.1))) hb); have n4_ := Aside0.mk (Kd.R_below (B.kr0 (B.rs4 HO689 BK691)) hb); have n5_ := Aside0.mk (blk_below (B.kb0 (B.bf4 BK664 NB664_691)) hb); have n6_ := Aside0.mk (blk_below (B.kb0 (B.bf4 BK665 NB665_691)) hb); have n7_ := Aside0.mk (blk_below (B.kb0 (B.bf4 BK673 NB673_691)) hb); have n8_ := Aside0.mk (blk_below (B.kb0 (B.bf4 BK681 NB681_691)) hb); have n9_ := Aside0.mk (blk_below (g := gb691) (o := .cells #[.int .i64 t684, .int .i64 t685, .int .i64 t686, .slice Ao125 t687.length co125] 28 (0, 0)) (B.kb0 (B.bp4 BK691)) hb); have n10_ := Aside0.mk (below_step (B.bl HB) hb); clear HO_665003 HO_666003 HO_674003 HO_682003 HO689 BK664 BK665 BK673 BK681 BK691 HB; have HO_665003 := n0_; have HO_666003 := n1_; have HO_674003 := n2_; have HO_682003 := n3_; have HO689 := n4_; have BK664 := n5_; have BK665 := n6_; have BK673 := n7_; have BK681 := n8_; have BK691 := n9_; have HB := n10_; clear n0_ n1_ n2_ n3_ n4_ n5_ n6_ n7_ n8_ n9_ n10_; (try clear hb); (try clear hb2); (try clear hk); (try clear hi)))
            go_ret
            exact ⟨by first | rfl | (simp [errW_none, errW_some] <;> rfl) | (simp [*, errW_none, errW_some] <;> rfl), B.bl HB⟩
          replace c107 := Bool.eq_false_iff.mpr c107
          subst c107
          have H1 : (some false) = some r := by rw [if_neg (show ¬ (false = true) by decide)] at H; exact H
          clear H
          have H := H1
          clear H1
          obtain rfl := Option.some.inj H
          exact absurd ht_.out (by decide)

/-- THE ONE PURE STATEMENT of laws_FnPasteImage: yours. -/
def laws_FnPasteImage.Pure : Prop := ∀ (l0 : List Int), l0.length ≤ maxLen → l0.length * 1 ≤ 140737488351232 → (∀ x ∈ l0, (Lit.int .u8 x).wf = true) → ∃ k, laws_FnPasteImage.f k l0 = some true
theorem laws_FnPasteImage.walk (P : laws_FnPasteImage.Pure) (a0 : Option Addr) (len0 cap0 : Nat) (z0 : List Int) (w : World) (w0 : (a0 = none ∧ len0 = 0 ∧ cap0 = 0 ∧ z0 = []) ∨ ∃ x, a0 = some x ∧ len0 ≤ cap0 ∧ cap0 ≤ maxLen ∧ z0.length = cap0 ∧ (∀ i, i < z0.length → w.cell? (x.add i) = some (.int .u8 (z0.getD i 0))) ∧ ∀ n ∈ z0, (Lit.int .u8 n).wf = true) (y0 : len0 * 1 ≤ 140737488351232) :
    Calls Try.prog 7 #[.slice a0 len0 cap0] w fun e w' => e = .returned (.bool true) ∧ Below w.heap.size w w' := by
  obtain ⟨l0, rfl, hr0, hm0, hw0, hc0⟩ := ReadsInt.ofRowC w0
  obtain ⟨k, h⟩ := P l0 hm0 y0 hw0
  refine (laws_FnPasteImage.calls k _ _ l0 true w (Kd.C_of_reads (d := (0 : Int)) (h1 := fun _ => rfl) hr0) hc0 h ⟨rfl⟩).mono ?_
  rintro e w' ⟨rfl, hd⟩
  exact ⟨rfl, hd⟩

end Go.Proofs.Ytmljcnhecjlinaa.Q
