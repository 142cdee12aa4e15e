-- Written by a program of this session (the kit's printer, with hand-proved contracts for the functions that it does not take).
import Derived.Test.YtpadegboplcapaaQ0
import Derived.Test.YtpadegboplcapaaQ1
import Derived.Test.YtpadegboplcapaaQ3
import Derived.Test.YtpadegboplcapaaQ4
namespace Go.Proofs.Ytpadegboplcapaa.Q
open Go.RowKit Go.Proofs.YtpadegboplcapaaW.PrintWords Go.Proofs.YtpadegboplcapaaW.PrintLast Go.Proofs.YtpadegboplcapaaW.PrintMore
attribute [local go_sem] max2_int min2_int max_two min_two max_three min_three max_four min_four   -- for this text's walks alone
set_option linter.unusedVariables false
set_option linter.unusedSimpArgs false

/-! ### laws_FnExactJoinPasses: function 9 -/
mutual
def laws_FnExactJoinPasses.j0 : Nat → Int → Int → Int → List (List Int) → Bool → List (List Int) → Bool → Bool → Int → Int → Int → List Int → Int → Int → Int → List Int → Option (Bool)
  | 0, _, _, _, _, _, _, _, _, _, _, _, _, _, _, _, _ => none
  | k + 1, x0, x1, x2, x3, x11, x12, x14, x52, x232000, x232001, x232002, x232003, x243000, x243001, x243002, x243003 => if x52 = true then (some false) else ((laws_toIntSS.f k x3).bind fun t244 => ((laws_eqIntSS.f k x12 t244).bind fun t247 => (if t247 = true then ((laws_markIntSS.f k x12 1).bind fun t248 => (if t248 < 0 then (laws_FnExactJoinPasses.j1 k x0 x1 x2 x3 x11 true x232000 x232001 x232002 x232003 x243000 x243001 x243002 x243003) else ((laws_eqImage.f k x243000 x243001 x243002 x243003 x232000 x232001 x232002 x232003).bind fun t249 => (if t249 = true then (laws_FnExactJoinPasses.j1 k x0 x1 x2 x3 x11 (x14 != x11) x232000 x232001 x232002 x232003 x243000 x243001 x243002 x243003) else (laws_FnExactJoinPasses.j1 k x0 x1 x2 x3 x11 true x232000 x232001 x232002 x232003 x243000 x243001 x243002 x243003))))) else (some false))))
def laws_FnExactJoinPasses.j1 : Nat → Int → Int → Int → List (List Int) → Bool → Bool → Int → Int → Int → List Int → Int → Int → Int → List Int → Option (Bool)
  | 0, _, _, _, _, _, _, _, _, _, _, _, _, _, _ => none
  | k + 1, x0, x1, x2, x3, x11, x73, x232000, x232001, x232002, x232003, x243000, x243001, x243002, x243003 => if x73 = true then (some false) else ((laws_markImage.f k x243000 x243001 x243002 x243003 1).bind fun bt250 => ((laws_heldImage.f k x243000 x243001 x243002 bt250.2 1).bind fun t252 => (if t252 < 0 then (some false) else (if t252 = bt250.1 then ((laws_toIntSS.f k x3).bind fun t253 => ((impl_JoinPasses.f k x0 x1 x2 t253).bind fun bt256 => ((laws_eqImage.f k bt256.1 bt256.2.1 bt256.2.2.1 bt256.2.2.2.1 x232000 x232001 x232002 x232003).bind fun t264 => (if t264 = true then (laws_FnExactJoinPasses.j2 k bt250.1 (bt256.2.2.2.2 != x11) x243000 x243001 x243002 bt250.2) else (laws_FnExactJoinPasses.j2 k bt250.1 true x243000 x243001 x243002 bt250.2))))) else (some false)))))
def laws_FnExactJoinPasses.j2 : Nat → Int → Bool → Int → Int → Int → List Int → Option (Bool)
  | 0, _, _, _, _, _, _ => none
  | k + 1, x16, x102, x243000, x243001, x243002, x243003 => if x102 = true then (some false) else ((laws_heldImage.f k x243000 x243001 x243002 x243003 1).bind fun t265 => (if t265 < 0 then (some false) else (if t265 = x16 then (some true) else (some false))))
end
def laws_FnExactJoinPasses.f (k : Nat) (a0 : Int) (a1 : Int) (a2 : Int) (l3 : List (List Int)) : Option (Bool) := (laws_szIntSS.f k l3 1048576).bind fun t220 => (if t220 < 0 then (some true) else ((laws_toIntSS.f k l3).bind fun t221 => ((spec_JoinPasses.f k a0 a1 a2 t221).bind fun bt224 => ((laws_toIntSS.f k l3).bind fun t232 => ((impl_JoinPasses.f k a0 a1 a2 t232).bind fun bt235 => ((laws_eqImage.f k bt235.1 bt235.2.1 bt235.2.2.1 bt235.2.2.2.1 bt224.1 bt224.2.1 bt224.2.2.1 bt224.2.2.2.1).bind fun t243 => (if t243 = true then (laws_FnExactJoinPasses.j0 k a0 a1 a2 l3 bt224.2.2.2.2 t232 bt235.2.2.2.2 (bt235.2.2.2.2 != bt224.2.2.2.2) bt224.1 bt224.2.1 bt224.2.2.1 bt224.2.2.2.1 bt235.1 bt235.2.1 bt235.2.2.1 bt235.2.2.2.1) else (laws_FnExactJoinPasses.j0 k a0 a1 a2 l3 bt224.2.2.2.2 t232 bt235.2.2.2.2 true bt224.1 bt224.2.1 bt224.2.2.1 bt224.2.2.2.1 bt235.1 bt235.2.1 bt235.2.2.1 bt235.2.2.2.1))))))))
theorem laws_FnExactJoinPasses.mono_l : ∀ k, (∀ y0 y1 y2 y3 y4 y5 y6 y7 y8 y9 y10 y11 y12 y13 y14 y15, LeO (laws_FnExactJoinPasses.j0 k y0 y1 y2 y3 y4 y5 y6 y7 y8 y9 y10 y11 y12 y13 y14 y15) (laws_FnExactJoinPasses.j0 (k + 1) y0 y1 y2 y3 y4 y5 y6 y7 y8 y9 y10 y11 y12 y13 y14 y15)) ∧ (∀ y0 y1 y2 y3 y4 y5 y6 y7 y8 y9 y10 y11 y12 y13, LeO (laws_FnExactJoinPasses.j1 k y0 y1 y2 y3 y4 y5 y6 y7 y8 y9 y10 y11 y12 y13) (laws_FnExactJoinPasses.j1 (k + 1) y0 y1 y2 y3 y4 y5 y6 y7 y8 y9 y10 y11 y12 y13)) ∧ (∀ y0 y1 y2 y3 y4 y5, LeO (laws_FnExactJoinPasses.j2 k y0 y1 y2 y3 y4 y5) (laws_FnExactJoinPasses.j2 (k + 1) y0 y1 y2 y3 y4 y5))
  | 0 => ⟨fun _ _ _ _ _ _ _ _ _ _ _ _ _ _ _ _ r h => by simp [laws_FnExactJoinPasses.j0] at h, fun _ _ _ _ _ _ _ _ _ _ _ _ _ _ r h => by simp [laws_FnExactJoinPasses.j1] at h, fun _ _ _ _ _ _ r h => by simp [laws_FnExactJoinPasses.j2] at h⟩
  | k + 1 => by
    obtain ⟨ih0, ih1, ih2⟩ := laws_FnExactJoinPasses.mono_l k
    refine ⟨?_, ?_, ?_⟩
    · intro y0 y1 y2 y3 y4 y5 y6 y7 y8 y9 y10 y11 y12 y13 y14 y15
      unfold laws_FnExactJoinPasses.j0
      repeat' first
      | (with_reducible exact ih0 _ _ _ _ _ _ _ _ _ _ _ _ _ _ _ _)
      | (with_reducible exact ih1 _ _ _ _ _ _ _ _ _ _ _ _ _ _)
      | (with_reducible exact ih2 _ _ _ _ _ _)
      | (with_reducible exact impl_JoinPasses.mono _ _ _ _ _)
      | (with_reducible exact laws_eqImage.mono _ _ _ _ _ _ _ _ _)
      | (with_reducible exact laws_eqIntSS.mono _ _ _)
      | (with_reducible exact laws_heldImage.mono _ _ _ _ _ _)
      | (with_reducible exact laws_markImage.mono _ _ _ _ _ _)
      | (with_reducible exact laws_markIntSS.mono _ _ _)
      | (with_reducible exact laws_szIntSS.mono _ _ _)
      | (with_reducible exact laws_toIntSS.mono _ _)
      | (with_reducible exact spec_JoinPasses.mono _ _ _ _ _)
      | (with_reducible exact LeO.refl _)
      | (with_reducible exact LeO.none _)
      | (with_reducible refine LeO.ite ?_ ?_)
      | (with_reducible refine LeO.bind ?_ (fun _ => ?_))
      | exact ih0 _ _ _ _ _ _ _ _ _ _ _ _ _ _ _ _
      | exact ih1 _ _ _ _ _ _ _ _ _ _ _ _ _ _
      | exact ih2 _ _ _ _ _ _
      | exact impl_JoinPasses.mono _ _ _ _ _
      | exact laws_eqImage.mono _ _ _ _ _ _ _ _ _
      | exact laws_eqIntSS.mono _ _ _
      | exact laws_heldImage.mono _ _ _ _ _ _
      | exact laws_markImage.mono _ _ _ _ _ _
      | exact laws_markIntSS.mono _ _ _
      | exact laws_szIntSS.mono _ _ _
      | exact laws_toIntSS.mono _ _
      | exact spec_JoinPasses.mono _ _ _ _ _
      | exact LeO.none _
      | refine LeO.ite ?_ ?_
      | refine LeO.bind ?_ (fun _ => ?_)
    · intro y0 y1 y2 y3 y4 y5 y6 y7 y8 y9 y10 y11 y12 y13
      unfold laws_FnExactJoinPasses.j1
      repeat' first
      | (with_reducible exact ih0 _ _ _ _ _ _ _ _ _ _ _ _ _ _ _ _)
      | (with_reducible exact ih1 _ _ _ _ _ _ _ _ _ _ _ _ _ _)
      | (with_reducible exact ih2 _ _ _ _ _ _)
      | (with_reducible exact impl_JoinPasses.mono _ _ _ _ _)
      | (with_reducible exact laws_eqImage.mono _ _ _ _ _ _ _ _ _)
      | (with_reducible exact laws_eqIntSS.mono _ _ _)
      | (with_reducible exact laws_heldImage.mono _ _ _ _ _ _)
      | (with_reducible exact laws_markImage.mono _ _ _ _ _ _)
      | (with_reducible exact laws_markIntSS.mono _ _ _)
      | (with_reducible exact laws_szIntSS.mono _ _ _)
      | (with_reducible exact laws_toIntSS.mono _ _)
      | (with_reducible exact spec_JoinPasses.mono _ _ _ _ _)
      | (with_reducible exact LeO.refl _)
      | (with_reducible exact LeO.none _)
      | (with_reducible refine LeO.ite ?_ ?_)
      | (with_reducible refine LeO.bind ?_ (fun _ => ?_))
      | exact ih0 _ _ _ _ _ _ _ _ _ _ _ _ _ _ _ _
      | exact ih1 _ _ _ _ _ _ _ _ _ _ _ _ _ _
      | exact ih2 _ _ _ _ _ _
      | exact impl_JoinPasses.mono _ _ _ _ _
      | exact laws_eqImage.mono _ _ _ _ _ _ _ _ _
      | exact laws_eqIntSS.mono _ _ _
      | exact laws_heldImage.mono _ _ _ _ _ _
      | exact laws_markImage.mono _ _ _ _ _ _
      | exact laws_markIntSS.mono _ _ _
      | exact laws_szIntSS.mono _ _ _
      | exact laws_toIntSS.mono _ _
      | exact spec_JoinPasses.mono _ _ _ _ _
      | exact LeO.none _
      | refine LeO.ite ?_ ?_
      | refine LeO.bind ?_ (fun _ => ?_)
    intro y0 y1 y2 y3 y4 y5
    unfold laws_FnExactJoinPasses.j2
    repeat' first
    | (with_reducible exact ih0 _ _ _ _ _ _ _ _ _ _ _ _ _ _ _ _)
    | (with_reducible exact ih1 _ _ _ _ _ _ _ _ _ _ _ _ _ _)
    | (with_reducible exact ih2 _ _ _ _ _ _)
    | (with_reducible exact impl_JoinPasses.mono _ _ _ _ _)
    | (with_reducible exact laws_eqImage.mono _ _ _ _ _ _ _ _ _)
    | (with_reducible exact laws_eqIntSS.mono _ _ _)
    | (with_reducible exact laws_heldImage.mono _ _ _ _ _ _)
    | (with_reducible exact laws_markImage.mono _ _ _ _ _ _)
    | (with_reducible exact laws_markIntSS.mono _ _ _)
    | (with_reducible exact laws_szIntSS.mono _ _ _)
    | (with_reducible exact laws_toIntSS.mono _ _)
    | (with_reducible exact spec_JoinPasses.mono _ _ _ _ _)
    | (with_reducible exact LeO.refl _)
    | (with_reducible exact LeO.none _)
    | (with_reducible refine LeO.ite ?_ ?_)
    | (with_reducible refine LeO.bind ?_ (fun _ => ?_))
    | exact ih0 _ _ _ _ _ _ _ _ _ _ _ _ _ _ _ _
    | exact ih1 _ _ _ _ _ _ _ _ _ _ _ _ _ _
    | exact ih2 _ _ _ _ _ _
    | exact impl_JoinPasses.mono _ _ _ _ _
    | exact laws_eqImage.mono _ _ _ _ _ _ _ _ _
    | exact laws_eqIntSS.mono _ _ _
    | exact laws_heldImage.mono _ _ _ _ _ _
    | exact laws_markImage.mono _ _ _ _ _ _
    | exact laws_markIntSS.mono _ _ _
    | exact laws_szIntSS.mono _ _ _
    | exact laws_toIntSS.mono _ _
    | exact spec_JoinPasses.mono _ _ _ _ _
    | exact LeO.none _
    | refine LeO.ite ?_ ?_
    | refine LeO.bind ?_ (fun _ => ?_)
theorem laws_FnExactJoinPasses.mono : ∀ a0 a1 a2 a3 k, LeO (laws_FnExactJoinPasses.f k a0 a1 a2 a3) (laws_FnExactJoinPasses.f (k + 1) a0 a1 a2 a3) := by
  intro a0 a1 a2 a3 k
  obtain ⟨ih0, ih1, ih2⟩ := laws_FnExactJoinPasses.mono_l k
  unfold laws_FnExactJoinPasses.f
  repeat' first
      | (with_reducible exact ih0 _ _ _ _ _ _ _ _ _ _ _ _ _ _ _ _)
      | (with_reducible exact ih1 _ _ _ _ _ _ _ _ _ _ _ _ _ _)
      | (with_reducible exact ih2 _ _ _ _ _ _)
      | (with_reducible exact impl_JoinPasses.mono _ _ _ _ _)
      | (with_reducible exact laws_eqImage.mono _ _ _ _ _ _ _ _ _)
      | (with_reducible exact laws_eqIntSS.mono _ _ _)
      | (with_reducible exact laws_heldImage.mono _ _ _ _ _ _)
      | (with_reducible exact laws_markImage.mono _ _ _ _ _ _)
      | (with_reducible exact laws_markIntSS.mono _ _ _)
      | (with_reducible exact laws_szIntSS.mono _ _ _)
      | (with_reducible exact laws_toIntSS.mono _ _)
      | (with_reducible exact spec_JoinPasses.mono _ _ _ _ _)
      | (with_reducible exact LeO.refl _)
      | (with_reducible exact LeO.none _)
      | (with_reducible refine LeO.ite ?_ ?_)
      | (with_reducible refine LeO.bind ?_ (fun _ => ?_))
      | exact ih0 _ _ _ _ _ _ _ _ _ _ _ _ _ _ _ _
      | exact ih1 _ _ _ _ _ _ _ _ _ _ _ _ _ _
      | exact ih2 _ _ _ _ _ _
      | exact impl_JoinPasses.mono _ _ _ _ _
      | exact laws_eqImage.mono _ _ _ _ _ _ _ _ _
      | exact laws_eqIntSS.mono _ _ _
      | exact laws_heldImage.mono _ _ _ _ _ _
      | exact laws_markImage.mono _ _ _ _ _ _
      | exact laws_markIntSS.mono _ _ _
      | exact laws_szIntSS.mono _ _ _
      | exact laws_toIntSS.mono _ _
      | exact spec_JoinPasses.mono _ _ _ _ _
      | exact LeO.none _
      | refine LeO.ite ?_ ?_
      | refine LeO.bind ?_ (fun _ => ?_)
set_option maxHeartbeats 8000000 in
set_option maxRecDepth 100000 in
theorem laws_FnExactJoinPasses.calls (k : Nat) (a0 : Int) (a1 : Int) (a2 : Int) (A3 : Option Addr) (c3 : Nat) (l3 : List (List Int)) (r : Bool) (w : World) (hr3 : Kd.C (Kd.slice 3 (Kd.int .i64)) w A3 l3.length l3) (hc3 : l3.length ≤ c3) (h : laws_FnExactJoinPasses.f k a0 a1 a2 l3 = some r) (ht_ : Aside0 (r = true)) :
    Calls Try.prog 9 #[.int .i64 a0, .int .i64 a1, .int .i64 a2, .slice A3 l3.length c3] w fun e w' => e = .returned (.bool r) ∧ Below w.heap.size w w' := by
  have hu34 := Try.underlying34
  have HR3 := Aside0.mk hr3
  have HC3 := Aside0.mk hc3
  clear hr3 hc3
  have HB := Aside0.mk (Below.refl w.heap.size w)
  have H : ((laws_szIntSS.f k l3 1048576).bind fun t220 => (if t220 < 0 then (some true) else ((laws_toIntSS.f k l3).bind fun t221 => ((spec_JoinPasses.f k a0 a1 a2 t221).bind fun bt224 => ((laws_toIntSS.f k l3).bind fun t232 => ((impl_JoinPasses.f k a0 a1 a2 t232).bind fun bt235 => ((laws_eqImage.f k bt235.1 bt235.2.1 bt235.2.2.1 bt235.2.2.2.1 bt224.1 bt224.2.1 bt224.2.2.1 bt224.2.2.2.1).bind fun t243 => (if t243 = true then (laws_FnExactJoinPasses.j0 k a0 a1 a2 l3 bt224.2.2.2.2 t232 bt235.2.2.2.2 (bt235.2.2.2.2 != bt224.2.2.2.2) bt224.1 bt224.2.1 bt224.2.2.1 bt224.2.2.2.1 bt235.1 bt235.2.1 bt235.2.2.1 bt235.2.2.2.1) else (laws_FnExactJoinPasses.j0 k a0 a1 a2 l3 bt224.2.2.2.2 t232 bt235.2.2.2.2 true bt224.1 bt224.2.1 bt224.2.2.1 bt224.2.2.2.1 bt235.1 bt235.2.1 bt235.2.2.1 bt235.2.2.2.1))))))))) = some r := h
  clear h
  replace H := Option.bind_eq_some_iff.mp H
  obtain ⟨t220, A50, H⟩ := H
  replace H : (if t220 < 0 then (some true) else ((laws_toIntSS.f k l3).bind fun t221 => ((spec_JoinPasses.f k a0 a1 a2 t221).bind fun bt224 => ((laws_toIntSS.f k l3).bind fun t232 => ((impl_JoinPasses.f k a0 a1 a2 t232).bind fun bt235 => ((laws_eqImage.f k bt235.1 bt235.2.1 bt235.2.2.1 bt235.2.2.2.1 bt224.1 bt224.2.1 bt224.2.2.1 bt224.2.2.2.1).bind fun t243 => (if t243 = true then (laws_FnExactJoinPasses.j0 k a0 a1 a2 l3 bt224.2.2.2.2 t232 bt235.2.2.2.2 (bt235.2.2.2.2 != bt224.2.2.2.2) bt224.1 bt224.2.1 bt224.2.2.1 bt224.2.2.2.1 bt235.1 bt235.2.1 bt235.2.2.1 bt235.2.2.2.1) else (laws_FnExactJoinPasses.j0 k a0 a1 a2 l3 bt224.2.2.2.2 t232 bt235.2.2.2.2 true bt224.1 bt224.2.1 bt224.2.2.1 bt224.2.2.2.1 bt235.1 bt235.2.1 bt235.2.2.1 bt235.2.2.2.1)))))))) = some r := H
  have A5 := Aside0.mk A50
  clear A50
  by_cases c6 : t220 < 0
  · rw [if_pos c6] at H
    have c6b0 : decide (t220 < 0) = true := decide_eq_true c6
    clear c6
    obtain rfl := Option.some.inj H
    simp only [Option.some.injEq, Prod.mk.injEq] at H
    obtain ⟨rfl⟩ := H
    go_enter Try.func9, Try.ntmps9
    go_wp2_with (first | ((with_reducible refine gate_callee (f := 30) rfl ?_); refine goesL_ (some 22) rfl rfl Try.func30 (by kernel_rfl) rfl #[.slice A3 l3.length c3, .int .i64 1048576] rfl B.am ?_; (with_reducible refine (laws_szIntSS.calls k _ _ l3 1048576 t220 _ ?side1 ?side2 A5.out).mono ?_); (case side1 => exact B.kc (HR3.out)); (case side2 => exact HC3.out); rintro e w' ⟨rfl, ⟨nd, rfl⟩⟩; refine ⟨_, rfl, ?_⟩))
    go_ret
    exact ⟨by first | rfl | (simp [errW_none, errW_some] <;> rfl) | (simp [*, errW_none, errW_some] <;> rfl), B.bl HB⟩
  rw [if_neg c6] at H
  have c6b0 : decide (t220 < 0) = false := decide_eq_false c6
  clear c6
  replace H := Option.bind_eq_some_iff.mp H
  obtain ⟨t221, A70, H⟩ := H
  replace H : ((spec_JoinPasses.f k a0 a1 a2 t221).bind fun bt224 => ((laws_toIntSS.f k l3).bind fun t232 => ((impl_JoinPasses.f k a0 a1 a2 t232).bind fun bt235 => ((laws_eqImage.f k bt235.1 bt235.2.1 bt235.2.2.1 bt235.2.2.2.1 bt224.1 bt224.2.1 bt224.2.2.1 bt224.2.2.2.1).bind fun t243 => (if t243 = true then (laws_FnExactJoinPasses.j0 k a0 a1 a2 l3 bt224.2.2.2.2 t232 bt235.2.2.2.2 (bt235.2.2.2.2 != bt224.2.2.2.2) bt224.1 bt224.2.1 bt224.2.2.1 bt224.2.2.2.1 bt235.1 bt235.2.1 bt235.2.2.1 bt235.2.2.2.1) else (laws_FnExactJoinPasses.j0 k a0 a1 a2 l3 bt224.2.2.2.2 t232 bt235.2.2.2.2 true bt224.1 bt224.2.1 bt224.2.2.1 bt224.2.2.2.1 bt235.1 bt235.2.1 bt235.2.2.1 bt235.2.2.2.1)))))) = some r := H
  have A7 := Aside0.mk A70
  clear A70
  replace H := Option.bind_eq_some_iff.mp H
  obtain ⟨⟨t224, t225, t226, t227, t230⟩, A80, H⟩ := H
  replace H : ((laws_toIntSS.f k l3).bind fun t232 => ((impl_JoinPasses.f k a0 a1 a2 t232).bind fun bt235 => ((laws_eqImage.f k bt235.1 bt235.2.1 bt235.2.2.1 bt235.2.2.2.1 t224 t225 t226 t227).bind fun t243 => (if t243 = true then (laws_FnExactJoinPasses.j0 k a0 a1 a2 l3 t230 t232 bt235.2.2.2.2 (bt235.2.2.2.2 != t230) t224 t225 t226 t227 bt235.1 bt235.2.1 bt235.2.2.1 bt235.2.2.2.1) else (laws_FnExactJoinPasses.j0 k a0 a1 a2 l3 t230 t232 bt235.2.2.2.2 true t224 t225 t226 t227 bt235.1 bt235.2.1 bt235.2.2.1 bt235.2.2.2.1))))) = some r := H
  have A8 := Aside0.mk A80
  clear A80
  replace H := Option.bind_eq_some_iff.mp H
  obtain ⟨t232, A90, H⟩ := H
  replace H : ((impl_JoinPasses.f k a0 a1 a2 t232).bind fun bt235 => ((laws_eqImage.f k bt235.1 bt235.2.1 bt235.2.2.1 bt235.2.2.2.1 t224 t225 t226 t227).bind fun t243 => (if t243 = true then (laws_FnExactJoinPasses.j0 k a0 a1 a2 l3 t230 t232 bt235.2.2.2.2 (bt235.2.2.2.2 != t230) t224 t225 t226 t227 bt235.1 bt235.2.1 bt235.2.2.1 bt235.2.2.2.1) else (laws_FnExactJoinPasses.j0 k a0 a1 a2 l3 t230 t232 bt235.2.2.2.2 true t224 t225 t226 t227 bt235.1 bt235.2.1 bt235.2.2.1 bt235.2.2.2.1)))) = some r := H
  have A9 := Aside0.mk A90
  clear A90
  replace H := Option.bind_eq_some_iff.mp H
  obtain ⟨⟨t235, t236, t237, t238, t241⟩, A100, H⟩ := H
  replace H : ((laws_eqImage.f k t235 t236 t237 t238 t224 t225 t226 t227).bind fun t243 => (if t243 = true then (laws_FnExactJoinPasses.j0 k a0 a1 a2 l3 t230 t232 t241 (t241 != t230) t224 t225 t226 t227 t235 t236 t237 t238) else (laws_FnExactJoinPasses.j0 k a0 a1 a2 l3 t230 t232 t241 true t224 t225 t226 t227 t235 t236 t237 t238))) = some r := H
  have A10 := Aside0.mk A100
  clear A100
  have HC11 := Aside0.mk H
  clear H
  go_enter Try.func9, Try.ntmps9
  go_upto_region 8 with (first | ((with_reducible refine gate_callee (f := 30) rfl ?_); refine goesL_ (some 22) rfl rfl Try.func30 (by kernel_rfl) rfl #[.slice A3 l3.length c3, .int .i64 1048576] rfl B.am ?_; (with_reducible refine (laws_szIntSS.calls k _ _ l3 1048576 t220 _ ?side1 ?side2 A5.out).mono ?_); (case side1 => exact B.kc (HR3.out)); (case side2 => exact HC3.out); rintro e w' ⟨rfl, ⟨nd, rfl⟩⟩; refine ⟨_, rfl, ?_⟩) | ((with_reducible refine gate_callee (f := 31) rfl ?_); refine goesL_ (some 30) rfl rfl Try.func31 (by kernel_rfl) rfl #[.slice A3 l3.length c3] rfl B.am ?_; (with_reducible refine (laws_toIntSS.calls k _ _ l3 t221 _ ?side1 ?side2 A7.out).mono ?_); (case side1 => exact B.kc (HR3.out)); (case side2 => exact HC3.out); rintro e w12 ⟨v222, rfl, ho0, hb⟩; refine ⟨_, rfl, ?_⟩; have n0_ := Aside0.mk (Kd.S_lower ho0 (below_size (B.bl HB))); have n1_ := Aside0.mk (below_step (B.bl HB) hb); clear HB; have HO223 := n0_; have HB := n1_; clear n0_ n1_; (try clear hb); (try clear hb2); (try clear hk); (try clear hi); (try clear ho0); obtain ⟨Ao13, co13, eo13⟩ := Kd.S_slice HO223.out; subst eo13) | ((with_reducible refine gate_callee (f := 15) rfl ?_); refine goesL_ (some 31) rfl rfl Try.func15 (by kernel_rfl) rfl #[.int .i64 a0, .int .i64 a1, .int .i64 a2, .slice Ao13 t221.length co13] rfl B.am ?_; (with_reducible refine (spec_JoinPasses.calls k a0 a1 a2 _ _ t221 t224 t225 t226 t227 t230 _ ?side1 ?side2 A8.out).mono ?_); (case side1 => exact B.kc ((Kd.S_reads' HO223.out).2.2)); (case side2 => exact (Kd.S_reads' HO223.out).2.1); rintro e w14 ⟨v228, rfl, ho0, hb⟩; refine ⟨_, rfl, ?_⟩; have n0_ := Aside0.mk (Kd.S_elder' (by (with_reducible repeat (first | apply Kd.S_alloc | apply Kd.S_drewN | apply Kd.S_drew)); exact HO223.out) (Kd.R_base ho0) hb); have n1_ := Aside0.mk (Kd.R_lower ho0 (below_size (B.bl HB))); have n2_ := Aside0.mk (below_step (B.bl HB) hb); clear HO223 HB; have HO223 := n0_; have HO229 := n1_; have HB := n2_; clear n0_ n1_ n2_; (try clear hb); (try clear hb2); (try clear hk); (try clear hi); (try clear ho0)) | ((with_reducible refine gate_dst (N := 10) rfl ?_); refine box_event ?hg (N := 10) ?hd (cs := #[.int .i64 0, .int .i64 0, .int .i64 0, .slice none 0 0]) (t := 34) ?hr ?_; (case hd => rfl); (case hg => rfl); (case hr => first | (go_simp; done) | (go_simp; rfl)); intro gb231 hg w15 hbox hb; have n0_ := Aside0.mk (Kd.S_below (by (with_reducible repeat (first | apply Kd.S_alloc | apply Kd.S_drewN | apply Kd.S_drew)); exact HO223.out) hb); have n1_ := Aside0.mk (Kd.R_below (B.kr HO229) hb); have n2_ := Aside0.mk (below_step (B.bl HB) hb); have n3_ := Aside0.mk (hbox); have n4_ := Aside0.mk (B.nle hg (below_size (B.bl HB))); have n5_ := Aside0.mk (B.nle hg (below_size (B.bl HB))); clear HO223 HO229 HB; have HO223 := n0_; have HO229 := n1_; have HB := n2_; have BK231 := n3_; have GW231 := n4_; have GE231 := n5_; clear n0_ n1_ n2_ n3_ n4_ n5_; clear hb hbox hg; have hcz16_0 : w15.cell? ⟨gb231, 0, none⟩ = some (.int .i64 0) := B.bc BK231 0; have hcz16_1 : w15.cell? ⟨gb231, 1, none⟩ = some (.int .i64 0) := B.bc BK231 1; have hcz16_2 : w15.cell? ⟨gb231, 2, none⟩ = some (.int .i64 0) := B.bc BK231 2; have hcz16_3 : w15.cell? ⟨gb231, 3, none⟩ = some (.slice none 0 0) := B.bc BK231 3; have hfz16_0 := blk_frozen BK231.out 0; have hfz16_1 := blk_frozen BK231.out 1; have hfz16_2 := blk_frozen BK231.out 2; have hfz16_3 := blk_frozen BK231.out 3; obtain ⟨Ao17, co17, eo17⟩ := Kd.R_slice HO229.out; subst eo17) | ((with_reducible refine gate_callee (f := 31) rfl ?_); refine goesL_ (some 35) rfl rfl Try.func31 (by kernel_rfl) rfl #[.slice A3 l3.length c3] rfl B.am ?_; (with_reducible refine (laws_toIntSS.calls k _ _ l3 t232 _ ?side1 ?side2 A9.out).mono ?_); (case side1 => exact Kd.C_below HR3.out (B.bl HB)); (case side2 => exact HC3.out); rintro e w18 ⟨v233, rfl, ho0, hb⟩; refine ⟨_, rfl, ?_⟩; have n0_ := Aside0.mk (Kd.S_elder' (by (with_reducible repeat (first | apply Kd.S_alloc | apply Kd.S_drewN | apply Kd.S_drew)); exact (Kd.S_mono (Kd.S_far (p := ⟨gb231, 3, none⟩) (Kd.S_far (p := ⟨gb231, 2, none⟩) (Kd.S_far (p := ⟨gb231, 1, none⟩) (Kd.S_far (p := ⟨gb231, 0, none⟩) (Kd.S_types HO223.out BK231.out (by decide)) (fun _ hk => hk.2) (.int .i64 t224)) (fun _ hk => hk.2) (.int .i64 t225)) (fun _ hk => hk.2) (.int .i64 t226)) (fun _ hk => hk.2) (.slice Ao17 t227.length co17)) (fun _ h_ => h_.1))) (Kd.S_base ho0) hb); have n1_ := Aside0.mk (Kd.R_below (B.kr0 (B.rs4 HO229 BK231)) hb); have n2_ := Aside0.mk (Kd.S_lower (Kd.S_new' (Kd.S_new' ho0 (Kd.S_lt (by (with_reducible repeat (first | apply Kd.S_alloc | apply Kd.S_drewN | apply Kd.S_drew)); exact (Kd.S_mono (Kd.S_far (p := ⟨gb231, 3, none⟩) (Kd.S_far (p := ⟨gb231, 2, none⟩) (Kd.S_far (p := ⟨gb231, 1, none⟩) (Kd.S_far (p := ⟨gb231, 0, none⟩) (Kd.S_types HO223.out BK231.out (by decide)) (fun _ hk => hk.2) (.int .i64 t224)) (fun _ hk => hk.2) (.int .i64 t225)) (fun _ hk => hk.2) (.int .i64 t226)) (fun _ hk => hk.2) (.slice Ao17 t227.length co17)) (fun _ h_ => h_.1))))) (Kd.R_lt (B.kr0 (B.rs4 HO229 BK231)))) (below_size (B.bl HB))); have n3_ := Aside0.mk (blk_below (g := gb231) (o := .cells #[.int .i64 t224, .int .i64 t225, .int .i64 t226, .slice Ao17 t227.length co17] 34 (0, 0)) (B.kb0 (B.bp4 BK231)) hb); have n4_ := Aside0.mk (below_step (B.bl HB) hb); clear HO223 HO229 BK231 HB; have HO223 := n0_; have HO229 := n1_; have HO234 := n2_; have BK231 := n3_; have HB := n4_; clear n0_ n1_ n2_ n3_ n4_; (try clear hb); (try clear hb2); (try clear hk); (try clear hi); (try clear ho0); obtain ⟨Ao19, co19, eo19⟩ := Kd.S_slice HO234.out; subst eo19) | ((with_reducible refine gate_callee (f := 14) rfl ?_); refine goesL_ (some 41) rfl rfl Try.func14 (by kernel_rfl) rfl #[.int .i64 a0, .int .i64 a1, .int .i64 a2, .slice Ao19 t232.length co19] rfl B.am ?_; (with_reducible refine (impl_JoinPasses.calls k a0 a1 a2 _ _ t232 t235 t236 t237 t238 t241 _ ?side1 ?side2 A10.out).mono ?_); (case side1 => exact B.kc ((Kd.S_reads' HO234.out).2.2)); (case side2 => exact (Kd.S_reads' HO234.out).2.1); rintro e w20 ⟨v239, rfl, ho0, hb⟩; refine ⟨_, rfl, ?_⟩; have n0_ := Aside0.mk (Kd.S_elder' (by (with_reducible repeat (first | apply Kd.S_alloc | apply Kd.S_drewN | apply Kd.S_drew)); exact HO223.out) (Kd.R_base ho0) hb); have n1_ := Aside0.mk (Kd.R_elder' (B.kr HO229) (Kd.R_base ho0) hb); have n2_ := Aside0.mk (Kd.S_elder' (by (with_reducible repeat (first | apply Kd.S_alloc | apply Kd.S_drewN | apply Kd.S_drew)); exact HO234.out) (Kd.R_base ho0) hb); have n3_ := Aside0.mk (Kd.R_lower (Kd.R_new' ho0 (Kd.R_lt (B.kr HO229))) (below_size (B.bl HB))); have n4_ := Aside0.mk (blk_below (B.kb BK231) hb); have n5_ := Aside0.mk (below_step (B.bl HB) hb); clear HO223 HO229 HO234 BK231 HB; have HO223 := n0_; have HO229 := n1_; have HO234 := n2_; have HO240 := n3_; have BK231 := n4_; have HB := n5_; clear n0_ n1_ n2_ n3_ n4_ n5_; (try clear hb); (try clear hb2); (try clear hk); (try clear hi); (try clear ho0)) | ((with_reducible refine gate_dst (N := 13) rfl ?_); refine box_event ?hg (N := 13) ?hd (cs := #[.int .i64 0, .int .i64 0, .int .i64 0, .slice none 0 0]) (t := 34) ?hr ?_; (case hd => rfl); (case hg => rfl); (case hr => first | (go_simp; done) | (go_simp; rfl)); intro gb242 hg w21 hbox hb; have n0_ := Aside0.mk (Kd.S_below (by (with_reducible repeat (first | apply Kd.S_alloc | apply Kd.S_drewN | apply Kd.S_drew)); exact HO223.out) hb); have n1_ := Aside0.mk (Kd.R_below (B.kr HO229) hb); have n2_ := Aside0.mk (Kd.S_below (by (with_reducible repeat (first | apply Kd.S_alloc | apply Kd.S_drewN | apply Kd.S_drew)); exact HO234.out) hb); have n3_ := Aside0.mk (Kd.R_below (B.kr HO240) hb); have n4_ := Aside0.mk (blk_below (B.kb BK231) hb); have n5_ := Aside0.mk (below_step (B.bl HB) hb); have n6_ := Aside0.mk (hbox); have n7_ := Aside0.mk (B.nle hg (below_size (B.bl HB))); have n8_ := Aside0.mk (B.nle hg (below_size (B.bl HB))); have n9_ := Aside0.mk (B.nlt hg (blk_lt (B.kb BK231))); have n10_ := Aside0.mk (B.ngt hg (blk_lt (B.kb BK231))); clear HO223 HO229 HO234 HO240 BK231 HB; have HO223 := n0_; have HO229 := n1_; have HO234 := n2_; have HO240 := n3_; have BK231 := n4_; have HB := n5_; have BK242 := n6_; have GW242 := n7_; have GE242 := n8_; have NB231_242 := n9_; have NB242_231 := n10_; clear n0_ n1_ n2_ n3_ n4_ n5_ n6_ n7_ n8_ n9_ n10_; clear hb hbox hg; have hnb22 := NB242_231.out; have hnc22 := NB231_242.out; have hcz23_0 : w21.cell? ⟨gb242, 0, none⟩ = some (.int .i64 0) := B.bc BK242 0; have hcz23_1 : w21.cell? ⟨gb242, 1, none⟩ = some (.int .i64 0) := B.bc BK242 1; have hcz23_2 : w21.cell? ⟨gb242, 2, none⟩ = some (.int .i64 0) := B.bc BK242 2; have hcz23_3 : w21.cell? ⟨gb242, 3, none⟩ = some (.slice none 0 0) := B.bc BK242 3; have hfz23_0 := blk_frozen BK242.out 0; have hfz23_1 := blk_frozen BK242.out 1; have hfz23_2 := blk_frozen BK242.out 2; have hfz23_3 := blk_frozen BK242.out 3; obtain ⟨Ao24, co24, eo24⟩ := Kd.R_slice HO240.out; subst eo24))
  (try simp only [Act.put, List.setIfInBounds_toArray, List.set_cons_zero, List.set_cons_succ])
  go_cut [52] (fun v52 wc => ∃ (kq : Nat) (x52_10 : Bool), v52 = .bool x52_10 ∧ Aside0 (laws_FnExactJoinPasses.j0 kq a0 a1 a2 l3 t230 t232 t241 x52_10 t224 t225 t226 t227 t235 t236 t237 t238 = some r) ∧ Aside0 (kq ≤ k) ∧ Aside0 (Kd.S (Kd.slice 3 (Kd.int .i64)) 32 wc w.heap.size (fun k_ => some k_ ≠ ((.slice Ao17 t227.length co17) : Value).ownBlock ∧ some k_ ≠ ((.slice Ao24 t238.length co24) : Value).ownBlock) (.slice Ao19 t232.length co19) t232) ∧ Aside0 (Kd.R (Kd.int .i64) 3 wc w.heap.size (fun k_ => some k_ ≠ ((.slice Ao24 t238.length co24) : Value).ownBlock) (.slice Ao17 t227.length co17) t227) ∧ Aside0 (Kd.R (Kd.int .i64) 3 wc w.heap.size (fun k_ => some k_ ≠ ((.slice Ao17 t227.length co17) : Value).ownBlock) (.slice Ao24 t238.length co24) t238) ∧ Aside0 (wc.heap[gb231]? = some (.cells #[.int .i64 t224, .int .i64 t225, .int .i64 t226, (.slice Ao17 t227.length co17)] 34 (0, 0))) ∧ Aside0 (wc.heap[gb242]? = some (.cells #[.int .i64 t235, .int .i64 t236, .int .i64 t237, (.slice Ao24 t238.length co24)] 34 (0, 0))) ∧ Aside0 (Below w.heap.size w wc))
  case first =>
    have H := HC11.out
    clear HC11
    replace H := Option.bind_eq_some_iff.mp H
    obtain ⟨t243, A250, H⟩ := H
    replace H : (if t243 = true then (laws_FnExactJoinPasses.j0 k a0 a1 a2 l3 t230 t232 t241 (t241 != t230) t224 t225 t226 t227 t235 t236 t237 t238) else (laws_FnExactJoinPasses.j0 k a0 a1 a2 l3 t230 t232 t241 true t224 t225 t226 t227 t235 t236 t237 t238)) = some r := H
    have A25 := Aside0.mk A250
    clear A250
    by_cases c26 : t243 = true
    · subst c26
      have H1 : (laws_FnExactJoinPasses.j0 k a0 a1 a2 l3 t230 t232 t241 (t241 != t230) t224 t225 t226 t227 t235 t236 t237 t238) = some r := by rw [if_pos rfl] at H; exact H
      clear H
      have H := H1
      clear H1
      have H' := Aside0.mk H
      clear H
      have hnb27 := NB242_231.out
      have hnc27 := NB231_242.out
      have hcz28_0 : w21.cell? ⟨gb242, 0, none⟩ = some (.int .i64 0) := B.bc BK242 0
      have hcz28_1 : w21.cell? ⟨gb242, 1, none⟩ = some (.int .i64 0) := B.bc BK242 1
      have hcz28_2 : w21.cell? ⟨gb242, 2, none⟩ = some (.int .i64 0) := B.bc BK242 2
      have hcz28_3 : w21.cell? ⟨gb242, 3, none⟩ = some (.slice none 0 0) := B.bc BK242 3
      have hfz28_0 := blk_frozen BK242.out 0
      have hfz28_1 := blk_frozen BK242.out 1
      have hfz28_2 := blk_frozen BK242.out 2
      have hfz28_3 := blk_frozen BK242.out 3
      have hcz29_0 : w21.cell? ⟨gb231, 0, none⟩ = some (.int .i64 t224) := B.bc BK231 0
      have hcz29_1 : w21.cell? ⟨gb231, 1, none⟩ = some (.int .i64 t225) := B.bc BK231 1
      have hcz29_2 : w21.cell? ⟨gb231, 2, none⟩ = some (.int .i64 t226) := B.bc BK231 2
      have hcz29_3 : w21.cell? ⟨gb231, 3, none⟩ = some (.slice Ao17 t227.length co17) := B.bc BK231 3
      have hfz29_0 := blk_frozen BK231.out 0
      have hfz29_1 := blk_frozen BK231.out 1
      have hfz29_2 := blk_frozen BK231.out 2
      have hfz29_3 := blk_frozen BK231.out 3
      go_wp2_with (first | ((with_reducible refine gate_callee (f := 24) rfl ?_); refine goesL_ (some 46) rfl rfl Try.func24 (by kernel_rfl) rfl #[.agg #[.int .i64 t235, .int .i64 t236, .int .i64 t237, .slice Ao24 t238.length co24], .agg #[.int .i64 t224, .int .i64 t225, .int .i64 t226, .slice Ao17 t227.length co17]] rfl B.am ?_; (with_reducible refine (laws_eqImage.calls k t235 t236 t237 _ _ t238 t224 t225 t226 _ _ t227 true _ ?side1 ?side2 ?side3 ?side4 A25.out).mono ?_); (case side1 => refine (Kd.R_reads' (e := 3) (base := w.heap.size) (ok := fun k_ => (True ∧ some k_ ≠ (.slice Ao17 t227.length co17 : Value).ownBlock)) (n := t238.length) (c := co24) ?_).2.2; exact (B.kr0 (B.rs4 HO240 BK242))); (case side2 => exact (Kd.R_reads' HO240.out).2.1); (case side3 => refine (Kd.R_reads' (e := 3) (base := w.heap.size) (ok := fun k_ => (True ∧ some k_ ≠ (.slice Ao24 t238.length co24 : Value).ownBlock)) (n := t227.length) (c := co17) ?_).2.2; exact (B.kr0 (B.rs4 HO229 BK242))); (case side4 => exact (Kd.R_reads' HO229.out).2.1); rintro e w30 ⟨rfl, hb⟩; refine ⟨_, rfl, ?_⟩; have n0_ := Aside0.mk (Kd.S_below (by (with_reducible repeat (first | apply Kd.S_alloc | apply Kd.S_drewN | apply Kd.S_drew)); exact (Kd.S_mono (Kd.S_far (p := ⟨gb242, 3, none⟩) (Kd.S_far (p := ⟨gb242, 2, none⟩) (Kd.S_far (p := ⟨gb242, 1, none⟩) (Kd.S_far (p := ⟨gb242, 0, none⟩) (Kd.S_types HO223.out BK242.out (by decide)) (fun _ hk => hk.2) (.int .i64 t235)) (fun _ hk => hk.2) (.int .i64 t236)) (fun _ hk => hk.2) (.int .i64 t237)) (fun _ hk => hk.2) (.slice Ao24 t238.length co24)) (fun _ h_ => h_.1))) hb); have n1_ := Aside0.mk (Kd.R_below (B.kr0 (B.rs4 HO229 BK242)) hb); have n2_ := Aside0.mk (Kd.S_below (by (with_reducible repeat (first | apply Kd.S_alloc | apply Kd.S_drewN | apply Kd.S_drew)); exact (Kd.S_mono (Kd.S_far (p := ⟨gb242, 3, none⟩) (Kd.S_far (p := ⟨gb242, 2, none⟩) (Kd.S_far (p := ⟨gb242, 1, none⟩) (Kd.S_far (p := ⟨gb242, 0, none⟩) (Kd.S_types HO234.out BK242.out (by decide)) (fun _ hk => hk.2) (.int .i64 t235)) (fun _ hk => hk.2) (.int .i64 t236)) (fun _ hk => hk.2) (.int .i64 t237)) (fun _ hk => hk.2) (.slice Ao24 t238.length co24)) (fun _ h_ => h_.1))) hb); have n3_ := Aside0.mk (Kd.R_below (B.kr0 (B.rs4 HO240 BK242)) hb); have n4_ := Aside0.mk (blk_below (B.kb0 (B.bf4 BK231 NB231_242)) hb); have n5_ := Aside0.mk (blk_below (g := gb242) (o := .cells #[.int .i64 t235, .int .i64 t236, .int .i64 t237, .slice Ao24 t238.length co24] 34 (0, 0)) (B.kb0 (B.bp4 BK242)) hb); have n6_ := Aside0.mk (below_step (B.bl HB) hb); clear HO223 HO229 HO234 HO240 BK231 BK242 HB; have HO223 := n0_; have HO229 := n1_; have HO234 := n2_; have HO240 := n3_; have BK231 := n4_; have BK242 := n5_; have HB := n6_; clear n0_ n1_ n2_ n3_ n4_ n5_ n6_; (try clear hb); (try clear hb2); (try clear hk); (try clear hi)))
      go_meet
      case rel => exact ⟨_, ((t241 != t230)), (by first | rfl | (simp; done) | (simp [*]; done)), H', ⟨by first | omega | exact Nat.le_refl _⟩, ⟨by (with_reducible repeat (first | apply Kd.S_alloc | apply Kd.S_drewN | apply Kd.S_drew)); exact Kd.S_mono HO234.out (fun _ hk => ⟨hk.1.2, hk.2⟩)⟩, ⟨B.kr0 (Kd.R_mono HO229.out (fun _ hk => hk.2))⟩, ⟨B.kr0 (Kd.R_mono HO240.out (fun _ hk => hk.2))⟩, ⟨B.kb BK231⟩, ⟨B.kb BK242⟩, ⟨B.bl HB⟩⟩
    replace c26 := Bool.eq_false_iff.mpr c26
    subst c26
    have H1 : (laws_FnExactJoinPasses.j0 k a0 a1 a2 l3 t230 t232 t241 true t224 t225 t226 t227 t235 t236 t237 t238) = some r := by rw [if_neg (show ¬ (false = true) by decide)] at H; exact H
    clear H
    have H := H1
    clear H1
    exact absurd ht_.out (by revert H; cases k <;> intro H <;> simp [laws_FnExactJoinPasses.j0] at H <;> (first | (subst H; decide) | simp [← H] | simp [H]))
  case rest =>
    clear HC11
    try clear c1
    try clear c2
    try clear p2
    try clear c3
    try clear c6
    try clear c6b0
    try clear c9
    try clear c14
    try clear c15
    try clear c22
    try clear c24
    try clear c26
    try clear c27
    try clear c30
    try clear hcz16_0
    try clear hcz16_1
    try clear hcz16_2
    try clear hcz16_3
    try clear hcz23_0
    try clear hcz23_1
    try clear hcz23_2
    try clear hcz23_3
    try clear hcz28_0
    try clear hcz28_1
    try clear hcz28_2
    try clear hcz28_3
    try clear hcz29_0
    try clear hcz29_1
    try clear hcz29_2
    try clear hcz29_3
    try clear hfz16_0
    try clear hfz16_1
    try clear hfz16_2
    try clear hfz16_3
    try clear hfz23_0
    try clear hfz23_1
    try clear hfz23_2
    try clear hfz23_3
    try clear hfz28_0
    try clear hfz28_1
    try clear hfz28_2
    try clear hfz28_3
    try clear hfz29_0
    try clear hfz29_1
    try clear hfz29_2
    try clear hfz29_3
    obtain ⟨kq, x52_10, rfl, HA, HJ10, HO_12, HO_232003, HO_243003, BK231, BK242, HB⟩ := hcut
    cases kq with
    | zero => exact absurd HA.out (by simp [laws_FnExactJoinPasses.j0])
    | succ kj10 =>
      have H := HA.out
      clear HA
      simp only [laws_FnExactJoinPasses.j0] at H
      by_cases c31 : x52_10 = true
      · subst c31
        have H1 : (some false) = some r := by rw [if_pos rfl] at H; exact H
        clear H
        have H := H1
        clear H1
        obtain rfl := Option.some.inj H
        exact absurd ht_.out (by decide)
      replace c31 := Bool.eq_false_iff.mpr c31
      subst c31
      have H1 : ((laws_toIntSS.f kj10 l3).bind fun t244 => ((laws_eqIntSS.f kj10 t232 t244).bind fun t247 => (if t247 = true then ((laws_markIntSS.f kj10 t232 1).bind fun t248 => (if t248 < 0 then (laws_FnExactJoinPasses.j1 kj10 a0 a1 a2 l3 t230 true t224 t225 t226 t227 t235 t236 t237 t238) else ((laws_eqImage.f kj10 t235 t236 t237 t238 t224 t225 t226 t227).bind fun t249 => (if t249 = true then (laws_FnExactJoinPasses.j1 kj10 a0 a1 a2 l3 t230 (t241 != t230) t224 t225 t226 t227 t235 t236 t237 t238) else (laws_FnExactJoinPasses.j1 kj10 a0 a1 a2 l3 t230 true t224 t225 t226 t227 t235 t236 t237 t238))))) else (some false)))) = some r := by rw [if_neg (show ¬ (false = true) by decide)] at H; exact H
      clear H
      have H := H1
      clear H1
      replace H := Option.bind_eq_some_iff.mp H
      obtain ⟨t244, A320, H⟩ := H
      replace H : ((laws_eqIntSS.f kj10 t232 t244).bind fun t247 => (if t247 = true then ((laws_markIntSS.f kj10 t232 1).bind fun t248 => (if t248 < 0 then (laws_FnExactJoinPasses.j1 kj10 a0 a1 a2 l3 t230 true t224 t225 t226 t227 t235 t236 t237 t238) else ((laws_eqImage.f kj10 t235 t236 t237 t238 t224 t225 t226 t227).bind fun t249 => (if t249 = true then (laws_FnExactJoinPasses.j1 kj10 a0 a1 a2 l3 t230 (t241 != t230) t224 t225 t226 t227 t235 t236 t237 t238) else (laws_FnExactJoinPasses.j1 kj10 a0 a1 a2 l3 t230 true t224 t225 t226 t227 t235 t236 t237 t238))))) else (some false))) = some r := H
      have A32 := Aside0.mk A320
      clear A320
      replace H := Option.bind_eq_some_iff.mp H
      obtain ⟨t247, A330, H⟩ := H
      replace H : (if t247 = true then ((laws_markIntSS.f kj10 t232 1).bind fun t248 => (if t248 < 0 then (laws_FnExactJoinPasses.j1 kj10 a0 a1 a2 l3 t230 true t224 t225 t226 t227 t235 t236 t237 t238) else ((laws_eqImage.f kj10 t235 t236 t237 t238 t224 t225 t226 t227).bind fun t249 => (if t249 = true then (laws_FnExactJoinPasses.j1 kj10 a0 a1 a2 l3 t230 (t241 != t230) t224 t225 t226 t227 t235 t236 t237 t238) else (laws_FnExactJoinPasses.j1 kj10 a0 a1 a2 l3 t230 true t224 t225 t226 t227 t235 t236 t237 t238))))) else (some false)) = some r := H
      have A33 := Aside0.mk A330
      clear A330
      by_cases c34 : t247 = true
      · subst c34
        have H1 : ((laws_markIntSS.f kj10 t232 1).bind fun t248 => (if t248 < 0 then (laws_FnExactJoinPasses.j1 kj10 a0 a1 a2 l3 t230 true t224 t225 t226 t227 t235 t236 t237 t238) else ((laws_eqImage.f kj10 t235 t236 t237 t238 t224 t225 t226 t227).bind fun t249 => (if t249 = true then (laws_FnExactJoinPasses.j1 kj10 a0 a1 a2 l3 t230 (t241 != t230) t224 t225 t226 t227 t235 t236 t237 t238) else (laws_FnExactJoinPasses.j1 kj10 a0 a1 a2 l3 t230 true t224 t225 t226 t227 t235 t236 t237 t238))))) = some r := by rw [if_pos rfl] at H; exact H
        clear H
        have H := H1
        clear H1
        replace H := Option.bind_eq_some_iff.mp H
        obtain ⟨t248, A350, H⟩ := H
        replace H : (if t248 < 0 then (laws_FnExactJoinPasses.j1 kj10 a0 a1 a2 l3 t230 true t224 t225 t226 t227 t235 t236 t237 t238) else ((laws_eqImage.f kj10 t235 t236 t237 t238 t224 t225 t226 t227).bind fun t249 => (if t249 = true then (laws_FnExactJoinPasses.j1 kj10 a0 a1 a2 l3 t230 (t241 != t230) t224 t225 t226 t227 t235 t236 t237 t238) else (laws_FnExactJoinPasses.j1 kj10 a0 a1 a2 l3 t230 true t224 t225 t226 t227 t235 t236 t237 t238)))) = some r := H
        have A35 := Aside0.mk A350
        clear A350
        have HC36 := Aside0.mk H
        clear H
        go_upto_region 14 with (first | ((with_reducible refine gate_callee (f := 31) rfl ?_); refine goesL_ (some 55) rfl rfl Try.func31 (by kernel_rfl) rfl #[.slice A3 l3.length c3] rfl B.am ?_; (with_reducible refine (laws_toIntSS.calls kj10 _ _ l3 t244 _ ?side1 ?side2 A32.out).mono ?_); (case side1 => exact B.kc (Kd.C_below HR3.out HB.out)); (case side2 => exact HC3.out); rintro e w37 ⟨v245, rfl, ho0, hb⟩; refine ⟨_, rfl, ?_⟩; have n0_ := Aside0.mk (Kd.S_elder' (by (with_reducible repeat (first | apply Kd.S_alloc | apply Kd.S_drewN | apply Kd.S_drew)); exact HO_12.out) (Kd.S_base ho0) hb); have n1_ := Aside0.mk (Kd.R_below (B.kr HO_232003) hb); have n2_ := Aside0.mk (Kd.R_below (B.kr HO_243003) hb); have n3_ := Aside0.mk (Kd.S_lower (Kd.S_new' (Kd.S_new' (Kd.S_new' ho0 (Kd.S_lt (by (with_reducible repeat (first | apply Kd.S_alloc | apply Kd.S_drewN | apply Kd.S_drew)); exact HO_12.out))) (Kd.R_lt (B.kr HO_232003))) (Kd.R_lt (B.kr HO_243003))) (below_size (B.bl HB))); have n4_ := Aside0.mk (blk_below (B.kb BK231) hb); have n5_ := Aside0.mk (blk_below (B.kb BK242) hb); have n6_ := Aside0.mk (below_step (B.bl HB) hb); clear HO_12 HO_232003 HO_243003 BK231 BK242 HB; have HO_12 := n0_; have HO_232003 := n1_; have HO_243003 := n2_; have HO246 := n3_; have BK231 := n4_; have BK242 := n5_; have HB := n6_; clear n0_ n1_ n2_ n3_ n4_ n5_ n6_; (try clear hb); (try clear hb2); (try clear hk); (try clear hi); (try clear ho0); obtain ⟨Ao38, co38, eo38⟩ := Kd.S_slice HO246.out; subst eo38) | ((with_reducible refine gate_callee (f := 32) rfl ?_); refine goesL_ (some 56) rfl rfl Try.func32 (by kernel_rfl) rfl #[.slice Ao19 t232.length co19, .slice Ao38 t244.length co38] rfl B.am ?_; (with_reducible refine (laws_eqIntSS.calls kj10 _ _ t232 _ _ t244 true _ ?side1 ?side2 ?side3 ?side4 A33.out).mono ?_); (case side1 => exact B.kc ((Kd.S_reads' HO_12.out).2.2)); (case side2 => exact (Kd.S_reads' HO_12.out).2.1); (case side3 => exact B.kc ((Kd.S_reads' HO246.out).2.2)); (case side4 => exact (Kd.S_reads' HO246.out).2.1); rintro e w' ⟨rfl, ⟨nd, rfl⟩⟩; refine ⟨_, rfl, ?_⟩) | ((with_reducible refine gate_callee (f := 33) rfl ?_); refine goesL_ (some 60) rfl rfl Try.func33 (by kernel_rfl) rfl #[.slice Ao19 t232.length co19, .int .i64 1] rfl B.am ?_; refine (laws_markIntSS.calls kj10 _ _ t232 1 t248 w _ (B.bl HB) (Kd.S_bound (Kd.S_drewN HO_12.out _)) A35.out).mono ?_; rintro e w39 ⟨rfl, hb, hkp⟩; refine ⟨_, rfl, ?_⟩; have n0_ := Aside0.mk (Kd.S_nil (Kd.slice 3 (Kd.int .i64)) 32 w39 w.heap.size (fun _ => True)); have n1_ := Aside0.mk (mark_row (B.kr HO_232003) hkp (fun k_ e_ hs_ => by first | exact hs_.1 e_ | exact hs_.2 e_ | exact hs_.1.1 e_ | exact hs_.1.2 e_ | exact hs_.2.1 e_ | exact hs_.2.2 e_)); have n2_ := Aside0.mk (mark_row (B.kr HO_243003) hkp (fun k_ e_ hs_ => by first | exact hs_.1 e_ | exact hs_.2 e_ | exact hs_.1.1 e_ | exact hs_.1.2 e_ | exact hs_.2.1 e_ | exact hs_.2.2 e_)); have n3_ := Aside0.mk (Kd.S_nil (Kd.slice 3 (Kd.int .i64)) 32 w39 w.heap.size (fun _ => True)); have n4_ := Aside0.mk (mark_blk (B.kb BK231) hkp (by decide)); have n5_ := Aside0.mk (mark_blk (B.kb BK242) hkp (by decide)); have n6_ := Aside0.mk hb; clear HO_12 HO_232003 HO_243003 HO246 BK231 BK242 HB; have HO_12 := n0_; have HO_232003 := n1_; have HO_243003 := n2_; have HO246 := n3_; have BK231 := n4_; have BK242 := n5_; have HB := n6_; clear n0_ n1_ n2_ n3_ n4_ n5_ n6_; (try clear hkp); (try clear hb); (try clear hb2); (try clear hk); (try clear hi)))
        (try simp only [Act.put, List.setIfInBounds_toArray, List.set_cons_zero, List.set_cons_succ])
        go_cut [73] (fun v73 wc => ∃ (kq : Nat) (x73_35 : Bool), v73 = .bool x73_35 ∧ Aside0 (laws_FnExactJoinPasses.j1 kq a0 a1 a2 l3 t230 x73_35 t224 t225 t226 t227 t235 t236 t237 t238 = some r) ∧ Aside0 (kq ≤ kj10) ∧ Aside0 (Kd.R (Kd.int .i64) 3 wc w.heap.size (fun k_ => some k_ ≠ ((.slice Ao24 t238.length co24) : Value).ownBlock) (.slice Ao17 t227.length co17) t227) ∧ Aside0 (Kd.R (Kd.int .i64) 3 wc w.heap.size (fun k_ => some k_ ≠ ((.slice Ao17 t227.length co17) : Value).ownBlock) (.slice Ao24 t238.length co24) t238) ∧ Aside0 (wc.heap[gb231]? = some (.cells #[.int .i64 t224, .int .i64 t225, .int .i64 t226, (.slice Ao17 t227.length co17)] 34 (0, 0))) ∧ Aside0 (wc.heap[gb242]? = some (.cells #[.int .i64 t235, .int .i64 t236, .int .i64 t237, (.slice Ao24 t238.length co24)] 34 (0, 0))) ∧ Aside0 (Below w.heap.size w wc))
        case first =>
          have H := HC36.out
          clear HC36
          by_cases c40 : t248 < 0
          · rw [if_pos c40] at H
            have c40b0 : decide (t248 < 0) = true := decide_eq_true c40
            clear c40
            (first | rw [c40b0] | (simp only [i64_w, i32_w]; rw [c40b0]) | skip)
            exact absurd ht_.out (by revert H; cases kj10 <;> intro H <;> simp [laws_FnExactJoinPasses.j1] at H <;> (first | (subst H; decide) | simp [← H] | simp [H]))
          rw [if_neg c40] at H
          have c40b0 : decide (t248 < 0) = false := decide_eq_false c40
          clear c40
          (first | rw [c40b0] | (simp only [i64_w, i32_w]; rw [c40b0]) | skip)
          replace H := Option.bind_eq_some_iff.mp H
          obtain ⟨t249, A410, H⟩ := H
          replace H : (if t249 = true then (laws_FnExactJoinPasses.j1 kj10 a0 a1 a2 l3 t230 (t241 != t230) t224 t225 t226 t227 t235 t236 t237 t238) else (laws_FnExactJoinPasses.j1 kj10 a0 a1 a2 l3 t230 true t224 t225 t226 t227 t235 t236 t237 t238)) = some r := H
          have A41 := Aside0.mk A410
          clear A410
          by_cases c42 : t249 = true
          · subst c42
            have H1 : (laws_FnExactJoinPasses.j1 kj10 a0 a1 a2 l3 t230 (t241 != t230) t224 t225 t226 t227 t235 t236 t237 t238) = some r := by rw [if_pos rfl] at H; exact H
            clear H
            have H := H1
            clear H1
            have H' := Aside0.mk H
            clear H
            have hnb43 := NB242_231.out
            have hnc43 := NB231_242.out
            have hcz44_0 : w39.cell? ⟨gb242, 0, none⟩ = some (.int .i64 t235) := B.bc BK242 0
            have hcz44_1 : w39.cell? ⟨gb242, 1, none⟩ = some (.int .i64 t236) := B.bc BK242 1
            have hcz44_2 : w39.cell? ⟨gb242, 2, none⟩ = some (.int .i64 t237) := B.bc BK242 2
            have hcz44_3 : w39.cell? ⟨gb242, 3, none⟩ = some (.slice Ao24 t238.length co24) := B.bc BK242 3
            have hfz44_0 := blk_frozen BK242.out 0
            have hfz44_1 := blk_frozen BK242.out 1
            have hfz44_2 := blk_frozen BK242.out 2
            have hfz44_3 := blk_frozen BK242.out 3
            have hcz45_0 : w39.cell? ⟨gb231, 0, none⟩ = some (.int .i64 t224) := B.bc BK231 0
            have hcz45_1 : w39.cell? ⟨gb231, 1, none⟩ = some (.int .i64 t225) := B.bc BK231 1
            have hcz45_2 : w39.cell? ⟨gb231, 2, none⟩ = some (.int .i64 t226) := B.bc BK231 2
            have hcz45_3 : w39.cell? ⟨gb231, 3, none⟩ = some (.slice Ao17 t227.length co17) := B.bc BK231 3
            have hfz45_0 := blk_frozen BK231.out 0
            have hfz45_1 := blk_frozen BK231.out 1
            have hfz45_2 := blk_frozen BK231.out 2
            have hfz45_3 := blk_frozen BK231.out 3
            go_wp2_with (first | (go_at_call 24; (with_reducible refine (laws_eqImage.calls kj10 t235 t236 t237 _ _ t238 t224 t225 t226 _ _ t227 true _ ?side1 ?side2 ?side3 ?side4 A41.out).mono ?_); (case side1 => exact B.kc ((Kd.R_reads' HO_243003.out).2.2)); (case side2 => exact (Kd.R_reads' HO_243003.out).2.1); (case side3 => exact B.kc ((Kd.R_reads' HO_232003.out).2.2)); (case side4 => exact (Kd.R_reads' HO_232003.out).2.1); rintro e w46 ⟨rfl, hb⟩; have n0_ := Aside0.mk (Kd.S_below (by (with_reducible repeat (first | apply Kd.S_alloc | apply Kd.S_drewN | apply Kd.S_drew)); exact HO_12.out) hb); have n1_ := Aside0.mk (Kd.R_below (B.kr HO_232003) hb); have n2_ := Aside0.mk (Kd.R_below (B.kr HO_243003) hb); have n3_ := Aside0.mk (Kd.S_below (by (with_reducible repeat (first | apply Kd.S_alloc | apply Kd.S_drewN | apply Kd.S_drew)); exact HO246.out) hb); have n4_ := Aside0.mk (blk_below (B.kb BK231) hb); have n5_ := Aside0.mk (blk_below (B.kb BK242) hb); have n6_ := Aside0.mk (below_step (B.bl HB) hb); clear HO_12 HO_232003 HO_243003 HO246 BK231 BK242 HB; have HO_12 := n0_; have HO_232003 := n1_; have HO_243003 := n2_; have HO246 := n3_; have BK231 := n4_; have BK242 := n5_; have HB := n6_; clear n0_ n1_ n2_ n3_ n4_ n5_ n6_; (try clear hb); (try clear hb2); (try clear hk); (try clear hi)))
            go_meet
            case rel => exact ⟨_, ((t241 != t230)), (by first | rfl | (simp; done) | (simp [*]; done)), H', ⟨by have := HJ10.out; first | omega | exact Nat.le_refl _⟩, ⟨B.kr HO_232003⟩, ⟨B.kr HO_243003⟩, ⟨B.kb BK231⟩, ⟨B.kb BK242⟩, ⟨B.bl HB⟩⟩
          replace c42 := Bool.eq_false_iff.mpr c42
          subst c42
          have H1 : (laws_FnExactJoinPasses.j1 kj10 a0 a1 a2 l3 t230 true t224 t225 t226 t227 t235 t236 t237 t238) = some r := by rw [if_neg (show ¬ (false = true) by decide)] at H; exact H
          clear H
          have H := H1
          clear H1
          exact absurd ht_.out (by revert H; cases kj10 <;> intro H <;> simp [laws_FnExactJoinPasses.j1] at H <;> (first | (subst H; decide) | simp [← H] | simp [H]))
        case rest =>
          clear HC36
          try clear c1
          try clear c2
          try clear p2
          try clear c3
          try clear c4
          try clear c6
          try clear c6b0
          try clear c9
          try clear c14
          try clear c15
          try clear c22
          try clear c24
          try clear c26
          try clear c27
          try clear c30
          try clear c31
          try clear c32
          try clear c33
          try clear c34
          try clear c40
          try clear c40b0
          try clear c42
          try clear c43
          try clear hcz16_0
          try clear hcz16_1
          try clear hcz16_2
          try clear hcz16_3
          try clear hcz23_0
          try clear hcz23_1
          try clear hcz23_2
          try clear hcz23_3
          try clear hcz28_0
          try clear hcz28_1
          try clear hcz28_2
          try clear hcz28_3
          try clear hcz29_0
          try clear hcz29_1
          try clear hcz29_2
          try clear hcz29_3
          try clear hcz44_0
          try clear hcz44_1
          try clear hcz44_2
          try clear hcz44_3
          try clear hcz45_0
          try clear hcz45_1
          try clear hcz45_2
          try clear hcz45_3
          try clear hfz16_0
          try clear hfz16_1
          try clear hfz16_2
          try clear hfz16_3
          try clear hfz23_0
          try clear hfz23_1
          try clear hfz23_2
          try clear hfz23_3
          try clear hfz28_0
          try clear hfz28_1
          try clear hfz28_2
          try clear hfz28_3
          try clear hfz29_0
          try clear hfz29_1
          try clear hfz29_2
          try clear hfz29_3
          try clear hfz44_0
          try clear hfz44_1
          try clear hfz44_2
          try clear hfz44_3
          try clear hfz45_0
          try clear hfz45_1
          try clear hfz45_2
          try clear hfz45_3
          try clear p2
          obtain ⟨kq, x73_35, rfl, HA, HJ35, HO_232003, HO_243003, BK231, BK242, HB⟩ := hcut
          cases kq with
          | zero => exact absurd HA.out (by simp [laws_FnExactJoinPasses.j1])
          | succ kj35 =>
            have H := HA.out
            clear HA
            simp only [laws_FnExactJoinPasses.j1] at H
            by_cases c47 : x73_35 = true
            · subst c47
              have H1 : (some false) = some r := by rw [if_pos rfl] at H; exact H
              clear H
              have H := H1
              clear H1
              obtain rfl := Option.some.inj H
              exact absurd ht_.out (by decide)
            replace c47 := Bool.eq_false_iff.mpr c47
            subst c47
            have H1 : ((laws_markImage.f kj35 t235 t236 t237 t238 1).bind fun bt250 => ((laws_heldImage.f kj35 t235 t236 t237 bt250.2 1).bind fun t252 => (if t252 < 0 then (some false) else (if t252 = bt250.1 then ((laws_toIntSS.f kj35 l3).bind fun t253 => ((impl_JoinPasses.f kj35 a0 a1 a2 t253).bind fun bt256 => ((laws_eqImage.f kj35 bt256.1 bt256.2.1 bt256.2.2.1 bt256.2.2.2.1 t224 t225 t226 t227).bind fun t264 => (if t264 = true then (laws_FnExactJoinPasses.j2 kj35 bt250.1 (bt256.2.2.2.2 != t230) t235 t236 t237 bt250.2) else (laws_FnExactJoinPasses.j2 kj35 bt250.1 true t235 t236 t237 bt250.2))))) else (some false))))) = some r := by rw [if_neg (show ¬ (false = true) by decide)] at H; exact H
            clear H
            have H := H1
            clear H1
            replace H := Option.bind_eq_some_iff.mp H
            obtain ⟨⟨t250, t251⟩, A480, H⟩ := H
            replace H : ((laws_heldImage.f kj35 t235 t236 t237 t251 1).bind fun t252 => (if t252 < 0 then (some false) else (if t252 = t250 then ((laws_toIntSS.f kj35 l3).bind fun t253 => ((impl_JoinPasses.f kj35 a0 a1 a2 t253).bind fun bt256 => ((laws_eqImage.f kj35 bt256.1 bt256.2.1 bt256.2.2.1 bt256.2.2.2.1 t224 t225 t226 t227).bind fun t264 => (if t264 = true then (laws_FnExactJoinPasses.j2 kj35 t250 (bt256.2.2.2.2 != t230) t235 t236 t237 t251) else (laws_FnExactJoinPasses.j2 kj35 t250 true t235 t236 t237 t251))))) else (some false)))) = some r := H
            have A48 := Aside0.mk A480
            clear A480
            replace H := Option.bind_eq_some_iff.mp H
            obtain ⟨t252, A490, H⟩ := H
            replace H : (if t252 < 0 then (some false) else (if t252 = t250 then ((laws_toIntSS.f kj35 l3).bind fun t253 => ((impl_JoinPasses.f kj35 a0 a1 a2 t253).bind fun bt256 => ((laws_eqImage.f kj35 bt256.1 bt256.2.1 bt256.2.2.1 bt256.2.2.2.1 t224 t225 t226 t227).bind fun t264 => (if t264 = true then (laws_FnExactJoinPasses.j2 kj35 t250 (bt256.2.2.2.2 != t230) t235 t236 t237 t251) else (laws_FnExactJoinPasses.j2 kj35 t250 true t235 t236 t237 t251))))) else (some false))) = some r := H
            have A49 := Aside0.mk A490
            clear A490
            by_cases c50 : t252 < 0
            · rw [if_pos c50] at H
              have c50b0 : decide (t252 < 0) = true := decide_eq_true c50
              clear c50
              obtain rfl := Option.some.inj H
              exact absurd ht_.out (by decide)
            rw [if_neg c50] at H
            have c50b0 : decide (t252 < 0) = false := decide_eq_false c50
            clear c50
            by_cases c51 : t252 = t250
            · rw [if_pos c51] at H
              have c51b0 : (t252 == t250) = true := beq_iff_eq.mpr c51
              have c51b1 : (t252 != t250) = false := bne_eq_false_iff_eq.mpr c51
              clear c51
              replace H := Option.bind_eq_some_iff.mp H
              obtain ⟨t253, A520, H⟩ := H
              replace H : ((impl_JoinPasses.f kj35 a0 a1 a2 t253).bind fun bt256 => ((laws_eqImage.f kj35 bt256.1 bt256.2.1 bt256.2.2.1 bt256.2.2.2.1 t224 t225 t226 t227).bind fun t264 => (if t264 = true then (laws_FnExactJoinPasses.j2 kj35 t250 (bt256.2.2.2.2 != t230) t235 t236 t237 t251) else (laws_FnExactJoinPasses.j2 kj35 t250 true t235 t236 t237 t251)))) = some r := H
              have A52 := Aside0.mk A520
              clear A520
              replace H := Option.bind_eq_some_iff.mp H
              obtain ⟨⟨t256, t257, t258, t259, t262⟩, A530, H⟩ := H
              replace H : ((laws_eqImage.f kj35 t256 t257 t258 t259 t224 t225 t226 t227).bind fun t264 => (if t264 = true then (laws_FnExactJoinPasses.j2 kj35 t250 (t262 != t230) t235 t236 t237 t251) else (laws_FnExactJoinPasses.j2 kj35 t250 true t235 t236 t237 t251))) = some r := H
              have A53 := Aside0.mk A530
              clear A530
              have HC54 := Aside0.mk H
              clear H
              have hnb55 := NB242_231.out
              have hnc55 := NB231_242.out
              have hcz56_0 : wc.cell? ⟨gb242, 0, none⟩ = some (.int .i64 t235) := B.bc BK242 0
              have hcz56_1 : wc.cell? ⟨gb242, 1, none⟩ = some (.int .i64 t236) := B.bc BK242 1
              have hcz56_2 : wc.cell? ⟨gb242, 2, none⟩ = some (.int .i64 t237) := B.bc BK242 2
              have hcz56_3 : wc.cell? ⟨gb242, 3, none⟩ = some (.slice Ao24 t238.length co24) := B.bc BK242 3
              have hfz56_0 := blk_frozen BK242.out 0
              have hfz56_1 := blk_frozen BK242.out 1
              have hfz56_2 := blk_frozen BK242.out 2
              have hfz56_3 := blk_frozen BK242.out 3
              go_upto_region 25 with (first | ((with_reducible refine gate_callee (f := 25) rfl ?_); refine goesL_ (some 76) rfl rfl Try.func25 (by kernel_rfl) rfl #[.agg #[.int .i64 t235, .int .i64 t236, .int .i64 t237, .slice Ao24 t238.length co24], .int .i64 1] rfl B.am ?_; (with_reducible refine (laws_markImage.calls kj35 t235 t236 t237 (fun k_ => some k_ = (.slice Ao24 t238.length co24 : Value).ownBlock) (.slice Ao24 t238.length co24) t238 1 t250 t251 w _ ?side1 ?side2 A48.out).mono ?_); (case side1 => exact B.bl HB); (case side2 => exact Kd.R_tight rfl HO_243003.out); rintro e w57 ⟨rfl, hy0, hb, hkp⟩; refine ⟨_, rfl, ?_⟩; have n0_ := Aside0.mk (Kd.R_mono (ok' := fun k_ => some k_ ≠ (.slice Ao24 t238.length co24 : Value).ownBlock) (Kd.R_keptB (HO_232003.out) hkp (fun k_ hk_ hs_ => (hk_) hs_)) (fun k_ hk_ => hk_.1)); have n1_ := Aside0.mk (Kd.R_reok rfl hy0 (fun k_ e_ => HO_243003.out.1 k_ e_)); have n2_ := Aside0.mk (blk_kept (B.kb BK231) hkp (fun hs_ => (fun e_ => (Kd.R_ne HO_243003.out BK231.out (by decide)) e_) hs_)); have n3_ := Aside0.mk (blk_kept (B.kb BK242) hkp (fun hs_ => (fun e_ => (Kd.R_ne HO_243003.out BK242.out (by decide)) e_) hs_)); have n4_ := Aside0.mk (hb); clear HO_232003 HO_243003 BK231 BK242 HB; have HO_232003 := n0_; have HO_243003 := n1_; have BK231 := n2_; have BK242 := n3_; have HB := n4_; clear n0_ n1_ n2_ n3_ n4_; (try clear hb); (try clear hkp); (try clear hy0); have hcz58_0 : w57.cell? ⟨gb242, 0, none⟩ = some (.int .i64 t235) := B.bc BK242 0; have hcz58_1 : w57.cell? ⟨gb242, 1, none⟩ = some (.int .i64 t236) := B.bc BK242 1; have hcz58_2 : w57.cell? ⟨gb242, 2, none⟩ = some (.int .i64 t237) := B.bc BK242 2; have hcz58_3 : w57.cell? ⟨gb242, 3, none⟩ = some (.slice Ao24 t238.length co24) := B.bc BK242 3; have hfz58_0 := blk_frozen BK242.out 0; have hfz58_1 := blk_frozen BK242.out 1; have hfz58_2 := blk_frozen BK242.out 2; have hfz58_3 := blk_frozen BK242.out 3) | ((with_reducible refine gate_callee (f := 34) rfl ?_); refine goesL_ (some 79) rfl rfl Try.func34 (by kernel_rfl) rfl #[.agg #[.int .i64 t235, .int .i64 t236, .int .i64 t237, .slice Ao24 t251.length co24], .int .i64 1] rfl (by (try simp only [List.map_toArray, List.map_cons, List.map_nil]); first | done | (rw [show t251.length = t238.length from (Kd.R_reads' HO_243003.out).1.symm] <;> rfl) | rfl | (simp only [List.length_drop, List.length_take]; rfl)) ?_; (with_reducible refine (laws_heldImage.calls kj35 t235 t236 t237 _ _ t251 1 t252 _ ?side1 ?side2 A49.out).mono ?_); (case side1 => exact B.kc ((Kd.R_reads' HO_243003.out).2.2)); (case side2 => rw [show t251.length = t238.length from (Kd.R_reads' HO_243003.out).1.symm]; exact (Kd.R_reads' HO_243003.out).2.1); rintro e w59 ⟨rfl, hb⟩; refine ⟨_, rfl, ?_⟩; have n0_ := Aside0.mk (Kd.R_below (B.kr HO_232003) hb); have n1_ := Aside0.mk (Kd.R_below (B.kr HO_243003) hb); have n2_ := Aside0.mk (blk_below (B.kb BK231) hb); have n3_ := Aside0.mk (blk_below (B.kb BK242) hb); have n4_ := Aside0.mk (below_step (B.bl HB) hb); clear HO_232003 HO_243003 BK231 BK242 HB; have HO_232003 := n0_; have HO_243003 := n1_; have BK231 := n2_; have BK242 := n3_; have HB := n4_; clear n0_ n1_ n2_ n3_ n4_; (try clear hb); (try clear hb2); (try clear hk); (try clear hi)) | ((with_reducible refine gate_callee (f := 31) rfl ?_); refine goesL_ (some 90) rfl rfl Try.func31 (by kernel_rfl) rfl #[.slice A3 l3.length c3] rfl B.am ?_; (with_reducible refine (laws_toIntSS.calls kj35 _ _ l3 t253 _ ?side1 ?side2 A52.out).mono ?_); (case side1 => exact B.kc (Kd.C_below HR3.out HB.out)); (case side2 => exact HC3.out); rintro e w60 ⟨v254, rfl, ho0, hb⟩; refine ⟨_, rfl, ?_⟩; have n0_ := Aside0.mk (Kd.R_below (B.kr HO_232003) hb); have n1_ := Aside0.mk (Kd.R_below (B.kr HO_243003) hb); have n2_ := Aside0.mk (Kd.S_lower (Kd.S_new' (Kd.S_new' ho0 (Kd.R_lt (B.kr HO_232003))) (Kd.R_lt (B.kr HO_243003))) (below_size (B.bl HB))); have n3_ := Aside0.mk (blk_below (B.kb BK231) hb); have n4_ := Aside0.mk (blk_below (B.kb BK242) hb); have n5_ := Aside0.mk (below_step (B.bl HB) hb); clear HO_232003 HO_243003 BK231 BK242 HB; have HO_232003 := n0_; have HO_243003 := n1_; have HO255 := n2_; have BK231 := n3_; have BK242 := n4_; have HB := n5_; clear n0_ n1_ n2_ n3_ n4_ n5_; (try clear hb); (try clear hb2); (try clear hk); (try clear hi); (try clear ho0); obtain ⟨Ao61, co61, eo61⟩ := Kd.S_slice HO255.out; subst eo61) | ((with_reducible refine gate_callee (f := 14) rfl ?_); refine goesL_ (some 91) rfl rfl Try.func14 (by kernel_rfl) rfl #[.int .i64 a0, .int .i64 a1, .int .i64 a2, .slice Ao61 t253.length co61] rfl B.am ?_; (with_reducible refine (impl_JoinPasses.calls kj35 a0 a1 a2 _ _ t253 t256 t257 t258 t259 t262 _ ?side1 ?side2 A53.out).mono ?_); (case side1 => exact B.kc ((Kd.S_reads' HO255.out).2.2)); (case side2 => exact (Kd.S_reads' HO255.out).2.1); rintro e w62 ⟨v260, rfl, ho0, hb⟩; refine ⟨_, rfl, ?_⟩; have n0_ := Aside0.mk (Kd.R_elder' (B.kr HO_232003) (Kd.R_base ho0) hb); have n1_ := Aside0.mk (Kd.R_elder' (B.kr HO_243003) (Kd.R_base ho0) hb); have n2_ := Aside0.mk (Kd.S_elder' (by (with_reducible repeat (first | apply Kd.S_alloc | apply Kd.S_drewN | apply Kd.S_drew)); exact HO255.out) (Kd.R_base ho0) hb); have n3_ := Aside0.mk (Kd.R_lower (Kd.R_new' (Kd.R_new' ho0 (Kd.R_lt (B.kr HO_232003))) (Kd.R_lt (B.kr HO_243003))) (below_size (B.bl HB))); have n4_ := Aside0.mk (blk_below (B.kb BK231) hb); have n5_ := Aside0.mk (blk_below (B.kb BK242) hb); have n6_ := Aside0.mk (below_step (B.bl HB) hb); clear HO_232003 HO_243003 HO255 BK231 BK242 HB; have HO_232003 := n0_; have HO_243003 := n1_; have HO255 := n2_; have HO261 := n3_; have BK231 := n4_; have BK242 := n5_; have HB := n6_; clear n0_ n1_ n2_ n3_ n4_ n5_ n6_; (try clear hb); (try clear hb2); (try clear hk); (try clear hi); (try clear ho0)) | ((with_reducible refine gate_dst (N := 18) rfl ?_); refine box_event ?hg (N := 18) ?hd (cs := #[.int .i64 0, .int .i64 0, .int .i64 0, .slice none 0 0]) (t := 34) ?hr ?_; (case hd => rfl); (case hg => rfl); (case hr => first | (go_simp; done) | (go_simp; rfl)); intro gb263 hg w63 hbox hb; have n0_ := Aside0.mk (Kd.R_below (B.kr HO_232003) hb); have n1_ := Aside0.mk (Kd.R_below (B.kr HO_243003) hb); have n2_ := Aside0.mk (Kd.S_below (by (with_reducible repeat (first | apply Kd.S_alloc | apply Kd.S_drewN | apply Kd.S_drew)); exact HO255.out) hb); have n3_ := Aside0.mk (Kd.R_below (B.kr HO261) hb); have n4_ := Aside0.mk (blk_below (B.kb BK231) hb); have n5_ := Aside0.mk (blk_below (B.kb BK242) hb); have n6_ := Aside0.mk (below_step (B.bl HB) hb); have n7_ := Aside0.mk (hbox); have n8_ := Aside0.mk (B.nle hg (below_size (B.bl HB))); have n9_ := Aside0.mk (B.nle hg (below_size (B.bl HB))); have n10_ := Aside0.mk (B.nlt hg (blk_lt (B.kb BK231))); have n11_ := Aside0.mk (B.ngt hg (blk_lt (B.kb BK231))); have n12_ := Aside0.mk (B.nlt hg (blk_lt (B.kb BK242))); have n13_ := Aside0.mk (B.ngt hg (blk_lt (B.kb BK242))); clear HO_232003 HO_243003 HO255 HO261 BK231 BK242 HB; have HO_232003 := n0_; have HO_243003 := n1_; have HO255 := n2_; have HO261 := n3_; have BK231 := n4_; have BK242 := n5_; have HB := n6_; have BK263 := n7_; have GW263 := n8_; have GE263 := n9_; have NB231_263 := n10_; have NB263_231 := n11_; have NB242_263 := n12_; have NB263_242 := n13_; clear n0_ n1_ n2_ n3_ n4_ n5_ n6_ n7_ n8_ n9_ n10_ n11_ n12_ n13_; clear hb hbox hg; have hnb64 := NB263_231.out; have hnc64 := NB231_263.out; have hnb65 := NB263_242.out; have hnc65 := NB242_263.out; have hcz66_0 : w63.cell? ⟨gb263, 0, none⟩ = some (.int .i64 0) := B.bc BK263 0; have hcz66_1 : w63.cell? ⟨gb263, 1, none⟩ = some (.int .i64 0) := B.bc BK263 1; have hcz66_2 : w63.cell? ⟨gb263, 2, none⟩ = some (.int .i64 0) := B.bc BK263 2; have hcz66_3 : w63.cell? ⟨gb263, 3, none⟩ = some (.slice none 0 0) := B.bc BK263 3; have hfz66_0 := blk_frozen BK263.out 0; have hfz66_1 := blk_frozen BK263.out 1; have hfz66_2 := blk_frozen BK263.out 2; have hfz66_3 := blk_frozen BK263.out 3; obtain ⟨Ao67, co67, eo67⟩ := Kd.R_slice HO261.out; subst eo67))
              (try simp only [Act.put, List.setIfInBounds_toArray, List.set_cons_zero, List.set_cons_succ])
              go_cut [102] (fun v102 wc => ∃ (kq : Nat) (x102_53 : Bool), v102 = .bool x102_53 ∧ Aside0 (laws_FnExactJoinPasses.j2 kq t250 x102_53 t235 t236 t237 t251 = some r) ∧ Aside0 (kq ≤ kj35) ∧ Aside0 (Kd.R (Kd.int .i64) 3 wc w.heap.size (fun k_ => some k_ ≠ ((.slice Ao24 t238.length co24) : Value).ownBlock ∧ some k_ ≠ ((.slice Ao67 t259.length co67) : Value).ownBlock) (.slice Ao17 t227.length co17) t227) ∧ Aside0 (Kd.R (Kd.int .i64) 3 wc w.heap.size (fun k_ => some k_ ≠ ((.slice Ao17 t227.length co17) : Value).ownBlock ∧ some k_ ≠ ((.slice Ao67 t259.length co67) : Value).ownBlock) (.slice Ao24 t238.length co24) t251) ∧ Aside0 (Kd.R (Kd.int .i64) 3 wc w.heap.size (fun k_ => some k_ ≠ ((.slice Ao17 t227.length co17) : Value).ownBlock ∧ some k_ ≠ ((.slice Ao24 t238.length co24) : Value).ownBlock) (.slice Ao67 t259.length co67) t259) ∧ Aside0 (wc.heap[gb231]? = some (.cells #[.int .i64 t224, .int .i64 t225, .int .i64 t226, (.slice Ao17 t227.length co17)] 34 (0, 0))) ∧ Aside0 (wc.heap[gb242]? = some (.cells #[.int .i64 t235, .int .i64 t236, .int .i64 t237, (.slice Ao24 t238.length co24)] 34 (0, 0))) ∧ Aside0 (wc.heap[gb263]? = some (.cells #[.int .i64 t256, .int .i64 t257, .int .i64 t258, (.slice Ao67 t259.length co67)] 34 (0, 0))) ∧ Aside0 (Below w.heap.size w wc))
              case first =>
                have H := HC54.out
                clear HC54
                replace H := Option.bind_eq_some_iff.mp H
                obtain ⟨t264, A680, H⟩ := H
                replace H : (if t264 = true then (laws_FnExactJoinPasses.j2 kj35 t250 (t262 != t230) t235 t236 t237 t251) else (laws_FnExactJoinPasses.j2 kj35 t250 true t235 t236 t237 t251)) = some r := H
                have A68 := Aside0.mk A680
                clear A680
                by_cases c69 : t264 = true
                · subst c69
                  have H1 : (laws_FnExactJoinPasses.j2 kj35 t250 (t262 != t230) t235 t236 t237 t251) = some r := by rw [if_pos rfl] at H; exact H
                  clear H
                  have H := H1
                  clear H1
                  have H' := Aside0.mk H
                  clear H
                  have hnb70 := NB263_231.out
                  have hnc70 := NB231_263.out
                  have hnb71 := NB263_242.out
                  have hnc71 := NB242_263.out
                  have hcz72_0 : w63.cell? ⟨gb263, 0, none⟩ = some (.int .i64 0) := B.bc BK263 0
                  have hcz72_1 : w63.cell? ⟨gb263, 1, none⟩ = some (.int .i64 0) := B.bc BK263 1
                  have hcz72_2 : w63.cell? ⟨gb263, 2, none⟩ = some (.int .i64 0) := B.bc BK263 2
                  have hcz72_3 : w63.cell? ⟨gb263, 3, none⟩ = some (.slice none 0 0) := B.bc BK263 3
                  have hfz72_0 := blk_frozen BK263.out 0
                  have hfz72_1 := blk_frozen BK263.out 1
                  have hfz72_2 := blk_frozen BK263.out 2
                  have hfz72_3 := blk_frozen BK263.out 3
                  have hnb73 := NB231_242.out
                  have hnc73 := NB242_231.out
                  have hcz74_0 : w63.cell? ⟨gb231, 0, none⟩ = some (.int .i64 t224) := B.bc BK231 0
                  have hcz74_1 : w63.cell? ⟨gb231, 1, none⟩ = some (.int .i64 t225) := B.bc BK231 1
                  have hcz74_2 : w63.cell? ⟨gb231, 2, none⟩ = some (.int .i64 t226) := B.bc BK231 2
                  have hcz74_3 : w63.cell? ⟨gb231, 3, none⟩ = some (.slice Ao17 t227.length co17) := B.bc BK231 3
                  have hfz74_0 := blk_frozen BK231.out 0
                  have hfz74_1 := blk_frozen BK231.out 1
                  have hfz74_2 := blk_frozen BK231.out 2
                  have hfz74_3 := blk_frozen BK231.out 3
                  go_wp2_with (first | ((with_reducible refine gate_callee (f := 24) rfl ?_); refine goesL_ (some 96) rfl rfl Try.func24 (by kernel_rfl) rfl #[.agg #[.int .i64 t256, .int .i64 t257, .int .i64 t258, .slice Ao67 t259.length co67], .agg #[.int .i64 t224, .int .i64 t225, .int .i64 t226, .slice Ao17 t227.length co17]] rfl B.am ?_; (with_reducible refine (laws_eqImage.calls kj35 t256 t257 t258 _ _ t259 t224 t225 t226 _ _ t227 true _ ?side1 ?side2 ?side3 ?side4 A68.out).mono ?_); (case side1 => refine (Kd.R_reads' (e := 3) (base := w.heap.size) (ok := fun k_ => ((True ∧ some k_ ≠ (.slice Ao17 t227.length co17 : Value).ownBlock) ∧ some k_ ≠ (.slice Ao24 t238.length co24 : Value).ownBlock)) (n := t259.length) (c := co67) ?_).2.2; exact (B.kr0 (B.rs4 HO261 BK263))); (case side2 => exact (Kd.R_reads' HO261.out).2.1); (case side3 => refine (Kd.R_reads' (e := 3) (base := w.heap.size) (ok := fun k_ => (some k_ ≠ (.slice Ao24 t238.length co24 : Value).ownBlock ∧ some k_ ≠ (.slice Ao67 t259.length co67 : Value).ownBlock)) (n := t227.length) (c := co17) ?_).2.2; exact (B.kr0 (B.rs4 HO_232003 BK263))); (case side4 => exact (Kd.R_reads' HO_232003.out).2.1); rintro e w75 ⟨rfl, hb⟩; refine ⟨_, rfl, ?_⟩; have n0_ := Aside0.mk (Kd.R_below (B.kr0 (B.rs4 HO_232003 BK263)) hb); have n1_ := Aside0.mk (Kd.R_below (B.kr0 (B.rs4 HO_243003 BK263)) hb); have n2_ := Aside0.mk (Kd.S_below (by (with_reducible repeat (first | apply Kd.S_alloc | apply Kd.S_drewN | apply Kd.S_drew)); exact (Kd.S_mono (Kd.S_far (p := ⟨gb263, 3, none⟩) (Kd.S_far (p := ⟨gb263, 2, none⟩) (Kd.S_far (p := ⟨gb263, 1, none⟩) (Kd.S_far (p := ⟨gb263, 0, none⟩) (Kd.S_types HO255.out BK263.out (by decide)) (fun _ hk => hk.2) (.int .i64 t256)) (fun _ hk => hk.2) (.int .i64 t257)) (fun _ hk => hk.2) (.int .i64 t258)) (fun _ hk => hk.2) (.slice Ao67 t259.length co67)) (fun _ h_ => h_.1))) hb); have n3_ := Aside0.mk (Kd.R_below (B.kr0 (B.rs4 HO261 BK263)) hb); have n4_ := Aside0.mk (blk_below (B.kb0 (B.bf4 BK231 NB231_263)) hb); have n5_ := Aside0.mk (blk_below (B.kb0 (B.bf4 BK242 NB242_263)) hb); have n6_ := Aside0.mk (blk_below (g := gb263) (o := .cells #[.int .i64 t256, .int .i64 t257, .int .i64 t258, .slice Ao67 t259.length co67] 34 (0, 0)) (B.kb0 (B.bp4 BK263)) hb); have n7_ := Aside0.mk (below_step (B.bl HB) hb); clear HO_232003 HO_243003 HO255 HO261 BK231 BK242 BK263 HB; have HO_232003 := n0_; have HO_243003 := n1_; have HO255 := n2_; have HO261 := n3_; have BK231 := n4_; have BK242 := n5_; have BK263 := n6_; have HB := n7_; clear n0_ n1_ n2_ n3_ n4_ n5_ n6_ n7_; (try clear hb); (try clear hb2); (try clear hk); (try clear hi)))
                  go_meet
                  case rel => exact ⟨_, ((t262 != t230)), (by first | rfl | (simp; done) | (simp [*]; done)), H', ⟨by have := HJ10.out; have := HJ35.out; first | omega | exact Nat.le_refl _⟩, ⟨B.kr HO_232003⟩, ⟨B.kr HO_243003⟩, ⟨B.kr0 (Kd.R_mono HO261.out (fun _ hk => ⟨hk.1.2, hk.2⟩))⟩, ⟨B.kb BK231⟩, ⟨B.kb BK242⟩, ⟨B.kb BK263⟩, ⟨B.bl HB⟩⟩
                replace c69 := Bool.eq_false_iff.mpr c69
                subst c69
                have H1 : (laws_FnExactJoinPasses.j2 kj35 t250 true t235 t236 t237 t251) = some r := by rw [if_neg (show ¬ (false = true) by decide)] at H; exact H
                clear H
                have H := H1
                clear H1
                exact absurd ht_.out (by revert H; cases kj35 <;> intro H <;> simp [laws_FnExactJoinPasses.j2] at H <;> (first | (subst H; decide) | simp [← H] | simp [H]))
              case rest =>
                clear HC54
                try clear c1
                try clear c2
                try clear p2
                try clear c3
                try clear c4
                try clear c5
                try clear c6
                try clear c6b0
                try clear c7
                try clear c9
                try clear c14
                try clear c15
                try clear c22
                try clear c24
                try clear c25
                try clear c26
                try clear c27
                try clear c30
                try clear c31
                try clear c32
                try clear c33
                try clear c34
                try clear c40
                try clear c40b0
                try clear c42
                try clear c43
                try clear c47
                try clear c50
                try clear c50b0
                try clear c51
                try clear c51b0
                try clear c51b1
                try clear c55
                try clear c64
                try clear c65
                try clear c69
                try clear c70
                try clear c71
                try clear c73
                try clear hcz16_0
                try clear hcz16_1
                try clear hcz16_2
                try clear hcz16_3
                try clear hcz23_0
                try clear hcz23_1
                try clear hcz23_2
                try clear hcz23_3
                try clear hcz28_0
                try clear hcz28_1
                try clear hcz28_2
                try clear hcz28_3
                try clear hcz29_0
                try clear hcz29_1
                try clear hcz29_2
                try clear hcz29_3
                try clear hcz44_0
                try clear hcz44_1
                try clear hcz44_2
                try clear hcz44_3
                try clear hcz45_0
                try clear hcz45_1
                try clear hcz45_2
                try clear hcz45_3
                try clear hcz56_0
                try clear hcz56_1
                try clear hcz56_2
                try clear hcz56_3
                try clear hcz58_0
                try clear hcz58_1
                try clear hcz58_2
                try clear hcz58_3
                try clear hcz66_0
                try clear hcz66_1
                try clear hcz66_2
                try clear hcz66_3
                try clear hcz72_0
                try clear hcz72_1
                try clear hcz72_2
                try clear hcz72_3
                try clear hcz74_0
                try clear hcz74_1
                try clear hcz74_2
                try clear hcz74_3
                try clear hfz16_0
                try clear hfz16_1
                try clear hfz16_2
                try clear hfz16_3
                try clear hfz23_0
                try clear hfz23_1
                try clear hfz23_2
                try clear hfz23_3
                try clear hfz28_0
                try clear hfz28_1
                try clear hfz28_2
                try clear hfz28_3
                try clear hfz29_0
                try clear hfz29_1
                try clear hfz29_2
                try clear hfz29_3
                try clear hfz44_0
                try clear hfz44_1
                try clear hfz44_2
                try clear hfz44_3
                try clear hfz45_0
                try clear hfz45_1
                try clear hfz45_2
                try clear hfz45_3
                try clear hfz56_0
                try clear hfz56_1
                try clear hfz56_2
                try clear hfz56_3
                try clear hfz58_0
                try clear hfz58_1
                try clear hfz58_2
                try clear hfz58_3
                try clear hfz66_0
                try clear hfz66_1
                try clear hfz66_2
                try clear hfz66_3
                try clear hfz72_0
                try clear hfz72_1
                try clear hfz72_2
                try clear hfz72_3
                try clear hfz74_0
                try clear hfz74_1
                try clear hfz74_2
                try clear hfz74_3
                try clear p2
                obtain ⟨kq, x102_53, rfl, HA, HJ53, HO_232003, HO_243003, HO_264003, BK231, BK242, BK263, HB⟩ := hcut
                have hl243003_53 := (Kd.R_reads' HO_243003.out).1
                rw [hl243003_53] at HO_243003
                (try simp only [hl243003_53])
                (try simp only [hl243003_53] at BK231)
                (try simp only [hl243003_53] at BK242)
                (try simp only [hl243003_53] at BK263)
                (try simp only [hl243003_53] at HO_232003)
                (try simp only [hl243003_53] at HO_264003)
                cases kq with
                | zero => exact absurd HA.out (by simp [laws_FnExactJoinPasses.j2])
                | succ kj53 =>
                  have H := HA.out
                  clear HA
                  simp only [laws_FnExactJoinPasses.j2] at H
                  by_cases c76 : x102_53 = true
                  · subst c76
                    have H1 : (some false) = some r := by rw [if_pos rfl] at H; exact H
                    clear H
                    have H := H1
                    clear H1
                    obtain rfl := Option.some.inj H
                    exact absurd ht_.out (by decide)
                  replace c76 := Bool.eq_false_iff.mpr c76
                  subst c76
                  have H1 : ((laws_heldImage.f kj53 t235 t236 t237 t251 1).bind fun t265 => (if t265 < 0 then (some false) else (if t265 = t250 then (some true) else (some false)))) = some r := by rw [if_neg (show ¬ (false = true) by decide)] at H; exact H
                  clear H
                  have H := H1
                  clear H1
                  replace H := Option.bind_eq_some_iff.mp H
                  obtain ⟨t265, A770, H⟩ := H
                  replace H : (if t265 < 0 then (some false) else (if t265 = t250 then (some true) else (some false))) = some r := H
                  have A77 := Aside0.mk A770
                  clear A770
                  by_cases c78 : t265 < 0
                  · rw [if_pos c78] at H
                    have c78b0 : decide (t265 < 0) = true := decide_eq_true c78
                    clear c78
                    obtain rfl := Option.some.inj H
                    exact absurd ht_.out (by decide)
                  rw [if_neg c78] at H
                  have c78b0 : decide (t265 < 0) = false := decide_eq_false c78
                  clear c78
                  by_cases c79 : t265 = t250
                  · rw [if_pos c79] at H
                    have c79b0 : (t265 == t250) = true := beq_iff_eq.mpr c79
                    have c79b1 : (t265 != t250) = false := bne_eq_false_iff_eq.mpr c79
                    clear c79
                    obtain rfl := Option.some.inj H
                    simp only [Option.some.injEq, Prod.mk.injEq] at H
                    obtain ⟨rfl⟩ := H
                    have hnb80 := NB242_231.out
                    have hnc80 := NB231_242.out
                    have hnb81 := NB242_263.out
                    have hnc81 := NB263_242.out
                    have hcz82_0 : wc.cell? ⟨gb242, 0, none⟩ = some (.int .i64 t235) := B.bc BK242 0
                    have hcz82_1 : wc.cell? ⟨gb242, 1, none⟩ = some (.int .i64 t236) := B.bc BK242 1
                    have hcz82_2 : wc.cell? ⟨gb242, 2, none⟩ = some (.int .i64 t237) := B.bc BK242 2
                    have hcz82_3 : wc.cell? ⟨gb242, 3, none⟩ = some (.slice Ao24 t251.length co24) := B.bc BK242 3
                    have hfz82_0 := blk_frozen BK242.out 0
                    have hfz82_1 := blk_frozen BK242.out 1
                    have hfz82_2 := blk_frozen BK242.out 2
                    have hfz82_3 := blk_frozen BK242.out 3
                    go_wp2_with (first | ((with_reducible refine gate_callee (f := 34) rfl ?_); refine goesL_ (some 105) rfl rfl Try.func34 (by kernel_rfl) rfl #[.agg #[.int .i64 t235, .int .i64 t236, .int .i64 t237, .slice Ao24 t251.length co24], .int .i64 1] rfl B.am ?_; (with_reducible refine (laws_heldImage.calls kj53 t235 t236 t237 _ _ t251 1 t265 _ ?side1 ?side2 A77.out).mono ?_); (case side1 => exact B.kc ((Kd.R_reads' HO_243003.out).2.2)); (case side2 => exact (Kd.R_reads' HO_243003.out).2.1); rintro e w83 ⟨rfl, hb⟩; refine ⟨_, rfl, ?_⟩; have n0_ := Aside0.mk (Kd.R_below (B.kr HO_232003) hb); have n1_ := Aside0.mk (Kd.R_below (B.kr HO_243003) hb); have n2_ := Aside0.mk (Kd.R_below (B.kr HO_264003) hb); have n3_ := Aside0.mk (blk_below (B.kb BK231) hb); have n4_ := Aside0.mk (blk_below (B.kb BK242) hb); have n5_ := Aside0.mk (blk_below (B.kb BK263) hb); have n6_ := Aside0.mk (below_step (B.bl HB) hb); clear HO_232003 HO_243003 HO_264003 BK231 BK242 BK263 HB; have HO_232003 := n0_; have HO_243003 := n1_; have HO_264003 := n2_; have BK231 := n3_; have BK242 := n4_; have BK263 := n5_; have HB := n6_; clear n0_ n1_ n2_ n3_ n4_ n5_ n6_; (try clear hb); (try clear hb2); (try clear hk); (try clear hi)))
                    go_ret
                    exact ⟨by first | rfl | (simp [errW_none, errW_some] <;> rfl) | (simp [*, errW_none, errW_some] <;> rfl), B.bl HB⟩
                  rw [if_neg c79] at H
                  have c79b0 : (t265 == t250) = false := beq_eq_false_iff_ne.mpr c79
                  have c79b1 : (t265 != t250) = true := bne_iff_ne.mpr c79
                  obtain rfl := Option.some.inj H
                  exact absurd ht_.out (by decide)
            rw [if_neg c51] at H
            have c51b0 : (t252 == t250) = false := beq_eq_false_iff_ne.mpr c51
            have c51b1 : (t252 != t250) = true := bne_iff_ne.mpr c51
            obtain rfl := Option.some.inj H
            exact absurd ht_.out (by decide)
      replace c34 := Bool.eq_false_iff.mpr c34
      subst c34
      have H1 : (some false) = some r := by rw [if_neg (show ¬ (false = true) by decide)] at H; exact H
      clear H
      have H := H1
      clear H1
      obtain rfl := Option.some.inj H
      exact absurd ht_.out (by decide)

end Go.Proofs.Ytpadegboplcapaa.Q
