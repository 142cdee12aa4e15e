-- Written by a program of this session (the kit's printer, with hand-proved contracts for the functions that it does not take).
import Derived.Test.YtegicfkcdmhjgaaQ0
import Derived.Test.YtegicfkcdmhjgaaQ2
import Derived.Test.YtegicfkcdmhjgaaQ3
import Derived.Test.YtegicfkcdmhjgaaQ4
namespace Go.Proofs.Ytegicfkcdmhjgaa.Q
open Go.RowKit Go.Proofs.YtegicfkcdmhjgaaW.PrintWords Go.Proofs.YtegicfkcdmhjgaaW.PrintLast Go.Proofs.YtegicfkcdmhjgaaW.PrintMore
attribute [local go_sem] max2_int min2_int max_two min_two max_three min_three max_four min_four   -- for this text's walks alone
set_option linter.unusedVariables false
set_option linter.unusedSimpArgs false

/-! ### laws_FnExactInvertImage: function 8 -/
def laws_FnExactInvertImage.j0 : Nat → Bool → Int → Int → Int → List Int → Int → Int → Int → List Int → Int → Int → Int → List Int → Option (Bool)
  | 0, _, _, _, _, _, _, _, _, _, _, _, _, _ => none
  | k + 1, x42, x511000, x511001, x511002, x511003, x525000, x525001, x525002, x525003, x539000, x539001, x539002, x539003 => if x42 = true then (some false) else ((laws_markImage.f k x539000 x539001 x539002 x539003 1).bind fun bt550 => ((laws_heldImage.f k x539000 x539001 x539002 bt550.2 1).bind fun t552 => (if t552 < 0 then (some false) else (if t552 = bt550.1 then ((laws_toImage.f k x511000 x511001 x511002 x511003).bind fun bt553 => ((impl_InvertImage.f bt553.1 bt553.2.1 bt553.2.2.1 bt553.2.2.2).bind fun bt559 => ((laws_eqImage.f k bt559.1 bt559.2.1 bt559.2.2.1 bt559.2.2.2 x525000 x525001 x525002 x525003).bind fun t566 => (if t566 = true then ((laws_heldImage.f k x539000 x539001 x539002 bt550.2 1).bind fun t567 => (if t567 < 0 then (some false) else (if t567 = bt550.1 then (some true) else (some false)))) else (some false))))) else (some false)))))
def laws_FnExactInvertImage.f (k : Nat) (a0_0 : Int) (a0_1 : Int) (a0_2 : Int) (l0_3 : List Int) : Option (Bool) := (laws_szImage.f a0_0 a0_1 a0_2 l0_3 1048576).bind fun t511 => (if t511 < 0 then (some true) else ((laws_toImage.f k a0_0 a0_1 a0_2 l0_3).bind fun bt512 => ((spec_InvertImage.f k bt512.1 bt512.2.1 bt512.2.2.1 bt512.2.2.2).bind fun bt518 => ((laws_toImage.f k a0_0 a0_1 a0_2 l0_3).bind fun bt525 => ((impl_InvertImage.f bt525.1 bt525.2.1 bt525.2.2.1 bt525.2.2.2).bind fun bt532 => ((laws_eqImage.f k bt532.1 bt532.2.1 bt532.2.2.1 bt532.2.2.2 bt518.1 bt518.2.1 bt518.2.2.1 bt518.2.2.2).bind fun t539 => (if t539 = true then ((laws_toImage.f k a0_0 a0_1 a0_2 l0_3).bind fun bt540 => ((laws_eqImage.f k bt525.1 bt525.2.1 bt525.2.2.1 bt525.2.2.2 bt540.1 bt540.2.1 bt540.2.2.1 bt540.2.2.2).bind fun t546 => (if t546 = true then ((laws_markImage.f k bt525.1 bt525.2.1 bt525.2.2.1 bt525.2.2.2 1).bind fun bt547 => (if bt547.1 < 0 then (laws_FnExactInvertImage.j0 k true a0_0 a0_1 a0_2 l0_3 bt518.1 bt518.2.1 bt518.2.2.1 bt518.2.2.2 bt532.1 bt532.2.1 bt532.2.2.1 bt532.2.2.2) else ((laws_eqImage.f k bt532.1 bt532.2.1 bt532.2.2.1 bt532.2.2.2 bt518.1 bt518.2.1 bt518.2.2.1 bt518.2.2.2).bind fun t549 => (laws_FnExactInvertImage.j0 k (!t549) a0_0 a0_1 a0_2 l0_3 bt518.1 bt518.2.1 bt518.2.2.1 bt518.2.2.2 bt532.1 bt532.2.1 bt532.2.2.1 bt532.2.2.2)))) else (some false)))) else (some false))))))))
theorem laws_FnExactInvertImage.mono_l : ∀ k, (∀ y0 y1 y2 y3 y4 y5 y6 y7 y8 y9 y10 y11 y12, LeO (laws_FnExactInvertImage.j0 k y0 y1 y2 y3 y4 y5 y6 y7 y8 y9 y10 y11 y12) (laws_FnExactInvertImage.j0 (k + 1) y0 y1 y2 y3 y4 y5 y6 y7 y8 y9 y10 y11 y12))
  | 0 => fun _ _ _ _ _ _ _ _ _ _ _ _ _ r h => by simp [laws_FnExactInvertImage.j0] at h
  | k + 1 => by
    have ih0 := laws_FnExactInvertImage.mono_l k
    · intro y0 y1 y2 y3 y4 y5 y6 y7 y8 y9 y10 y11 y12
      unfold laws_FnExactInvertImage.j0
      repeat' first
      | (with_reducible exact ih0 _ _ _ _ _ _ _ _ _ _ _ _ _)
      | (with_reducible exact laws_eqImage.mono _ _ _ _ _ _ _ _ _)
      | (with_reducible exact laws_heldImage.mono _ _ _ _ _ _)
      | (with_reducible exact laws_markImage.mono _ _ _ _ _ _)
      | (with_reducible exact laws_toImage.mono _ _ _ _ _)
      | (with_reducible exact spec_InvertImage.mono _ _ _ _ _)
      | (with_reducible exact LeO.refl _)
      | (with_reducible exact LeO.none _)
      | (with_reducible refine LeO.ite ?_ ?_)
      | (with_reducible refine LeO.bind ?_ (fun _ => ?_))
      | exact ih0 _ _ _ _ _ _ _ _ _ _ _ _ _
      | exact laws_eqImage.mono _ _ _ _ _ _ _ _ _
      | exact laws_heldImage.mono _ _ _ _ _ _
      | exact laws_markImage.mono _ _ _ _ _ _
      | exact laws_toImage.mono _ _ _ _ _
      | exact spec_InvertImage.mono _ _ _ _ _
      | exact LeO.none _
      | refine LeO.ite ?_ ?_
      | refine LeO.bind ?_ (fun _ => ?_)
theorem laws_FnExactInvertImage.mono : ∀ a0 a1 a2 a3 k, LeO (laws_FnExactInvertImage.f k a0 a1 a2 a3) (laws_FnExactInvertImage.f (k + 1) a0 a1 a2 a3) := by
  intro a0 a1 a2 a3 k
  have ih0 := laws_FnExactInvertImage.mono_l k
  unfold laws_FnExactInvertImage.f
  repeat' first
      | (with_reducible exact ih0 _ _ _ _ _ _ _ _ _ _ _ _ _)
      | (with_reducible exact laws_eqImage.mono _ _ _ _ _ _ _ _ _)
      | (with_reducible exact laws_heldImage.mono _ _ _ _ _ _)
      | (with_reducible exact laws_markImage.mono _ _ _ _ _ _)
      | (with_reducible exact laws_toImage.mono _ _ _ _ _)
      | (with_reducible exact spec_InvertImage.mono _ _ _ _ _)
      | (with_reducible exact LeO.refl _)
      | (with_reducible exact LeO.none _)
      | (with_reducible refine LeO.ite ?_ ?_)
      | (with_reducible refine LeO.bind ?_ (fun _ => ?_))
      | exact ih0 _ _ _ _ _ _ _ _ _ _ _ _ _
      | exact laws_eqImage.mono _ _ _ _ _ _ _ _ _
      | exact laws_heldImage.mono _ _ _ _ _ _
      | exact laws_markImage.mono _ _ _ _ _ _
      | exact laws_toImage.mono _ _ _ _ _
      | exact spec_InvertImage.mono _ _ _ _ _
      | exact LeO.none _
      | refine LeO.ite ?_ ?_
      | refine LeO.bind ?_ (fun _ => ?_)
set_option maxHeartbeats 8000000 in
set_option maxRecDepth 100000 in
theorem laws_FnExactInvertImage.calls (k : Nat) (a0_0 : Int) (a0_1 : Int) (a0_2 : Int) (A0_3 : Option Addr) (c0_3 : Nat) (l0_3 : List Int) (r : Bool) (w : World) (hr0_3 : Kd.C (Kd.int .i64) w A0_3 l0_3.length l0_3) (hc0_3 : l0_3.length ≤ c0_3) (h : laws_FnExactInvertImage.f k a0_0 a0_1 a0_2 l0_3 = some r) (ht_ : Aside0 (r = true)) :
    Calls Try.prog 8 #[.agg #[.int .i64 a0_0, .int .i64 a0_1, .int .i64 a0_2, .slice A0_3 l0_3.length c0_3]] w fun e w' => e = .returned (.bool r) ∧ Below w.heap.size w w' := by
  have hu24 := Try.underlying24
  have hu27 := Try.underlying27
  have HR0_3 := Aside0.mk hr0_3
  have HC0_3 := Aside0.mk hc0_3
  clear hr0_3 hc0_3
  have HB := Aside0.mk (Below.refl w.heap.size w)
  have H : ((laws_szImage.f a0_0 a0_1 a0_2 l0_3 1048576).bind fun t511 => (if t511 < 0 then (some true) else ((laws_toImage.f k a0_0 a0_1 a0_2 l0_3).bind fun bt512 => ((spec_InvertImage.f k bt512.1 bt512.2.1 bt512.2.2.1 bt512.2.2.2).bind fun bt518 => ((laws_toImage.f k a0_0 a0_1 a0_2 l0_3).bind fun bt525 => ((impl_InvertImage.f bt525.1 bt525.2.1 bt525.2.2.1 bt525.2.2.2).bind fun bt532 => ((laws_eqImage.f k bt532.1 bt532.2.1 bt532.2.2.1 bt532.2.2.2 bt518.1 bt518.2.1 bt518.2.2.1 bt518.2.2.2).bind fun t539 => (if t539 = true then ((laws_toImage.f k a0_0 a0_1 a0_2 l0_3).bind fun bt540 => ((laws_eqImage.f k bt525.1 bt525.2.1 bt525.2.2.1 bt525.2.2.2 bt540.1 bt540.2.1 bt540.2.2.1 bt540.2.2.2).bind fun t546 => (if t546 = true then ((laws_markImage.f k bt525.1 bt525.2.1 bt525.2.2.1 bt525.2.2.2 1).bind fun bt547 => (if bt547.1 < 0 then (laws_FnExactInvertImage.j0 k true a0_0 a0_1 a0_2 l0_3 bt518.1 bt518.2.1 bt518.2.2.1 bt518.2.2.2 bt532.1 bt532.2.1 bt532.2.2.1 bt532.2.2.2) else ((laws_eqImage.f k bt532.1 bt532.2.1 bt532.2.2.1 bt532.2.2.2 bt518.1 bt518.2.1 bt518.2.2.1 bt518.2.2.2).bind fun t549 => (laws_FnExactInvertImage.j0 k (!t549) a0_0 a0_1 a0_2 l0_3 bt518.1 bt518.2.1 bt518.2.2.1 bt518.2.2.2 bt532.1 bt532.2.1 bt532.2.2.1 bt532.2.2.2)))) else (some false)))) else (some false))))))))) = some r := h
  clear h
  replace H := Option.bind_eq_some_iff.mp H
  obtain ⟨t511, A20, H⟩ := H
  replace H : (if t511 < 0 then (some true) else ((laws_toImage.f k a0_0 a0_1 a0_2 l0_3).bind fun bt512 => ((spec_InvertImage.f k bt512.1 bt512.2.1 bt512.2.2.1 bt512.2.2.2).bind fun bt518 => ((laws_toImage.f k a0_0 a0_1 a0_2 l0_3).bind fun bt525 => ((impl_InvertImage.f bt525.1 bt525.2.1 bt525.2.2.1 bt525.2.2.2).bind fun bt532 => ((laws_eqImage.f k bt532.1 bt532.2.1 bt532.2.2.1 bt532.2.2.2 bt518.1 bt518.2.1 bt518.2.2.1 bt518.2.2.2).bind fun t539 => (if t539 = true then ((laws_toImage.f k a0_0 a0_1 a0_2 l0_3).bind fun bt540 => ((laws_eqImage.f k bt525.1 bt525.2.1 bt525.2.2.1 bt525.2.2.2 bt540.1 bt540.2.1 bt540.2.2.1 bt540.2.2.2).bind fun t546 => (if t546 = true then ((laws_markImage.f k bt525.1 bt525.2.1 bt525.2.2.1 bt525.2.2.2 1).bind fun bt547 => (if bt547.1 < 0 then (laws_FnExactInvertImage.j0 k true a0_0 a0_1 a0_2 l0_3 bt518.1 bt518.2.1 bt518.2.2.1 bt518.2.2.2 bt532.1 bt532.2.1 bt532.2.2.1 bt532.2.2.2) else ((laws_eqImage.f k bt532.1 bt532.2.1 bt532.2.2.1 bt532.2.2.2 bt518.1 bt518.2.1 bt518.2.2.1 bt518.2.2.2).bind fun t549 => (laws_FnExactInvertImage.j0 k (!t549) a0_0 a0_1 a0_2 l0_3 bt518.1 bt518.2.1 bt518.2.2.1 bt518.2.2.2 bt532.1 bt532.2.1 bt532.2.2.1 bt532.2.2.2)))) else (some false)))) else (some false)))))))) = some r := H
  have A2 := Aside0.mk A20
  clear A20
  by_cases c3 : t511 < 0
  · rw [if_pos c3] at H
    have c3b0 : decide (t511 < 0) = true := decide_eq_true c3
    clear c3
    obtain rfl := Option.some.inj H
    simp only [Option.some.injEq, Prod.mk.injEq] at H
    obtain ⟨rfl⟩ := H
    go_enter Try.func8, Try.ntmps8
    go_wp2_with (first | ((with_reducible refine gate_dst (N := 1) rfl ?_); refine box_event ?hg (N := 1) ?hd (cs := #[.int .i64 a0_0, .int .i64 a0_1, .int .i64 a0_2, .slice A0_3 l0_3.length c0_3]) (t := 24) ?hr ?_; (case hd => rfl); (case hg => rfl); (case hr => first | (go_simp; done) | (go_simp; rfl)); intro gb510 hg w4 hbox hb; have n0_ := Aside0.mk (below_step (B.bl HB) hb); have n1_ := Aside0.mk (hbox); have n2_ := Aside0.mk (B.nle hg (below_size (B.bl HB))); have n3_ := Aside0.mk (B.nle hg (below_size (B.bl HB))); clear HB; have HB := n0_; have BK510 := n1_; have GW510 := n2_; have GE510 := n3_; clear n0_ n1_ n2_ n3_; clear hb hbox hg; have hcz5_0 : w4.cell? ⟨gb510, 0, none⟩ = some (.int .i64 a0_0) := B.bc BK510 0; have hcz5_1 : w4.cell? ⟨gb510, 1, none⟩ = some (.int .i64 a0_1) := B.bc BK510 1; have hcz5_2 : w4.cell? ⟨gb510, 2, none⟩ = some (.int .i64 a0_2) := B.bc BK510 2; have hcz5_3 : w4.cell? ⟨gb510, 3, none⟩ = some (.slice A0_3 l0_3.length c0_3) := B.bc BK510 3; have hfz5_0 := blk_frozen BK510.out 0; have hfz5_1 := blk_frozen BK510.out 1; have hfz5_2 := blk_frozen BK510.out 2; have hfz5_3 := blk_frozen BK510.out 3) | ((with_reducible refine gate_callee (f := 11) rfl ?_); refine goesL_ (some 13) rfl rfl Try.func11 (by kernel_rfl) rfl #[.agg #[.int .i64 a0_0, .int .i64 a0_1, .int .i64 a0_2, .slice A0_3 l0_3.length c0_3], .int .i64 1048576] rfl B.am ?_; (with_reducible refine (laws_szImage.calls a0_0 a0_1 a0_2 _ _ l0_3 1048576 t511 _ ?side1 ?side2 A2.out).mono ?_); (case side1 => exact B.kc (Kd.C_below HR0_3.out HB.out)); (case side2 => exact HC0_3.out); rintro e w6 ⟨rfl, hb⟩; refine ⟨_, rfl, ?_⟩; have n0_ := Aside0.mk (blk_below (B.kb BK510) hb); have n1_ := Aside0.mk (below_step (B.bl HB) hb); clear BK510 HB; have BK510 := n0_; have HB := n1_; clear n0_ n1_; (try clear hb); (try clear hb2); (try clear hk); (try clear hi)))
    go_ret
    exact ⟨by first | rfl | (simp [errW_none, errW_some] <;> rfl) | (simp [*, errW_none, errW_some] <;> rfl), B.bl HB⟩
  rw [if_neg c3] at H
  have c3b0 : decide (t511 < 0) = false := decide_eq_false c3
  clear c3
  replace H := Option.bind_eq_some_iff.mp H
  obtain ⟨⟨t512, t513, t514, t515⟩, A70, H⟩ := H
  replace H : ((spec_InvertImage.f k t512 t513 t514 t515).bind fun bt518 => ((laws_toImage.f k a0_0 a0_1 a0_2 l0_3).bind fun bt525 => ((impl_InvertImage.f bt525.1 bt525.2.1 bt525.2.2.1 bt525.2.2.2).bind fun bt532 => ((laws_eqImage.f k bt532.1 bt532.2.1 bt532.2.2.1 bt532.2.2.2 bt518.1 bt518.2.1 bt518.2.2.1 bt518.2.2.2).bind fun t539 => (if t539 = true then ((laws_toImage.f k a0_0 a0_1 a0_2 l0_3).bind fun bt540 => ((laws_eqImage.f k bt525.1 bt525.2.1 bt525.2.2.1 bt525.2.2.2 bt540.1 bt540.2.1 bt540.2.2.1 bt540.2.2.2).bind fun t546 => (if t546 = true then ((laws_markImage.f k bt525.1 bt525.2.1 bt525.2.2.1 bt525.2.2.2 1).bind fun bt547 => (if bt547.1 < 0 then (laws_FnExactInvertImage.j0 k true a0_0 a0_1 a0_2 l0_3 bt518.1 bt518.2.1 bt518.2.2.1 bt518.2.2.2 bt532.1 bt532.2.1 bt532.2.2.1 bt532.2.2.2) else ((laws_eqImage.f k bt532.1 bt532.2.1 bt532.2.2.1 bt532.2.2.2 bt518.1 bt518.2.1 bt518.2.2.1 bt518.2.2.2).bind fun t549 => (laws_FnExactInvertImage.j0 k (!t549) a0_0 a0_1 a0_2 l0_3 bt518.1 bt518.2.1 bt518.2.2.1 bt518.2.2.2 bt532.1 bt532.2.1 bt532.2.2.1 bt532.2.2.2)))) else (some false)))) else (some false)))))) = some r := H
  have A7 := Aside0.mk A70
  clear A70
  replace H := Option.bind_eq_some_iff.mp H
  obtain ⟨⟨t518, t519, t520, t521⟩, A80, H⟩ := H
  replace H : ((laws_toImage.f k a0_0 a0_1 a0_2 l0_3).bind fun bt525 => ((impl_InvertImage.f bt525.1 bt525.2.1 bt525.2.2.1 bt525.2.2.2).bind fun bt532 => ((laws_eqImage.f k bt532.1 bt532.2.1 bt532.2.2.1 bt532.2.2.2 t518 t519 t520 t521).bind fun t539 => (if t539 = true then ((laws_toImage.f k a0_0 a0_1 a0_2 l0_3).bind fun bt540 => ((laws_eqImage.f k bt525.1 bt525.2.1 bt525.2.2.1 bt525.2.2.2 bt540.1 bt540.2.1 bt540.2.2.1 bt540.2.2.2).bind fun t546 => (if t546 = true then ((laws_markImage.f k bt525.1 bt525.2.1 bt525.2.2.1 bt525.2.2.2 1).bind fun bt547 => (if bt547.1 < 0 then (laws_FnExactInvertImage.j0 k true a0_0 a0_1 a0_2 l0_3 t518 t519 t520 t521 bt532.1 bt532.2.1 bt532.2.2.1 bt532.2.2.2) else ((laws_eqImage.f k bt532.1 bt532.2.1 bt532.2.2.1 bt532.2.2.2 t518 t519 t520 t521).bind fun t549 => (laws_FnExactInvertImage.j0 k (!t549) a0_0 a0_1 a0_2 l0_3 t518 t519 t520 t521 bt532.1 bt532.2.1 bt532.2.2.1 bt532.2.2.2)))) else (some false)))) else (some false))))) = some r := H
  have A8 := Aside0.mk A80
  clear A80
  replace H := Option.bind_eq_some_iff.mp H
  obtain ⟨⟨t525, t526, t527, t528⟩, A90, H⟩ := H
  replace H : ((impl_InvertImage.f t525 t526 t527 t528).bind fun bt532 => ((laws_eqImage.f k bt532.1 bt532.2.1 bt532.2.2.1 bt532.2.2.2 t518 t519 t520 t521).bind fun t539 => (if t539 = true then ((laws_toImage.f k a0_0 a0_1 a0_2 l0_3).bind fun bt540 => ((laws_eqImage.f k t525 t526 t527 t528 bt540.1 bt540.2.1 bt540.2.2.1 bt540.2.2.2).bind fun t546 => (if t546 = true then ((laws_markImage.f k t525 t526 t527 t528 1).bind fun bt547 => (if bt547.1 < 0 then (laws_FnExactInvertImage.j0 k true a0_0 a0_1 a0_2 l0_3 t518 t519 t520 t521 bt532.1 bt532.2.1 bt532.2.2.1 bt532.2.2.2) else ((laws_eqImage.f k bt532.1 bt532.2.1 bt532.2.2.1 bt532.2.2.2 t518 t519 t520 t521).bind fun t549 => (laws_FnExactInvertImage.j0 k (!t549) a0_0 a0_1 a0_2 l0_3 t518 t519 t520 t521 bt532.1 bt532.2.1 bt532.2.2.1 bt532.2.2.2)))) else (some false)))) else (some false)))) = some r := H
  have A9 := Aside0.mk A90
  clear A90
  replace H := Option.bind_eq_some_iff.mp H
  obtain ⟨⟨t532, t533, t534, t535⟩, A100, H⟩ := H
  replace H : ((laws_eqImage.f k t532 t533 t534 t535 t518 t519 t520 t521).bind fun t539 => (if t539 = true then ((laws_toImage.f k a0_0 a0_1 a0_2 l0_3).bind fun bt540 => ((laws_eqImage.f k t525 t526 t527 t528 bt540.1 bt540.2.1 bt540.2.2.1 bt540.2.2.2).bind fun t546 => (if t546 = true then ((laws_markImage.f k t525 t526 t527 t528 1).bind fun bt547 => (if bt547.1 < 0 then (laws_FnExactInvertImage.j0 k true a0_0 a0_1 a0_2 l0_3 t518 t519 t520 t521 t532 t533 t534 t535) else ((laws_eqImage.f k t532 t533 t534 t535 t518 t519 t520 t521).bind fun t549 => (laws_FnExactInvertImage.j0 k (!t549) a0_0 a0_1 a0_2 l0_3 t518 t519 t520 t521 t532 t533 t534 t535)))) else (some false)))) else (some false))) = some r := H
  have A10 := Aside0.mk A100
  clear A100
  replace H := Option.bind_eq_some_iff.mp H
  obtain ⟨t539, A110, H⟩ := H
  replace H : (if t539 = true then ((laws_toImage.f k a0_0 a0_1 a0_2 l0_3).bind fun bt540 => ((laws_eqImage.f k t525 t526 t527 t528 bt540.1 bt540.2.1 bt540.2.2.1 bt540.2.2.2).bind fun t546 => (if t546 = true then ((laws_markImage.f k t525 t526 t527 t528 1).bind fun bt547 => (if bt547.1 < 0 then (laws_FnExactInvertImage.j0 k true a0_0 a0_1 a0_2 l0_3 t518 t519 t520 t521 t532 t533 t534 t535) else ((laws_eqImage.f k t532 t533 t534 t535 t518 t519 t520 t521).bind fun t549 => (laws_FnExactInvertImage.j0 k (!t549) a0_0 a0_1 a0_2 l0_3 t518 t519 t520 t521 t532 t533 t534 t535)))) else (some false)))) else (some false)) = some r := H
  have A11 := Aside0.mk A110
  clear A110
  by_cases c12 : t539 = true
  · subst c12
    have H1 : ((laws_toImage.f k a0_0 a0_1 a0_2 l0_3).bind fun bt540 => ((laws_eqImage.f k t525 t526 t527 t528 bt540.1 bt540.2.1 bt540.2.2.1 bt540.2.2.2).bind fun t546 => (if t546 = true then ((laws_markImage.f k t525 t526 t527 t528 1).bind fun bt547 => (if bt547.1 < 0 then (laws_FnExactInvertImage.j0 k true a0_0 a0_1 a0_2 l0_3 t518 t519 t520 t521 t532 t533 t534 t535) else ((laws_eqImage.f k t532 t533 t534 t535 t518 t519 t520 t521).bind fun t549 => (laws_FnExactInvertImage.j0 k (!t549) a0_0 a0_1 a0_2 l0_3 t518 t519 t520 t521 t532 t533 t534 t535)))) else (some false)))) = some r := by rw [if_pos rfl] at H; exact H
    clear H
    have H := H1
    clear H1
    replace H := Option.bind_eq_some_iff.mp H
    obtain ⟨⟨t540, t541, t542, t543⟩, A130, H⟩ := H
    replace H : ((laws_eqImage.f k t525 t526 t527 t528 t540 t541 t542 t543).bind fun t546 => (if t546 = true then ((laws_markImage.f k t525 t526 t527 t528 1).bind fun bt547 => (if bt547.1 < 0 then (laws_FnExactInvertImage.j0 k true a0_0 a0_1 a0_2 l0_3 t518 t519 t520 t521 t532 t533 t534 t535) else ((laws_eqImage.f k t532 t533 t534 t535 t518 t519 t520 t521).bind fun t549 => (laws_FnExactInvertImage.j0 k (!t549) a0_0 a0_1 a0_2 l0_3 t518 t519 t520 t521 t532 t533 t534 t535)))) else (some false))) = some r := H
    have A13 := Aside0.mk A130
    clear A130
    replace H := Option.bind_eq_some_iff.mp H
    obtain ⟨t546, A140, H⟩ := H
    replace H : (if t546 = true then ((laws_markImage.f k t525 t526 t527 t528 1).bind fun bt547 => (if bt547.1 < 0 then (laws_FnExactInvertImage.j0 k true a0_0 a0_1 a0_2 l0_3 t518 t519 t520 t521 t532 t533 t534 t535) else ((laws_eqImage.f k t532 t533 t534 t535 t518 t519 t520 t521).bind fun t549 => (laws_FnExactInvertImage.j0 k (!t549) a0_0 a0_1 a0_2 l0_3 t518 t519 t520 t521 t532 t533 t534 t535)))) else (some false)) = some r := H
    have A14 := Aside0.mk A140
    clear A140
    by_cases c15 : t546 = true
    · subst c15
      have H1 : ((laws_markImage.f k t525 t526 t527 t528 1).bind fun bt547 => (if bt547.1 < 0 then (laws_FnExactInvertImage.j0 k true a0_0 a0_1 a0_2 l0_3 t518 t519 t520 t521 t532 t533 t534 t535) else ((laws_eqImage.f k t532 t533 t534 t535 t518 t519 t520 t521).bind fun t549 => (laws_FnExactInvertImage.j0 k (!t549) a0_0 a0_1 a0_2 l0_3 t518 t519 t520 t521 t532 t533 t534 t535)))) = some r := by rw [if_pos rfl] at H; exact H
      clear H
      have H := H1
      clear H1
      replace H := Option.bind_eq_some_iff.mp H
      obtain ⟨⟨t547, t548⟩, A160, H⟩ := H
      replace H : (if t547 < 0 then (laws_FnExactInvertImage.j0 k true a0_0 a0_1 a0_2 l0_3 t518 t519 t520 t521 t532 t533 t534 t535) else ((laws_eqImage.f k t532 t533 t534 t535 t518 t519 t520 t521).bind fun t549 => (laws_FnExactInvertImage.j0 k (!t549) a0_0 a0_1 a0_2 l0_3 t518 t519 t520 t521 t532 t533 t534 t535))) = some r := H
      have A16 := Aside0.mk A160
      clear A160
      have HC17 := Aside0.mk H
      clear H
      go_enter Try.func8, Try.ntmps8
      try go_wp2_with (first | ((with_reducible refine gate_dst (N := 1) rfl ?_); refine box_event ?hg (N := 1) ?hd (cs := #[.int .i64 a0_0, .int .i64 a0_1, .int .i64 a0_2, .slice A0_3 l0_3.length c0_3]) (t := 24) ?hr ?_; (case hd => rfl); (case hg => rfl); (case hr => first | (go_simp; done) | (go_simp; rfl)); intro gb510 hg w18 hbox hb; have n0_ := Aside0.mk (below_step (B.bl HB) hb); have n1_ := Aside0.mk (hbox); have n2_ := Aside0.mk (B.nle hg (below_size (B.bl HB))); have n3_ := Aside0.mk (B.nle hg (below_size (B.bl HB))); clear HB; have HB := n0_; have BK510 := n1_; have GW510 := n2_; have GE510 := n3_; clear n0_ n1_ n2_ n3_; clear hb hbox hg; have hcz19_0 : w18.cell? ⟨gb510, 0, none⟩ = some (.int .i64 a0_0) := B.bc BK510 0; have hcz19_1 : w18.cell? ⟨gb510, 1, none⟩ = some (.int .i64 a0_1) := B.bc BK510 1; have hcz19_2 : w18.cell? ⟨gb510, 2, none⟩ = some (.int .i64 a0_2) := B.bc BK510 2; have hcz19_3 : w18.cell? ⟨gb510, 3, none⟩ = some (.slice A0_3 l0_3.length c0_3) := B.bc BK510 3; have hfz19_0 := blk_frozen BK510.out 0; have hfz19_1 := blk_frozen BK510.out 1; have hfz19_2 := blk_frozen BK510.out 2; have hfz19_3 := blk_frozen BK510.out 3) | ((with_reducible refine gate_callee (f := 11) rfl ?_); refine goesL_ (some 13) rfl rfl Try.func11 (by kernel_rfl) rfl #[.agg #[.int .i64 a0_0, .int .i64 a0_1, .int .i64 a0_2, .slice A0_3 l0_3.length c0_3], .int .i64 1048576] rfl B.am ?_; (with_reducible refine (laws_szImage.calls a0_0 a0_1 a0_2 _ _ l0_3 1048576 t511 _ ?side1 ?side2 A2.out).mono ?_); (case side1 => exact B.kc (Kd.C_below HR0_3.out HB.out)); (case side2 => exact HC0_3.out); rintro e w20 ⟨rfl, hb⟩; refine ⟨_, rfl, ?_⟩; have n0_ := Aside0.mk (blk_below (B.kb BK510) hb); have n1_ := Aside0.mk (below_step (B.bl HB) hb); clear BK510 HB; have BK510 := n0_; have HB := n1_; clear n0_ n1_; (try clear hb); (try clear hb2); (try clear hk); (try clear hi); have hcz21_0 : w20.cell? ⟨gb510, 0, none⟩ = some (.int .i64 a0_0) := B.bc BK510 0; have hcz21_1 : w20.cell? ⟨gb510, 1, none⟩ = some (.int .i64 a0_1) := B.bc BK510 1; have hcz21_2 : w20.cell? ⟨gb510, 2, none⟩ = some (.int .i64 a0_2) := B.bc BK510 2; have hcz21_3 : w20.cell? ⟨gb510, 3, none⟩ = some (.slice A0_3 l0_3.length c0_3) := B.bc BK510 3; have hfz21_0 := blk_frozen BK510.out 0; have hfz21_1 := blk_frozen BK510.out 1; have hfz21_2 := blk_frozen BK510.out 2; have hfz21_3 := blk_frozen BK510.out 3) | ((with_reducible refine gate_callee (f := 13) rfl ?_); refine goesL_ (some 17) rfl rfl Try.func13 (by kernel_rfl) rfl #[.agg #[.int .i64 a0_0, .int .i64 a0_1, .int .i64 a0_2, .slice A0_3 l0_3.length c0_3]] rfl B.am ?_; (with_reducible refine (laws_toImage.calls k a0_0 a0_1 a0_2 _ _ l0_3 t512 t513 t514 t515 _ ?side1 ?side2 A7.out).mono ?_); (case side1 => exact B.kc (Kd.C_below HR0_3.out HB.out)); (case side2 => exact HC0_3.out); rintro e w22 ⟨v516, rfl, ho0, hb⟩; refine ⟨_, rfl, ?_⟩; have n0_ := Aside0.mk (Kd.R_lower ho0 (below_size (B.bl HB))); have n1_ := Aside0.mk (blk_below (B.kb BK510) hb); have n2_ := Aside0.mk (below_step (B.bl HB) hb); clear BK510 HB; have HO517 := n0_; have BK510 := n1_; have HB := n2_; clear n0_ n1_ n2_; (try clear hb); (try clear hb2); (try clear hk); (try clear hi); (try clear ho0); obtain ⟨Ao23, co23, eo23⟩ := Kd.R_slice HO517.out; subst eo23) | ((with_reducible refine gate_callee (f := 31) rfl ?_); refine goesL_ (some 18) rfl rfl Try.func31 (by kernel_rfl) rfl #[.agg #[.int .i64 t512, .int .i64 t513, .int .i64 t514, .slice Ao23 t515.length co23]] rfl B.am ?_; (with_reducible refine (spec_InvertImage.calls k t512 t513 t514 _ _ t515 t518 t519 t520 t521 _ ?side1 ?side2 A8.out).mono ?_); (case side1 => exact B.kc ((Kd.R_reads' HO517.out).2.2)); (case side2 => exact (Kd.R_reads' HO517.out).2.1); rintro e w24 ⟨v522, rfl, ho0, hb⟩; refine ⟨_, rfl, ?_⟩; have n0_ := Aside0.mk (Kd.R_elder' (B.kr HO517) (Kd.R_base ho0) hb); have n1_ := Aside0.mk (Kd.R_lower (Kd.R_new' ho0 (Kd.R_lt (B.kr HO517))) (below_size (B.bl HB))); have n2_ := Aside0.mk (blk_below (B.kb BK510) hb); have n3_ := Aside0.mk (below_step (B.bl HB) hb); clear HO517 BK510 HB; have HO517 := n0_; have HO523 := n1_; have BK510 := n2_; have HB := n3_; clear n0_ n1_ n2_ n3_; (try clear hb); (try clear hb2); (try clear hk); (try clear hi); (try clear ho0)) | ((with_reducible refine gate_dst (N := 4) rfl ?_); refine box_event ?hg (N := 4) ?hd (cs := #[.int .i64 0, .int .i64 0, .int .i64 0, .slice none 0 0]) (t := 27) ?hr ?_; (case hd => rfl); (case hg => rfl); (case hr => first | (go_simp; done) | (go_simp; rfl)); intro gb524 hg w25 hbox hb; have n0_ := Aside0.mk (Kd.R_below (B.kr HO517) hb); have n1_ := Aside0.mk (Kd.R_below (B.kr HO523) hb); have n2_ := Aside0.mk (blk_below (B.kb BK510) hb); have n3_ := Aside0.mk (below_step (B.bl HB) hb); have n4_ := Aside0.mk (hbox); have n5_ := Aside0.mk (B.nle hg (below_size (B.bl HB))); have n6_ := Aside0.mk (B.nle hg (below_size (B.bl HB))); have n7_ := Aside0.mk (B.nlt hg (blk_lt (B.kb BK510))); have n8_ := Aside0.mk (B.ngt hg (blk_lt (B.kb BK510))); clear HO517 HO523 BK510 HB; have HO517 := n0_; have HO523 := n1_; have BK510 := n2_; have HB := n3_; have BK524 := n4_; have GW524 := n5_; have GE524 := n6_; have NB510_524 := n7_; have NB524_510 := n8_; clear n0_ n1_ n2_ n3_ n4_ n5_ n6_ n7_ n8_; clear hb hbox hg; have hnb26 := NB524_510.out; have hnc26 := NB510_524.out; have hcz27_0 : w25.cell? ⟨gb524, 0, none⟩ = some (.int .i64 0) := B.bc BK524 0; have hcz27_1 : w25.cell? ⟨gb524, 1, none⟩ = some (.int .i64 0) := B.bc BK524 1; have hcz27_2 : w25.cell? ⟨gb524, 2, none⟩ = some (.int .i64 0) := B.bc BK524 2; have hcz27_3 : w25.cell? ⟨gb524, 3, none⟩ = some (.slice none 0 0) := B.bc BK524 3; have hfz27_0 := blk_frozen BK524.out 0; have hfz27_1 := blk_frozen BK524.out 1; have hfz27_2 := blk_frozen BK524.out 2; have hfz27_3 := blk_frozen BK524.out 3; obtain ⟨Ao28, co28, eo28⟩ := Kd.R_slice HO523.out; subst eo28; have hcz29_0 : w25.cell? ⟨gb510, 0, none⟩ = some (.int .i64 a0_0) := B.bc BK510 0; have hcz29_1 : w25.cell? ⟨gb510, 1, none⟩ = some (.int .i64 a0_1) := B.bc BK510 1; have hcz29_2 : w25.cell? ⟨gb510, 2, none⟩ = some (.int .i64 a0_2) := B.bc BK510 2; have hcz29_3 : w25.cell? ⟨gb510, 3, none⟩ = some (.slice A0_3 l0_3.length c0_3) := B.bc BK510 3; have hfz29_0 := blk_frozen BK510.out 0; have hfz29_1 := blk_frozen BK510.out 1; have hfz29_2 := blk_frozen BK510.out 2; have hfz29_3 := blk_frozen BK510.out 3) | ((with_reducible refine gate_callee (f := 13) rfl ?_); refine goesL_ (some 20) rfl rfl Try.func13 (by kernel_rfl) rfl #[.agg #[.int .i64 a0_0, .int .i64 a0_1, .int .i64 a0_2, .slice A0_3 l0_3.length c0_3]] rfl B.am ?_; (with_reducible refine (laws_toImage.calls k a0_0 a0_1 a0_2 _ _ l0_3 t525 t526 t527 t528 _ ?side1 ?side2 A9.out).mono ?_); (case side1 => exact Kd.C_below HR0_3.out (B.bl HB)); (case side2 => exact HC0_3.out); rintro e w30 ⟨v529, rfl, ho0, hb⟩; refine ⟨_, rfl, ?_⟩; have n0_ := Aside0.mk (Kd.R_elder' (B.kr0 (B.rs4 HO517 BK524)) (Kd.R_base ho0) hb); have n1_ := Aside0.mk (Kd.R_elder' (B.kr0 (B.rs4 HO523 BK524)) (Kd.R_base ho0) hb); have n2_ := Aside0.mk (Kd.R_lower (Kd.R_new' (Kd.R_new' ho0 (Kd.R_lt (B.kr0 (B.rs4 HO517 BK524)))) (Kd.R_lt (B.kr0 (B.rs4 HO523 BK524)))) (below_size (B.bl HB))); have n3_ := Aside0.mk (blk_below (B.kb0 (B.bf4 BK510 NB510_524)) hb); have n4_ := Aside0.mk (blk_below (g := gb524) (o := .cells #[.int .i64 t518, .int .i64 t519, .int .i64 t520, .slice Ao28 t521.length co28] 27 (0, 0)) (B.kb0 (B.bp4 BK524)) hb); have n5_ := Aside0.mk (below_step (B.bl HB) hb); clear HO517 HO523 BK510 BK524 HB; have HO517 := n0_; have HO523 := n1_; have HO530 := n2_; have BK510 := n3_; have BK524 := n4_; have HB := n5_; clear n0_ n1_ n2_ n3_ n4_ n5_; (try clear hb); (try clear hb2); (try clear hk); (try clear hi); (try clear ho0)) | ((with_reducible refine gate_dst (N := 5) rfl ?_); refine box_event ?hg (N := 5) ?hd (cs := #[.int .i64 0, .int .i64 0, .int .i64 0, .slice none 0 0]) (t := 27) ?hr ?_; (case hd => rfl); (case hg => rfl); (case hr => first | (go_simp; done) | (go_simp; rfl)); intro gb531 hg w31 hbox hb; have n0_ := Aside0.mk (Kd.R_below (B.kr HO517) hb); have n1_ := Aside0.mk (Kd.R_below (B.kr HO523) hb); have n2_ := Aside0.mk (Kd.R_below (B.kr HO530) hb); have n3_ := Aside0.mk (blk_below (B.kb BK510) hb); have n4_ := Aside0.mk (blk_below (B.kb BK524) hb); have n5_ := Aside0.mk (below_step (B.bl HB) hb); have n6_ := Aside0.mk (hbox); have n7_ := Aside0.mk (B.nle hg (below_size (B.bl HB))); have n8_ := Aside0.mk (B.nle hg (below_size (B.bl HB))); have n9_ := Aside0.mk (B.nlt hg (blk_lt (B.kb BK510))); have n10_ := Aside0.mk (B.ngt hg (blk_lt (B.kb BK510))); have n11_ := Aside0.mk (B.nlt hg (blk_lt (B.kb BK524))); have n12_ := Aside0.mk (B.ngt hg (blk_lt (B.kb BK524))); clear HO517 HO523 HO530 BK510 BK524 HB; have HO517 := n0_; have HO523 := n1_; have HO530 := n2_; have BK510 := n3_; have BK524 := n4_; have HB := n5_; have BK531 := n6_; have GW531 := n7_; have GE531 := n8_; have NB510_531 := n9_; have NB531_510 := n10_; have NB524_531 := n11_; have NB531_524 := n12_; clear n0_ n1_ n2_ n3_ n4_ n5_ n6_ n7_ n8_ n9_ n10_ n11_ n12_; clear hb hbox hg; have hnb32 := NB531_510.out; have hnc32 := NB510_531.out; have hnb33 := NB531_524.out; have hnc33 := NB524_531.out; have hcz34_0 : w31.cell? ⟨gb531, 0, none⟩ = some (.int .i64 0) := B.bc BK531 0; have hcz34_1 : w31.cell? ⟨gb531, 1, none⟩ = some (.int .i64 0) := B.bc BK531 1; have hcz34_2 : w31.cell? ⟨gb531, 2, none⟩ = some (.int .i64 0) := B.bc BK531 2; have hcz34_3 : w31.cell? ⟨gb531, 3, none⟩ = some (.slice none 0 0) := B.bc BK531 3; have hfz34_0 := blk_frozen BK531.out 0; have hfz34_1 := blk_frozen BK531.out 1; have hfz34_2 := blk_frozen BK531.out 2; have hfz34_3 := blk_frozen BK531.out 3; obtain ⟨Ao35, co35, eo35⟩ := Kd.R_slice HO530.out; subst eo35) | ((with_reducible refine gate_callee (f := 29) rfl ?_); refine goesL_ (some 22) rfl rfl Try.func29 (by kernel_rfl) rfl #[.agg #[.int .i64 t525, .int .i64 t526, .int .i64 t527, .slice Ao35 t528.length co35]] rfl B.am ?_; (with_reducible refine (impl_InvertImage.calls t525 t526 t527 _ _ t528 t532 t533 t534 t535 _ ?side1 ?side2 A10.out).mono ?_); (case side1 => refine (Kd.R_reads' (e := 3) (base := w.heap.size) (ok := fun k_ => ((True ∧ some k_ ≠ (.slice Ao23 t515.length co23 : Value).ownBlock) ∧ some k_ ≠ (.slice Ao28 t521.length co28 : Value).ownBlock)) (n := t528.length) (c := co35) ?_).2.2; exact (B.kr0 (B.rs4 HO530 BK531))); (case side2 => exact (Kd.R_reads' HO530.out).2.1); rintro e w36 ⟨v536, rfl, ho0, hb⟩; refine ⟨_, rfl, ?_⟩; have n0_ := Aside0.mk (Kd.R_elder' (B.kr0 (B.rs4 HO517 BK531)) (Kd.R_base ho0) hb); have n1_ := Aside0.mk (Kd.R_elder' (B.kr0 (B.rs4 HO523 BK531)) (Kd.R_base ho0) hb); have n2_ := Aside0.mk (Kd.R_elder' (B.kr0 (B.rs4 HO530 BK531)) (Kd.R_base ho0) hb); have n3_ := Aside0.mk (Kd.R_lower (Kd.R_new' (Kd.R_new' (Kd.R_new' ho0 (Kd.R_lt (B.kr0 (B.rs4 HO517 BK531)))) (Kd.R_lt (B.kr0 (B.rs4 HO523 BK531)))) (Kd.R_lt (B.kr0 (B.rs4 HO530 BK531)))) (below_size (B.bl HB))); have n4_ := Aside0.mk (blk_below (B.kb0 (B.bf4 BK510 NB510_531)) hb); have n5_ := Aside0.mk (blk_below (B.kb0 (B.bf4 BK524 NB524_531)) hb); have n6_ := Aside0.mk (blk_below (g := gb531) (o := .cells #[.int .i64 t525, .int .i64 t526, .int .i64 t527, .slice Ao35 t528.length co35] 27 (0, 0)) (B.kb0 (B.bp4 BK531)) hb); have n7_ := Aside0.mk (below_step (B.bl HB) hb); clear HO517 HO523 HO530 BK510 BK524 BK531 HB; have HO517 := n0_; have HO523 := n1_; have HO530 := n2_; have HO537 := n3_; have BK510 := n4_; have BK524 := n5_; have BK531 := n6_; have HB := n7_; clear n0_ n1_ n2_ n3_ n4_ n5_ n6_ n7_; (try clear hb); (try clear hb2); (try clear hk); (try clear hi); (try clear ho0)) | ((with_reducible refine gate_dst (N := 6) rfl ?_); refine box_event ?hg (N := 6) ?hd (cs := #[.int .i64 0, .int .i64 0, .int .i64 0, .slice none 0 0]) (t := 27) ?hr ?_; (case hd => rfl); (case hg => rfl); (case hr => first | (go_simp; done) | (go_simp; rfl)); intro gb538 hg w37 hbox hb; have n0_ := Aside0.mk (Kd.R_below (B.kr HO517) hb); have n1_ := Aside0.mk (Kd.R_below (B.kr HO523) hb); have n2_ := Aside0.mk (Kd.R_below (B.kr HO530) hb); have n3_ := Aside0.mk (Kd.R_below (B.kr HO537) hb); have n4_ := Aside0.mk (blk_below (B.kb BK510) hb); have n5_ := Aside0.mk (blk_below (B.kb BK524) hb); have n6_ := Aside0.mk (blk_below (B.kb BK531) hb); have n7_ := Aside0.mk (below_step (B.bl HB) hb); have n8_ := Aside0.mk (hbox); have n9_ := Aside0.mk (B.nle hg (below_size (B.bl HB))); have n10_ := Aside0.mk (B.nle hg (below_size (B.bl HB))); have n11_ := Aside0.mk (B.nlt hg (blk_lt (B.kb BK510))); have n12_ := Aside0.mk (B.ngt hg (blk_lt (B.kb BK510))); have n13_ := Aside0.mk (B.nlt hg (blk_lt (B.kb BK524))); have n14_ := Aside0.mk (B.ngt hg (blk_lt (B.kb BK524))); have n15_ := Aside0.mk (B.nlt hg (blk_lt (B.kb BK531))); have n16_ := Aside0.mk (B.ngt hg (blk_lt (B.kb BK531))); clear HO517 HO523 HO530 HO537 BK510 BK524 BK531 HB; have HO517 := n0_; have HO523 := n1_; have HO530 := n2_; have HO537 := n3_; have BK510 := n4_; have BK524 := n5_; have BK531 := n6_; have HB := n7_; have BK538 := n8_; have GW538 := n9_; have GE538 := n10_; have NB510_538 := n11_; have NB538_510 := n12_; have NB524_538 := n13_; have NB538_524 := n14_; have NB531_538 := n15_; have NB538_531 := n16_; clear n0_ n1_ n2_ n3_ n4_ n5_ n6_ n7_ n8_ n9_ n10_ n11_ n12_ n13_ n14_ n15_ n16_; clear hb hbox hg; have hnb38 := NB538_510.out; have hnc38 := NB510_538.out; have hnb39 := NB538_524.out; have hnc39 := NB524_538.out; have hnb40 := NB538_531.out; have hnc40 := NB531_538.out; have hcz41_0 : w37.cell? ⟨gb538, 0, none⟩ = some (.int .i64 0) := B.bc BK538 0; have hcz41_1 : w37.cell? ⟨gb538, 1, none⟩ = some (.int .i64 0) := B.bc BK538 1; have hcz41_2 : w37.cell? ⟨gb538, 2, none⟩ = some (.int .i64 0) := B.bc BK538 2; have hcz41_3 : w37.cell? ⟨gb538, 3, none⟩ = some (.slice none 0 0) := B.bc BK538 3; have hfz41_0 := blk_frozen BK538.out 0; have hfz41_1 := blk_frozen BK538.out 1; have hfz41_2 := blk_frozen BK538.out 2; have hfz41_3 := blk_frozen BK538.out 3; obtain ⟨Ao42, co42, eo42⟩ := Kd.R_slice HO537.out; subst eo42; have hcz43_0 : w37.cell? ⟨gb524, 0, none⟩ = some (.int .i64 t518) := B.bc BK524 0; have hcz43_1 : w37.cell? ⟨gb524, 1, none⟩ = some (.int .i64 t519) := B.bc BK524 1; have hcz43_2 : w37.cell? ⟨gb524, 2, none⟩ = some (.int .i64 t520) := B.bc BK524 2; have hcz43_3 : w37.cell? ⟨gb524, 3, none⟩ = some (.slice Ao28 t521.length co28) := B.bc BK524 3; have hfz43_0 := blk_frozen BK524.out 0; have hfz43_1 := blk_frozen BK524.out 1; have hfz43_2 := blk_frozen BK524.out 2; have hfz43_3 := blk_frozen BK524.out 3) | ((with_reducible refine gate_callee (f := 15) rfl ?_); refine goesL_ (some 25) rfl rfl Try.func15 (by kernel_rfl) rfl #[.agg #[.int .i64 t532, .int .i64 t533, .int .i64 t534, .slice Ao42 t535.length co42], .agg #[.int .i64 t518, .int .i64 t519, .int .i64 t520, .slice Ao28 t521.length co28]] rfl B.am ?_; (with_reducible refine (laws_eqImage.calls k t532 t533 t534 _ _ t535 t518 t519 t520 _ _ t521 true _ ?side1 ?side2 ?side3 ?side4 A11.out).mono ?_); (case side1 => refine (Kd.R_reads' (e := 3) (base := w.heap.size) (ok := fun k_ => (((True ∧ some k_ ≠ (.slice Ao23 t515.length co23 : Value).ownBlock) ∧ some k_ ≠ (.slice Ao28 t521.length co28 : Value).ownBlock) ∧ some k_ ≠ (.slice Ao35 t528.length co35 : Value).ownBlock)) (n := t535.length) (c := co42) ?_).2.2; exact (B.kr0 (B.rs4 HO537 BK538))); (case side2 => exact (Kd.R_reads' HO537.out).2.1); (case side3 => refine (Kd.R_reads' (e := 3) (base := w.heap.size) (ok := fun k_ => (((True ∧ some k_ ≠ (.slice Ao23 t515.length co23 : Value).ownBlock) ∧ some k_ ≠ (.slice Ao35 t528.length co35 : Value).ownBlock) ∧ some k_ ≠ (.slice Ao42 t535.length co42 : Value).ownBlock)) (n := t521.length) (c := co28) ?_).2.2; exact (B.kr0 (B.rs4 HO523 BK538))); (case side4 => exact (Kd.R_reads' HO523.out).2.1); rintro e w44 ⟨rfl, hb⟩; refine ⟨_, rfl, ?_⟩; have n0_ := Aside0.mk (Kd.R_below (B.kr0 (B.rs4 HO517 BK538)) hb); have n1_ := Aside0.mk (Kd.R_below (B.kr0 (B.rs4 HO523 BK538)) hb); have n2_ := Aside0.mk (Kd.R_below (B.kr0 (B.rs4 HO530 BK538)) hb); have n3_ := Aside0.mk (Kd.R_below (B.kr0 (B.rs4 HO537 BK538)) hb); have n4_ := Aside0.mk (blk_below (B.kb0 (B.bf4 BK510 NB510_538)) hb); have n5_ := Aside0.mk (blk_below (B.kb0 (B.bf4 BK524 NB524_538)) hb); have n6_ := Aside0.mk (blk_below (B.kb0 (B.bf4 BK531 NB531_538)) hb); have n7_ := Aside0.mk (blk_below (g := gb538) (o := .cells #[.int .i64 t532, .int .i64 t533, .int .i64 t534, .slice Ao42 t535.length co42] 27 (0, 0)) (B.kb0 (B.bp4 BK538)) hb); have n8_ := Aside0.mk (below_step (B.bl HB) hb); clear HO517 HO523 HO530 HO537 BK510 BK524 BK531 BK538 HB; have HO517 := n0_; have HO523 := n1_; have HO530 := n2_; have HO537 := n3_; have BK510 := n4_; have BK524 := n5_; have BK531 := n6_; have BK538 := n7_; have HB := n8_; clear n0_ n1_ n2_ n3_ n4_ n5_ n6_ n7_ n8_; (try clear hb); (try clear hb2); (try clear hk); (try clear hi)))
      have n0_ := Aside0.mk (Kd.R_drew HO517.out)
      have n1_ := Aside0.mk (Kd.R_drew HO523.out)
      have n2_ := Aside0.mk (Kd.R_drew HO530.out)
      have n3_ := Aside0.mk (Kd.R_drew HO537.out)
      have n4_ := Aside0.mk (blk_drew BK510.out)
      have n5_ := Aside0.mk (blk_drew BK524.out)
      have n6_ := Aside0.mk (blk_drew BK531.out)
      have n7_ := Aside0.mk (blk_drew BK538.out)
      have n8_ := Aside0.mk (below_drew1 HB.out)
      clear HO517 HO523 HO530 HO537 BK510 BK524 BK531 BK538 HB
      have HO517 := n0_
      have HO523 := n1_
      have HO530 := n2_
      have HO537 := n3_
      have BK510 := n4_
      have BK524 := n5_
      have BK531 := n6_
      have BK538 := n7_
      have HB := n8_
      clear n0_ n1_ n2_ n3_ n4_ n5_ n6_ n7_ n8_
      refine start_ (n := 5) (S := fun w' => w'.cell? ⟨gb531, 0, none⟩ = some (.int .i64 t525) ∧ w'.cell? ⟨gb531, 1, none⟩ = some (.int .i64 t526) ∧ w'.cell? ⟨gb531, 2, none⟩ = some (.int .i64 t527) ∧ w'.cell? ⟨gb531, 3, none⟩ = some (.slice Ao35 t528.length co35) ∧ w'.cell? ⟨gb510, 0, none⟩ = some (.int .i64 a0_0) ∧ w'.cell? ⟨gb510, 1, none⟩ = some (.int .i64 a0_1) ∧ w'.cell? ⟨gb510, 2, none⟩ = some (.int .i64 a0_2) ∧ w'.cell? ⟨gb510, 3, none⟩ = some (.slice A0_3 l0_3.length c0_3)) (ds := []) #[false, false, false, false, false] (by kernel_rfl) rfl rfl ⟨B.bc BK531 0, B.bc BK531 1, B.bc BK531 2, B.bc BK531 3, B.bc BK510 0, B.bc BK510 1, B.bc BK510 2, B.bc BK510 3⟩ (fun hHeld => ?_)
      generalize w44.drew = w45 at HO517 HO523 HO530 HO537 BK510 BK524 BK531 BK538 HB hHeld ⊢
      refine take_ (i := 0) (N := some 27) (v := ?_) (a' := ?_) #[true, false, false, false, false] rfl rfl (by kernel_rfl) (fun _ _ _ h => h) (Or.inl ⟨by rfl, ?_⟩) hHeld ?_ ?_
      rotate_left
      · rintro w' ⟨s0, s1, s2, s3, s4, s5, s6, s7⟩
        go_simp
        with_reducible rfl
      rotate_left
      · simp only [Act.put, List.setIfInBounds_toArray, List.set_cons_zero, List.set_cons_succ, i64_w, i32_w]
        rfl
      refine take_ (i := 1) (N := some 28) (v := ?_) (a' := ?_) #[true, true, false, false, false] rfl rfl (by kernel_rfl) (fun _ _ _ h => h) (Or.inl ⟨by rfl, ?_⟩) hHeld ?_ ?_
      rotate_left
      · rintro w' ⟨s0, s1, s2, s3, s4, s5, s6, s7⟩
        go_simp
        with_reducible rfl
      rotate_left
      · simp only [Act.put, List.setIfInBounds_toArray, List.set_cons_zero, List.set_cons_succ, i64_w, i32_w]
        rfl
      refine one_ (i := 2) (N := some 29) #[true, true, true, false, false] rfl rfl (by kernel_rfl) (by decide) (fun K hK => ?_)
      refine goes_ Try.func13 (by kernel_rfl) rfl #[.agg #[.int .i64 a0_0, .int .i64 a0_1, .int .i64 a0_2, .slice A0_3 l0_3.length c0_3]] (by rfl) rfl rfl B.am ?_
      with_reducible refine (laws_toImage.calls k a0_0 a0_1 a0_2 _ _ l0_3 t540 t541 t542 t543 _ ?side1 ?side2 A13.out).mono ?_
      (case side1 => exact B.kc (Kd.C_below HR0_3.out HB.out))
      (case side2 => exact HC0_3.out)
      rintro e w46 ⟨v544, rfl, ho0, hb⟩
      refine ⟨_, rfl, ?_⟩
      have n0_ := Aside0.mk (Kd.R_elder' (B.kr HO517) (Kd.R_base ho0) hb)
      have n1_ := Aside0.mk (Kd.R_elder' (B.kr HO523) (Kd.R_base ho0) hb)
      have n2_ := Aside0.mk (Kd.R_elder' (B.kr HO530) (Kd.R_base ho0) hb)
      have n3_ := Aside0.mk (Kd.R_elder' (B.kr HO537) (Kd.R_base ho0) hb)
      have n4_ := Aside0.mk (Kd.R_lower (Kd.R_new' (Kd.R_new' (Kd.R_new' (Kd.R_new' ho0 (Kd.R_lt (B.kr HO517))) (Kd.R_lt (B.kr HO523))) (Kd.R_lt (B.kr HO530))) (Kd.R_lt (B.kr HO537))) (below_size (B.bl HB)))
      have n5_ := Aside0.mk (blk_below (B.kb BK510) hb)
      have n6_ := Aside0.mk (blk_below (B.kb BK524) hb)
      have n7_ := Aside0.mk (blk_below (B.kb BK531) hb)
      have n8_ := Aside0.mk (blk_below (B.kb BK538) hb)
      have n9_ := Aside0.mk (below_step (B.bl HB) hb)
      clear HO517 HO523 HO530 HO537 BK510 BK524 BK531 BK538 HB
      have HO517 := n0_
      have HO523 := n1_
      have HO530 := n2_
      have HO537 := n3_
      have HO545 := n4_
      have BK510 := n5_
      have BK524 := n6_
      have BK531 := n7_
      have BK538 := n8_
      have HB := n9_
      clear n0_ n1_ n2_ n3_ n4_ n5_ n6_ n7_ n8_ n9_
      (try clear hb)
      (try clear hb2)
      (try clear hk)
      (try clear hi)
      (try clear ho0)
      obtain ⟨Ao47, co47, eo47⟩ := Kd.R_slice HO545.out
      (first | subst eo47 | (injection eo47 with f1_ f2_ f3_; have f4_ := f1_.symm; have f5_ := f3_.symm; clear f1_ f2_ f3_; subst f4_; subst f5_))
      refine hK.out _ _ ⟨B.bc BK531 0, B.bc BK531 1, B.bc BK531 2, B.bc BK531 3, B.bc BK510 0, B.bc BK510 1, B.bc BK510 2, B.bc BK510 3⟩ (fun hHeld => ?_)
      clear hK K
      refine norm_ (a' := ?_) ?_ ?_
      rotate_left
      · show Act.put _ (some 29) _ = _
        simp only [Act.put, List.setIfInBounds_toArray, List.set_cons_zero, List.set_cons_succ, i64_w, i32_w]
        rfl
      refine one_ (i := 3) (N := some 30) #[true, true, true, true, false] rfl rfl (by kernel_rfl) (by decide) (fun K hK => ?_)
      refine goes_ Try.func15 (by kernel_rfl) rfl #[.agg #[.int .i64 t525, .int .i64 t526, .int .i64 t527, .slice Ao35 t528.length co35], .agg #[.int .i64 t540, .int .i64 t541, .int .i64 t542, .slice Ao47 t543.length co47]] (by rfl) rfl rfl B.am ?_
      with_reducible refine (laws_eqImage.calls k t525 t526 t527 _ _ t528 t540 t541 t542 _ _ t543 true _ ?side1 ?side2 ?side3 ?side4 A14.out).mono ?_
      (case side1 => exact B.kc ((Kd.R_reads' HO530.out).2.2))
      (case side2 => exact (Kd.R_reads' HO530.out).2.1)
      (case side3 => exact B.kc ((Kd.R_reads' HO545.out).2.2))
      (case side4 => exact (Kd.R_reads' HO545.out).2.1)
      rintro e w48 ⟨rfl, hb⟩
      refine ⟨_, rfl, ?_⟩
      have n0_ := Aside0.mk (Kd.R_below (B.kr HO517) hb)
      have n1_ := Aside0.mk (Kd.R_below (B.kr HO523) hb)
      have n2_ := Aside0.mk (Kd.R_below (B.kr HO530) hb)
      have n3_ := Aside0.mk (Kd.R_below (B.kr HO537) hb)
      have n4_ := Aside0.mk (Kd.R_below (B.kr HO545) hb)
      have n5_ := Aside0.mk (blk_below (B.kb BK510) hb)
      have n6_ := Aside0.mk (blk_below (B.kb BK524) hb)
      have n7_ := Aside0.mk (blk_below (B.kb BK531) hb)
      have n8_ := Aside0.mk (blk_below (B.kb BK538) hb)
      have n9_ := Aside0.mk (below_step (B.bl HB) hb)
      clear HO517 HO523 HO530 HO537 HO545 BK510 BK524 BK531 BK538 HB
      have HO517 := n0_
      have HO523 := n1_
      have HO530 := n2_
      have HO537 := n3_
      have HO545 := n4_
      have BK510 := n5_
      have BK524 := n6_
      have BK531 := n7_
      have BK538 := n8_
      have HB := n9_
      clear n0_ n1_ n2_ n3_ n4_ n5_ n6_ n7_ n8_ n9_
      (try clear hb)
      (try clear hb2)
      (try clear hk)
      (try clear hi)
      refine hK.out _ _ ⟨B.bc BK531 0, B.bc BK531 1, B.bc BK531 2, B.bc BK531 3, B.bc BK510 0, B.bc BK510 1, B.bc BK510 2, B.bc BK510 3⟩ (fun hHeld => ?_)
      clear hK K
      refine norm_ (a' := ?_) ?_ ?_
      rotate_left
      · show Act.put _ (some 30) _ = _
        simp only [Act.put, List.setIfInBounds_toArray, List.set_cons_zero, List.set_cons_succ, i64_w, i32_w]
        rfl
      refine pure_ (i := 4) (N := some 31) (v := ?_) (a' := ?_) #[true, true, true, true, true] rfl rfl (by kernel_rfl) (fun _ _ _ h => h) (Or.inl ⟨by rfl, ?_⟩) ?_ ?_
      rotate_left
      · intro w'
        go_simp
        with_reducible rfl
      rotate_left
      · simp only [Act.put, List.setIfInBounds_toArray, List.set_cons_zero, List.set_cons_succ, i64_w, i32_w]
        rfl
      refine done_ (by kernel_rfl) ?_
      have hcz49_0 : w48.cell? ⟨gb531, 0, none⟩ = some (.int .i64 t525) := B.bc BK531 0
      have hcz49_1 : w48.cell? ⟨gb531, 1, none⟩ = some (.int .i64 t526) := B.bc BK531 1
      have hcz49_2 : w48.cell? ⟨gb531, 2, none⟩ = some (.int .i64 t527) := B.bc BK531 2
      have hcz49_3 : w48.cell? ⟨gb531, 3, none⟩ = some (.slice Ao35 t528.length co35) := B.bc BK531 3
      have hfz49_0 := blk_frozen BK531.out 0
      have hfz49_1 := blk_frozen BK531.out 1
      have hfz49_2 := blk_frozen BK531.out 2
      have hfz49_3 := blk_frozen BK531.out 3
      go_upto_region 14 with (first | ((with_reducible refine gate_callee (f := 21) rfl ?_); refine goesL_ (some 34) rfl rfl Try.func21 (by kernel_rfl) rfl #[.agg #[.int .i64 t525, .int .i64 t526, .int .i64 t527, .slice Ao35 t528.length co35], .int .i64 1] rfl B.am ?_; (with_reducible refine (laws_markImage.calls k t525 t526 t527 (fun k_ => some k_ = (.slice Ao35 t528.length co35 : Value).ownBlock) (.slice Ao35 t528.length co35) t528 1 t547 t548 w _ ?side1 ?side2 A16.out).mono ?_); (case side1 => exact B.bl HB); (case side2 => exact Kd.R_tight rfl HO530.out); rintro e w50 ⟨rfl, hy0, hb, hkp⟩; refine ⟨_, rfl, ?_⟩; have n0_ := Aside0.mk (blk_kept (B.kb BK510) hkp (fun hs_ => (fun e_ => (Kd.R_ne HO530.out BK510.out (by decide)) e_) hs_)); have n1_ := Aside0.mk (Kd.R_mono (ok' := fun k_ => some k_ ≠ (.slice Ao28 t521.length co28 : Value).ownBlock ∧ some k_ ≠ (.slice Ao35 t528.length co35 : Value).ownBlock ∧ some k_ ≠ (.slice Ao42 t535.length co42 : Value).ownBlock ∧ some k_ ≠ (.slice Ao47 t543.length co47 : Value).ownBlock) (Kd.R_keptB (HO517.out) hkp (fun k_ hk_ hs_ => (hk_.1.1.2) hs_)) (fun k_ hk_ => ⟨hk_.1.1.1.1.2, hk_.1.1.1.2, hk_.1.1.2, hk_.1.2⟩)); have n2_ := Aside0.mk (Kd.R_mono (ok' := fun k_ => some k_ ≠ (.slice Ao23 t515.length co23 : Value).ownBlock ∧ some k_ ≠ (.slice Ao35 t528.length co35 : Value).ownBlock ∧ some k_ ≠ (.slice Ao42 t535.length co42 : Value).ownBlock ∧ some k_ ≠ (.slice Ao47 t543.length co47 : Value).ownBlock) (Kd.R_keptB (HO523.out) hkp (fun k_ hk_ hs_ => (hk_.1.1.2) hs_)) (fun k_ hk_ => ⟨hk_.1.1.1.1.2, hk_.1.1.1.2, hk_.1.1.2, hk_.1.2⟩)); have n3_ := Aside0.mk (blk_kept (B.kb BK524) hkp (fun hs_ => (fun e_ => (Kd.R_ne HO530.out BK524.out (by decide)) e_) hs_)); have n4_ := Aside0.mk (Kd.R_reok rfl hy0 (fun k_ e_ => HO530.out.1 k_ e_)); have n5_ := Aside0.mk (blk_kept (B.kb BK531) hkp (fun hs_ => (fun e_ => (Kd.R_ne HO530.out BK531.out (by decide)) e_) hs_)); have n6_ := Aside0.mk (Kd.R_mono (ok' := fun k_ => some k_ ≠ (.slice Ao23 t515.length co23 : Value).ownBlock ∧ some k_ ≠ (.slice Ao28 t521.length co28 : Value).ownBlock ∧ some k_ ≠ (.slice Ao35 t528.length co35 : Value).ownBlock ∧ some k_ ≠ (.slice Ao47 t543.length co47 : Value).ownBlock) (Kd.R_keptB (HO537.out) hkp (fun k_ hk_ hs_ => (hk_.1.2) hs_)) (fun k_ hk_ => ⟨hk_.1.1.1.1.2, hk_.1.1.1.2, hk_.1.1.2, hk_.1.2⟩)); have n7_ := Aside0.mk (blk_kept (B.kb BK538) hkp (fun hs_ => (fun e_ => (Kd.R_ne HO530.out BK538.out (by decide)) e_) hs_)); have n8_ := Aside0.mk (Kd.R_mono (ok' := fun k_ => some k_ ≠ (.slice Ao23 t515.length co23 : Value).ownBlock ∧ some k_ ≠ (.slice Ao28 t521.length co28 : Value).ownBlock ∧ some k_ ≠ (.slice Ao35 t528.length co35 : Value).ownBlock ∧ some k_ ≠ (.slice Ao42 t535.length co42 : Value).ownBlock) (Kd.R_keptB (HO545.out) hkp (fun k_ hk_ hs_ => (hk_.1.2) hs_)) (fun k_ hk_ => ⟨hk_.1.1.1.1.2, hk_.1.1.1.2, hk_.1.1.2, hk_.1.2⟩)); have n9_ := Aside0.mk (hb); clear BK510 HO517 HO523 BK524 HO530 BK531 HO537 BK538 HO545 HB; have BK510 := n0_; have HO517 := n1_; have HO523 := n2_; have BK524 := n3_; have HO530 := n4_; have BK531 := n5_; have HO537 := n6_; have BK538 := n7_; have HO545 := n8_; have HB := n9_; clear n0_ n1_ n2_ n3_ n4_ n5_ n6_ n7_ n8_ n9_; (try clear hb); (try clear hkp); (try clear hy0)))
      (try simp only [Act.put, List.setIfInBounds_toArray, List.set_cons_zero, List.set_cons_succ])
      go_cut [42] (fun v42 wc => ∃ (kq : Nat) (x42_16 : Bool), v42 = .bool x42_16 ∧ Aside0 (laws_FnExactInvertImage.j0 kq x42_16 a0_0 a0_1 a0_2 l0_3 t518 t519 t520 t521 t532 t533 t534 t535 = some r) ∧ Aside0 (kq ≤ k) ∧ Aside0 (Kd.R (Kd.int .i64) 3 wc w.heap.size (fun k_ => some k_ ≠ ((.slice Ao35 t528.length co35) : Value).ownBlock ∧ some k_ ≠ ((.slice Ao42 t535.length co42) : Value).ownBlock) (.slice Ao28 t521.length co28) t521) ∧ Aside0 (Kd.R (Kd.int .i64) 3 wc w.heap.size (fun k_ => some k_ ≠ ((.slice Ao28 t521.length co28) : Value).ownBlock ∧ some k_ ≠ ((.slice Ao42 t535.length co42) : Value).ownBlock) (.slice Ao35 t528.length co35) t548) ∧ Aside0 (Kd.R (Kd.int .i64) 3 wc w.heap.size (fun k_ => some k_ ≠ ((.slice Ao28 t521.length co28) : Value).ownBlock ∧ some k_ ≠ ((.slice Ao35 t528.length co35) : Value).ownBlock) (.slice Ao42 t535.length co42) t535) ∧ Aside0 (wc.heap[gb510]? = some (.cells #[.int .i64 a0_0, .int .i64 a0_1, .int .i64 a0_2, (.slice A0_3 l0_3.length c0_3)] 24 (0, 0))) ∧ Aside0 (wc.heap[gb524]? = some (.cells #[.int .i64 t518, .int .i64 t519, .int .i64 t520, (.slice Ao28 t521.length co28)] 27 (0, 0))) ∧ Aside0 (wc.heap[gb531]? = some (.cells #[.int .i64 t525, .int .i64 t526, .int .i64 t527, (.slice Ao35 t528.length co35)] 27 (0, 0))) ∧ Aside0 (wc.heap[gb538]? = some (.cells #[.int .i64 t532, .int .i64 t533, .int .i64 t534, (.slice Ao42 t535.length co42)] 27 (0, 0))) ∧ Aside0 (Below w.heap.size w wc))
      case first =>
        have H := HC17.out
        clear HC17
        by_cases c51 : t547 < 0
        · rw [if_pos c51] at H
          have c51b0 : decide (t547 < 0) = true := decide_eq_true c51
          clear c51
          (first | rw [c51b0] | (simp only [i64_w, i32_w]; rw [c51b0]) | skip)
          exact absurd ht_.out (by revert H; cases k <;> intro H <;> simp [laws_FnExactInvertImage.j0] at H <;> (first | (subst H; decide) | simp [← H] | simp [H]))
        rw [if_neg c51] at H
        have c51b0 : decide (t547 < 0) = false := decide_eq_false c51
        clear c51
        (first | rw [c51b0] | (simp only [i64_w, i32_w]; rw [c51b0]) | skip)
        replace H := Option.bind_eq_some_iff.mp H
        obtain ⟨t549, A520, H⟩ := H
        replace H : (laws_FnExactInvertImage.j0 k (!t549) a0_0 a0_1 a0_2 l0_3 t518 t519 t520 t521 t532 t533 t534 t535) = some r := H
        have A52 := Aside0.mk A520
        clear A520
        have H' := Aside0.mk H
        clear H
        have hnb53 := NB538_510.out
        have hnc53 := NB510_538.out
        have hnb54 := NB538_524.out
        have hnc54 := NB524_538.out
        have hnb55 := NB538_531.out
        have hnc55 := NB531_538.out
        have hcz56_0 : w50.cell? ⟨gb538, 0, none⟩ = some (.int .i64 t532) := B.bc BK538 0
        have hcz56_1 : w50.cell? ⟨gb538, 1, none⟩ = some (.int .i64 t533) := B.bc BK538 1
        have hcz56_2 : w50.cell? ⟨gb538, 2, none⟩ = some (.int .i64 t534) := B.bc BK538 2
        have hcz56_3 : w50.cell? ⟨gb538, 3, none⟩ = some (.slice Ao42 t535.length co42) := B.bc BK538 3
        have hfz56_0 := blk_frozen BK538.out 0
        have hfz56_1 := blk_frozen BK538.out 1
        have hfz56_2 := blk_frozen BK538.out 2
        have hfz56_3 := blk_frozen BK538.out 3
        have hnb57 := NB524_510.out
        have hnc57 := NB510_524.out
        have hnb58 := NB524_531.out
        have hnc58 := NB531_524.out
        have hcz59_0 : w50.cell? ⟨gb524, 0, none⟩ = some (.int .i64 t518) := B.bc BK524 0
        have hcz59_1 : w50.cell? ⟨gb524, 1, none⟩ = some (.int .i64 t519) := B.bc BK524 1
        have hcz59_2 : w50.cell? ⟨gb524, 2, none⟩ = some (.int .i64 t520) := B.bc BK524 2
        have hcz59_3 : w50.cell? ⟨gb524, 3, none⟩ = some (.slice Ao28 t521.length co28) := B.bc BK524 3
        have hfz59_0 := blk_frozen BK524.out 0
        have hfz59_1 := blk_frozen BK524.out 1
        have hfz59_2 := blk_frozen BK524.out 2
        have hfz59_3 := blk_frozen BK524.out 3
        go_wp2_with (first | (go_at_call 15; (with_reducible refine (laws_eqImage.calls k t532 t533 t534 _ _ t535 t518 t519 t520 _ _ t521 t549 _ ?side1 ?side2 ?side3 ?side4 A52.out).mono ?_); (case side1 => exact B.kc ((Kd.R_reads' HO537.out).2.2)); (case side2 => exact (Kd.R_reads' HO537.out).2.1); (case side3 => exact B.kc ((Kd.R_reads' HO523.out).2.2)); (case side4 => exact (Kd.R_reads' HO523.out).2.1); rintro e w60 ⟨rfl, hb⟩; have n0_ := Aside0.mk (Kd.R_below (B.kr HO517) hb); have n1_ := Aside0.mk (Kd.R_below (B.kr HO523) hb); have n2_ := Aside0.mk (Kd.R_below (B.kr HO530) hb); have n3_ := Aside0.mk (Kd.R_below (B.kr HO537) hb); have n4_ := Aside0.mk (Kd.R_below (B.kr HO545) hb); have n5_ := Aside0.mk (blk_below (B.kb BK510) hb); have n6_ := Aside0.mk (blk_below (B.kb BK524) hb); have n7_ := Aside0.mk (blk_below (B.kb BK531) hb); have n8_ := Aside0.mk (blk_below (B.kb BK538) hb); have n9_ := Aside0.mk (below_step (B.bl HB) hb); clear HO517 HO523 HO530 HO537 HO545 BK510 BK524 BK531 BK538 HB; have HO517 := n0_; have HO523 := n1_; have HO530 := n2_; have HO537 := n3_; have HO545 := n4_; have BK510 := n5_; have BK524 := n6_; have BK531 := n7_; have BK538 := n8_; have HB := n9_; clear n0_ n1_ n2_ n3_ n4_ n5_ n6_ n7_ n8_ n9_; (try clear hb); (try clear hb2); (try clear hk); (try clear hi)))
        go_meet
        case rel => exact ⟨_, (!t549), (by first | rfl | (simp; done) | (simp [*]; done)), H', ⟨by first | omega | exact Nat.le_refl _⟩, ⟨B.kr0 (Kd.R_mono HO523.out (fun _ hk => ⟨hk.2.1, hk.2.2.1⟩))⟩, ⟨B.kr0 (Kd.R_mono HO530.out (fun _ hk => ⟨hk.1.1.2, hk.1.2⟩))⟩, ⟨B.kr0 (Kd.R_mono HO537.out (fun _ hk => ⟨hk.2.1, hk.2.2.1⟩))⟩, ⟨B.kb BK510⟩, ⟨B.kb BK524⟩, ⟨B.kb BK531⟩, ⟨B.kb BK538⟩, ⟨B.bl HB⟩⟩
      case rest =>
        clear HC17
        try clear c1
        try clear c2
        try clear p2
        try clear c3
        try clear c3b0
        try clear c4
        try clear c5
        try clear c8
        try clear c11
        try clear c12
        try clear c13
        try clear c15
        try clear c21
        try clear c26
        try clear c29
        try clear c31
        try clear c32
        try clear c33
        try clear c38
        try clear c39
        try clear c40
        try clear c51
        try clear c51b0
        try clear c53
        try clear c54
        try clear c55
        try clear c57
        try clear c58
        try clear hcz19_0
        try clear hcz19_1
        try clear hcz19_2
        try clear hcz19_3
        try clear hcz21_0
        try clear hcz21_1
        try clear hcz21_2
        try clear hcz21_3
        try clear hcz27_0
        try clear hcz27_1
        try clear hcz27_2
        try clear hcz27_3
        try clear hcz29_0
        try clear hcz29_1
        try clear hcz29_2
        try clear hcz29_3
        try clear hcz34_0
        try clear hcz34_1
        try clear hcz34_2
        try clear hcz34_3
        try clear hcz41_0
        try clear hcz41_1
        try clear hcz41_2
        try clear hcz41_3
        try clear hcz43_0
        try clear hcz43_1
        try clear hcz43_2
        try clear hcz43_3
        try clear hcz49_0
        try clear hcz49_1
        try clear hcz49_2
        try clear hcz49_3
        try clear hcz56_0
        try clear hcz56_1
        try clear hcz56_2
        try clear hcz56_3
        try clear hcz59_0
        try clear hcz59_1
        try clear hcz59_2
        try clear hcz59_3
        try clear hcz5_0
        try clear hcz5_1
        try clear hcz5_2
        try clear hcz5_3
        try clear hfz19_0
        try clear hfz19_1
        try clear hfz19_2
        try clear hfz19_3
        try clear hfz21_0
        try clear hfz21_1
        try clear hfz21_2
        try clear hfz21_3
        try clear hfz27_0
        try clear hfz27_1
        try clear hfz27_2
        try clear hfz27_3
        try clear hfz29_0
        try clear hfz29_1
        try clear hfz29_2
        try clear hfz29_3
        try clear hfz34_0
        try clear hfz34_1
        try clear hfz34_2
        try clear hfz34_3
        try clear hfz41_0
        try clear hfz41_1
        try clear hfz41_2
        try clear hfz41_3
        try clear hfz43_0
        try clear hfz43_1
        try clear hfz43_2
        try clear hfz43_3
        try clear hfz49_0
        try clear hfz49_1
        try clear hfz49_2
        try clear hfz49_3
        try clear hfz56_0
        try clear hfz56_1
        try clear hfz56_2
        try clear hfz56_3
        try clear hfz59_0
        try clear hfz59_1
        try clear hfz59_2
        try clear hfz59_3
        try clear hfz5_0
        try clear hfz5_1
        try clear hfz5_2
        try clear hfz5_3
        obtain ⟨kq, x42_16, rfl, HA, HJ16, HO_525003, HO_532003, HO_539003, BK510, BK524, BK531, BK538, HB⟩ := hcut
        have hl532003_16 := (Kd.R_reads' HO_532003.out).1
        rw [hl532003_16] at HO_532003
        (try simp only [hl532003_16])
        (try simp only [hl532003_16] at BK510)
        (try simp only [hl532003_16] at BK524)
        (try simp only [hl532003_16] at BK531)
        (try simp only [hl532003_16] at BK538)
        (try simp only [hl532003_16] at HO_525003)
        (try simp only [hl532003_16] at HO_539003)
        cases kq with
        | zero => exact absurd HA.out (by simp [laws_FnExactInvertImage.j0])
        | succ kj16 =>
          have H := HA.out
          clear HA
          simp only [laws_FnExactInvertImage.j0] at H
          by_cases c61 : x42_16 = true
          · subst c61
            have H1 : (some false) = some r := by rw [if_pos rfl] at H; exact H
            clear H
            have H := H1
            clear H1
            obtain rfl := Option.some.inj H
            exact absurd ht_.out (by decide)
          replace c61 := Bool.eq_false_iff.mpr c61
          subst c61
          have H1 : ((laws_markImage.f kj16 t532 t533 t534 t535 1).bind fun bt550 => ((laws_heldImage.f kj16 t532 t533 t534 bt550.2 1).bind fun t552 => (if t552 < 0 then (some false) else (if t552 = bt550.1 then ((laws_toImage.f kj16 a0_0 a0_1 a0_2 l0_3).bind fun bt553 => ((impl_InvertImage.f bt553.1 bt553.2.1 bt553.2.2.1 bt553.2.2.2).bind fun bt559 => ((laws_eqImage.f kj16 bt559.1 bt559.2.1 bt559.2.2.1 bt559.2.2.2 t518 t519 t520 t521).bind fun t566 => (if t566 = true then ((laws_heldImage.f kj16 t532 t533 t534 bt550.2 1).bind fun t567 => (if t567 < 0 then (some false) else (if t567 = bt550.1 then (some true) else (some false)))) else (some false))))) else (some false))))) = some r := by rw [if_neg (show ¬ (false = true) by decide)] at H; exact H
          clear H
          have H := H1
          clear H1
          replace H := Option.bind_eq_some_iff.mp H
          obtain ⟨⟨t550, t551⟩, A620, H⟩ := H
          replace H : ((laws_heldImage.f kj16 t532 t533 t534 t551 1).bind fun t552 => (if t552 < 0 then (some false) else (if t552 = t550 then ((laws_toImage.f kj16 a0_0 a0_1 a0_2 l0_3).bind fun bt553 => ((impl_InvertImage.f bt553.1 bt553.2.1 bt553.2.2.1 bt553.2.2.2).bind fun bt559 => ((laws_eqImage.f kj16 bt559.1 bt559.2.1 bt559.2.2.1 bt559.2.2.2 t518 t519 t520 t521).bind fun t566 => (if t566 = true then ((laws_heldImage.f kj16 t532 t533 t534 t551 1).bind fun t567 => (if t567 < 0 then (some false) else (if t567 = t550 then (some true) else (some false)))) else (some false))))) else (some false)))) = some r := H
          have A62 := Aside0.mk A620
          clear A620
          replace H := Option.bind_eq_some_iff.mp H
          obtain ⟨t552, A630, H⟩ := H
          replace H : (if t552 < 0 then (some false) else (if t552 = t550 then ((laws_toImage.f kj16 a0_0 a0_1 a0_2 l0_3).bind fun bt553 => ((impl_InvertImage.f bt553.1 bt553.2.1 bt553.2.2.1 bt553.2.2.2).bind fun bt559 => ((laws_eqImage.f kj16 bt559.1 bt559.2.1 bt559.2.2.1 bt559.2.2.2 t518 t519 t520 t521).bind fun t566 => (if t566 = true then ((laws_heldImage.f kj16 t532 t533 t534 t551 1).bind fun t567 => (if t567 < 0 then (some false) else (if t567 = t550 then (some true) else (some false)))) else (some false))))) else (some false))) = some r := H
          have A63 := Aside0.mk A630
          clear A630
          by_cases c64 : t552 < 0
          · rw [if_pos c64] at H
            have c64b0 : decide (t552 < 0) = true := decide_eq_true c64
            clear c64
            obtain rfl := Option.some.inj H
            exact absurd ht_.out (by decide)
          rw [if_neg c64] at H
          have c64b0 : decide (t552 < 0) = false := decide_eq_false c64
          clear c64
          by_cases c65 : t552 = t550
          · rw [if_pos c65] at H
            have c65b0 : (t552 == t550) = true := beq_iff_eq.mpr c65
            have c65b1 : (t552 != t550) = false := bne_eq_false_iff_eq.mpr c65
            clear c65
            replace H := Option.bind_eq_some_iff.mp H
            obtain ⟨⟨t553, t554, t555, t556⟩, A660, H⟩ := H
            replace H : ((impl_InvertImage.f t553 t554 t555 t556).bind fun bt559 => ((laws_eqImage.f kj16 bt559.1 bt559.2.1 bt559.2.2.1 bt559.2.2.2 t518 t519 t520 t521).bind fun t566 => (if t566 = true then ((laws_heldImage.f kj16 t532 t533 t534 t551 1).bind fun t567 => (if t567 < 0 then (some false) else (if t567 = t550 then (some true) else (some false)))) else (some false)))) = some r := H
            have A66 := Aside0.mk A660
            clear A660
            replace H := Option.bind_eq_some_iff.mp H
            obtain ⟨⟨t559, t560, t561, t562⟩, A670, H⟩ := H
            replace H : ((laws_eqImage.f kj16 t559 t560 t561 t562 t518 t519 t520 t521).bind fun t566 => (if t566 = true then ((laws_heldImage.f kj16 t532 t533 t534 t551 1).bind fun t567 => (if t567 < 0 then (some false) else (if t567 = t550 then (some true) else (some false)))) else (some false))) = some r := H
            have A67 := Aside0.mk A670
            clear A670
            replace H := Option.bind_eq_some_iff.mp H
            obtain ⟨t566, A680, H⟩ := H
            replace H : (if t566 = true then ((laws_heldImage.f kj16 t532 t533 t534 t551 1).bind fun t567 => (if t567 < 0 then (some false) else (if t567 = t550 then (some true) else (some false)))) else (some false)) = some r := H
            have A68 := Aside0.mk A680
            clear A680
            by_cases c69 : t566 = true
            · subst c69
              have H1 : ((laws_heldImage.f kj16 t532 t533 t534 t551 1).bind fun t567 => (if t567 < 0 then (some false) else (if t567 = t550 then (some true) else (some false)))) = some r := by rw [if_pos rfl] at H; exact H
              clear H
              have H := H1
              clear H1
              replace H := Option.bind_eq_some_iff.mp H
              obtain ⟨t567, A700, H⟩ := H
              replace H : (if t567 < 0 then (some false) else (if t567 = t550 then (some true) else (some false))) = some r := H
              have A70 := Aside0.mk A700
              clear A700
              by_cases c71 : t567 < 0
              · rw [if_pos c71] at H
                have c71b0 : decide (t567 < 0) = true := decide_eq_true c71
                clear c71
                obtain rfl := Option.some.inj H
                exact absurd ht_.out (by decide)
              rw [if_neg c71] at H
              have c71b0 : decide (t567 < 0) = false := decide_eq_false c71
              clear c71
              by_cases c72 : t567 = t550
              · rw [if_pos c72] at H
                have c72b0 : (t567 == t550) = true := beq_iff_eq.mpr c72
                have c72b1 : (t567 != t550) = false := bne_eq_false_iff_eq.mpr c72
                clear c72
                obtain rfl := Option.some.inj H
                simp only [Option.some.injEq, Prod.mk.injEq] at H
                obtain ⟨rfl⟩ := H
                have hnb73 := NB538_510.out
                have hnc73 := NB510_538.out
                have hnb74 := NB538_524.out
                have hnc74 := NB524_538.out
                have hnb75 := NB538_531.out
                have hnc75 := NB531_538.out
                have hcz76_0 : wc.cell? ⟨gb538, 0, none⟩ = some (.int .i64 t532) := B.bc BK538 0
                have hcz76_1 : wc.cell? ⟨gb538, 1, none⟩ = some (.int .i64 t533) := B.bc BK538 1
                have hcz76_2 : wc.cell? ⟨gb538, 2, none⟩ = some (.int .i64 t534) := B.bc BK538 2
                have hcz76_3 : wc.cell? ⟨gb538, 3, none⟩ = some (.slice Ao42 t535.length co42) := B.bc BK538 3
                have hfz76_0 := blk_frozen BK538.out 0
                have hfz76_1 := blk_frozen BK538.out 1
                have hfz76_2 := blk_frozen BK538.out 2
                have hfz76_3 := blk_frozen BK538.out 3
                go_wp2_with (first | ((with_reducible refine gate_callee (f := 21) rfl ?_); refine goesL_ (some 45) rfl rfl Try.func21 (by kernel_rfl) rfl #[.agg #[.int .i64 t532, .int .i64 t533, .int .i64 t534, .slice Ao42 t535.length co42], .int .i64 1] rfl B.am ?_; (with_reducible refine (laws_markImage.calls kj16 t532 t533 t534 (fun k_ => some k_ = (.slice Ao42 t535.length co42 : Value).ownBlock) (.slice Ao42 t535.length co42) t535 1 t550 t551 w _ ?side1 ?side2 A62.out).mono ?_); (case side1 => exact B.bl HB); (case side2 => exact Kd.R_tight rfl HO_539003.out); rintro e w77 ⟨rfl, hy0, hb, hkp⟩; refine ⟨_, rfl, ?_⟩; have n0_ := Aside0.mk (Kd.R_mono (ok' := fun k_ => some k_ ≠ (.slice Ao35 t548.length co35 : Value).ownBlock ∧ some k_ ≠ (.slice Ao42 t535.length co42 : Value).ownBlock) (Kd.R_keptB (HO_525003.out) hkp (fun k_ hk_ hs_ => (hk_.2) hs_)) (fun k_ hk_ => ⟨hk_.1.1, hk_.1.2⟩)); have n1_ := Aside0.mk (Kd.R_mono (ok' := fun k_ => some k_ ≠ (.slice Ao28 t521.length co28 : Value).ownBlock ∧ some k_ ≠ (.slice Ao42 t535.length co42 : Value).ownBlock) (Kd.R_keptB (HO_532003.out) hkp (fun k_ hk_ hs_ => (hk_.2) hs_)) (fun k_ hk_ => ⟨hk_.1.1, hk_.1.2⟩)); have n2_ := Aside0.mk (Kd.R_reok rfl hy0 (fun k_ e_ => HO_539003.out.1 k_ e_)); have n3_ := Aside0.mk (blk_kept (B.kb BK510) hkp (fun hs_ => (fun e_ => (Kd.R_ne HO_539003.out BK510.out (by decide)) e_) hs_)); have n4_ := Aside0.mk (blk_kept (B.kb BK524) hkp (fun hs_ => (fun e_ => (Kd.R_ne HO_539003.out BK524.out (by decide)) e_) hs_)); have n5_ := Aside0.mk (blk_kept (B.kb BK531) hkp (fun hs_ => (fun e_ => (Kd.R_ne HO_539003.out BK531.out (by decide)) e_) hs_)); have n6_ := Aside0.mk (blk_kept (B.kb BK538) hkp (fun hs_ => (fun e_ => (Kd.R_ne HO_539003.out BK538.out (by decide)) e_) hs_)); have n7_ := Aside0.mk (hb); clear HO_525003 HO_532003 HO_539003 BK510 BK524 BK531 BK538 HB; have HO_525003 := n0_; have HO_532003 := n1_; have HO_539003 := n2_; have BK510 := n3_; have BK524 := n4_; have BK531 := n5_; have BK538 := n6_; have HB := n7_; clear n0_ n1_ n2_ n3_ n4_ n5_ n6_ n7_; (try clear hb); (try clear hkp); (try clear hy0); have hcz78_0 : w77.cell? ⟨gb538, 0, none⟩ = some (.int .i64 t532) := B.bc BK538 0; have hcz78_1 : w77.cell? ⟨gb538, 1, none⟩ = some (.int .i64 t533) := B.bc BK538 1; have hcz78_2 : w77.cell? ⟨gb538, 2, none⟩ = some (.int .i64 t534) := B.bc BK538 2; have hcz78_3 : w77.cell? ⟨gb538, 3, none⟩ = some (.slice Ao42 t535.length co42) := B.bc BK538 3; have hfz78_0 := blk_frozen BK538.out 0; have hfz78_1 := blk_frozen BK538.out 1; have hfz78_2 := blk_frozen BK538.out 2; have hfz78_3 := blk_frozen BK538.out 3) | ((with_reducible refine gate_callee (f := 22) rfl ?_); refine goesL_ (some 48) rfl rfl Try.func22 (by kernel_rfl) rfl #[.agg #[.int .i64 t532, .int .i64 t533, .int .i64 t534, .slice Ao42 t551.length co42], .int .i64 1] rfl (by (try simp only [List.map_toArray, List.map_cons, List.map_nil]); first | done | (rw [show t551.length = t535.length from (Kd.R_reads' HO_539003.out).1.symm] <;> rfl) | rfl | (simp only [List.length_drop, List.length_take]; rfl)) ?_; (with_reducible refine (laws_heldImage.calls kj16 t532 t533 t534 _ _ t551 1 t552 _ ?side1 ?side2 A63.out).mono ?_); (case side1 => exact B.kc ((Kd.R_reads' HO_539003.out).2.2)); (case side2 => rw [show t551.length = t535.length from (Kd.R_reads' HO_539003.out).1.symm]; exact (Kd.R_reads' HO_539003.out).2.1); rintro e w79 ⟨rfl, hb⟩; refine ⟨_, rfl, ?_⟩; have n0_ := Aside0.mk (Kd.R_below (B.kr HO_525003) hb); have n1_ := Aside0.mk (Kd.R_below (B.kr HO_532003) hb); have n2_ := Aside0.mk (Kd.R_below (B.kr HO_539003) hb); have n3_ := Aside0.mk (blk_below (B.kb BK510) hb); have n4_ := Aside0.mk (blk_below (B.kb BK524) hb); have n5_ := Aside0.mk (blk_below (B.kb BK531) hb); have n6_ := Aside0.mk (blk_below (B.kb BK538) hb); have n7_ := Aside0.mk (below_step (B.bl HB) hb); clear HO_525003 HO_532003 HO_539003 BK510 BK524 BK531 BK538 HB; have HO_525003 := n0_; have HO_532003 := n1_; have HO_539003 := n2_; have BK510 := n3_; have BK524 := n4_; have BK531 := n5_; have BK538 := n6_; have HB := n7_; clear n0_ n1_ n2_ n3_ n4_ n5_ n6_ n7_; (try clear hb); (try clear hb2); (try clear hk); (try clear hi); have hnb80 := NB510_524.out; have hnc80 := NB524_510.out; have hnb81 := NB510_531.out; have hnc81 := NB531_510.out; have hcz82_0 : w79.cell? ⟨gb510, 0, none⟩ = some (.int .i64 a0_0) := B.bc BK510 0; have hcz82_1 : w79.cell? ⟨gb510, 1, none⟩ = some (.int .i64 a0_1) := B.bc BK510 1; have hcz82_2 : w79.cell? ⟨gb510, 2, none⟩ = some (.int .i64 a0_2) := B.bc BK510 2; have hcz82_3 : w79.cell? ⟨gb510, 3, none⟩ = some (.slice A0_3 l0_3.length c0_3) := B.bc BK510 3; have hfz82_0 := blk_frozen BK510.out 0; have hfz82_1 := blk_frozen BK510.out 1; have hfz82_2 := blk_frozen BK510.out 2; have hfz82_3 := blk_frozen BK510.out 3) | ((with_reducible refine gate_callee (f := 13) rfl ?_); refine goesL_ (some 55) rfl rfl Try.func13 (by kernel_rfl) rfl #[.agg #[.int .i64 a0_0, .int .i64 a0_1, .int .i64 a0_2, .slice A0_3 l0_3.length c0_3]] rfl B.am ?_; (with_reducible refine (laws_toImage.calls kj16 a0_0 a0_1 a0_2 _ _ l0_3 t553 t554 t555 t556 _ ?side1 ?side2 A66.out).mono ?_); (case side1 => exact B.kc (Kd.C_below HR0_3.out HB.out)); (case side2 => exact HC0_3.out); rintro e w83 ⟨v557, rfl, ho0, hb⟩; refine ⟨_, rfl, ?_⟩; have n0_ := Aside0.mk (Kd.R_elder' (B.kr HO_525003) (Kd.R_base ho0) hb); have n1_ := Aside0.mk (Kd.R_elder' (B.kr HO_532003) (Kd.R_base ho0) hb); have n2_ := Aside0.mk (Kd.R_elder' (B.kr HO_539003) (Kd.R_base ho0) hb); have n3_ := Aside0.mk (Kd.R_lower (Kd.R_new' (Kd.R_new' (Kd.R_new' ho0 (Kd.R_lt (B.kr HO_525003))) (Kd.R_lt (B.kr HO_532003))) (Kd.R_lt (B.kr HO_539003))) (below_size (B.bl HB))); have n4_ := Aside0.mk (blk_below (B.kb BK510) hb); have n5_ := Aside0.mk (blk_below (B.kb BK524) hb); have n6_ := Aside0.mk (blk_below (B.kb BK531) hb); have n7_ := Aside0.mk (blk_below (B.kb BK538) hb); have n8_ := Aside0.mk (below_step (B.bl HB) hb); clear HO_525003 HO_532003 HO_539003 BK510 BK524 BK531 BK538 HB; have HO_525003 := n0_; have HO_532003 := n1_; have HO_539003 := n2_; have HO558 := n3_; have BK510 := n4_; have BK524 := n5_; have BK531 := n6_; have BK538 := n7_; have HB := n8_; clear n0_ n1_ n2_ n3_ n4_ n5_ n6_ n7_ n8_; (try clear hb); (try clear hb2); (try clear hk); (try clear hi); (try clear ho0); obtain ⟨Ao84, co84, eo84⟩ := Kd.R_slice HO558.out; subst eo84) | ((with_reducible refine gate_callee (f := 29) rfl ?_); refine goesL_ (some 56) rfl rfl Try.func29 (by kernel_rfl) rfl #[.agg #[.int .i64 t553, .int .i64 t554, .int .i64 t555, .slice Ao84 t556.length co84]] rfl B.am ?_; (with_reducible refine (impl_InvertImage.calls t553 t554 t555 _ _ t556 t559 t560 t561 t562 _ ?side1 ?side2 A67.out).mono ?_); (case side1 => exact B.kc ((Kd.R_reads' HO558.out).2.2)); (case side2 => exact (Kd.R_reads' HO558.out).2.1); rintro e w85 ⟨v563, rfl, ho0, hb⟩; refine ⟨_, rfl, ?_⟩; have n0_ := Aside0.mk (Kd.R_elder' (B.kr HO_525003) (Kd.R_base ho0) hb); have n1_ := Aside0.mk (Kd.R_elder' (B.kr HO_532003) (Kd.R_base ho0) hb); have n2_ := Aside0.mk (Kd.R_elder' (B.kr HO_539003) (Kd.R_base ho0) hb); have n3_ := Aside0.mk (Kd.R_elder' (B.kr HO558) (Kd.R_base ho0) hb); have n4_ := Aside0.mk (Kd.R_lower (Kd.R_new' (Kd.R_new' (Kd.R_new' (Kd.R_new' ho0 (Kd.R_lt (B.kr HO_525003))) (Kd.R_lt (B.kr HO_532003))) (Kd.R_lt (B.kr HO_539003))) (Kd.R_lt (B.kr HO558))) (below_size (B.bl HB))); have n5_ := Aside0.mk (blk_below (B.kb BK510) hb); have n6_ := Aside0.mk (blk_below (B.kb BK524) hb); have n7_ := Aside0.mk (blk_below (B.kb BK531) hb); have n8_ := Aside0.mk (blk_below (B.kb BK538) hb); have n9_ := Aside0.mk (below_step (B.bl HB) hb); clear HO_525003 HO_532003 HO_539003 HO558 BK510 BK524 BK531 BK538 HB; have HO_525003 := n0_; have HO_532003 := n1_; have HO_539003 := n2_; have HO558 := n3_; have HO564 := n4_; have BK510 := n5_; have BK524 := n6_; have BK531 := n7_; have BK538 := n8_; have HB := n9_; clear n0_ n1_ n2_ n3_ n4_ n5_ n6_ n7_ n8_ n9_; (try clear hb); (try clear hb2); (try clear hk); (try clear hi); (try clear ho0)) | ((with_reducible refine gate_dst (N := 10) rfl ?_); refine box_event ?hg (N := 10) ?hd (cs := #[.int .i64 0, .int .i64 0, .int .i64 0, .slice none 0 0]) (t := 27) ?hr ?_; (case hd => rfl); (case hg => rfl); (case hr => first | (go_simp; done) | (go_simp; rfl)); intro gb565 hg w86 hbox hb; have n0_ := Aside0.mk (Kd.R_below (B.kr HO_525003) hb); have n1_ := Aside0.mk (Kd.R_below (B.kr HO_532003) hb); have n2_ := Aside0.mk (Kd.R_below (B.kr HO_539003) hb); have n3_ := Aside0.mk (Kd.R_below (B.kr HO558) hb); have n4_ := Aside0.mk (Kd.R_below (B.kr HO564) hb); have n5_ := Aside0.mk (blk_below (B.kb BK510) hb); have n6_ := Aside0.mk (blk_below (B.kb BK524) hb); have n7_ := Aside0.mk (blk_below (B.kb BK531) hb); have n8_ := Aside0.mk (blk_below (B.kb BK538) hb); have n9_ := Aside0.mk (below_step (B.bl HB) hb); have n10_ := Aside0.mk (hbox); have n11_ := Aside0.mk (B.nle hg (below_size (B.bl HB))); have n12_ := Aside0.mk (B.nle hg (below_size (B.bl HB))); have n13_ := Aside0.mk (B.nlt hg (blk_lt (B.kb BK510))); have n14_ := Aside0.mk (B.ngt hg (blk_lt (B.kb BK510))); have n15_ := Aside0.mk (B.nlt hg (blk_lt (B.kb BK524))); have n16_ := Aside0.mk (B.ngt hg (blk_lt (B.kb BK524))); have n17_ := Aside0.mk (B.nlt hg (blk_lt (B.kb BK531))); have n18_ := Aside0.mk (B.ngt hg (blk_lt (B.kb BK531))); have n19_ := Aside0.mk (B.nlt hg (blk_lt (B.kb BK538))); have n20_ := Aside0.mk (B.ngt hg (blk_lt (B.kb BK538))); clear HO_525003 HO_532003 HO_539003 HO558 HO564 BK510 BK524 BK531 BK538 HB; have HO_525003 := n0_; have HO_532003 := n1_; have HO_539003 := n2_; have HO558 := n3_; have HO564 := n4_; have BK510 := n5_; have BK524 := n6_; have BK531 := n7_; have BK538 := n8_; have HB := n9_; have BK565 := n10_; have GW565 := n11_; have GE565 := n12_; have NB510_565 := n13_; have NB565_510 := n14_; have NB524_565 := n15_; have NB565_524 := n16_; have NB531_565 := n17_; have NB565_531 := n18_; have NB538_565 := n19_; have NB565_538 := n20_; clear n0_ n1_ n2_ n3_ n4_ n5_ n6_ n7_ n8_ n9_ n10_ n11_ n12_ n13_ n14_ n15_ n16_ n17_ n18_ n19_ n20_; clear hb hbox hg; have hnb87 := NB565_510.out; have hnc87 := NB510_565.out; have hnb88 := NB565_524.out; have hnc88 := NB524_565.out; have hnb89 := NB565_531.out; have hnc89 := NB531_565.out; have hnb90 := NB565_538.out; have hnc90 := NB538_565.out; have hcz91_0 : w86.cell? ⟨gb565, 0, none⟩ = some (.int .i64 0) := B.bc BK565 0; have hcz91_1 : w86.cell? ⟨gb565, 1, none⟩ = some (.int .i64 0) := B.bc BK565 1; have hcz91_2 : w86.cell? ⟨gb565, 2, none⟩ = some (.int .i64 0) := B.bc BK565 2; have hcz91_3 : w86.cell? ⟨gb565, 3, none⟩ = some (.slice none 0 0) := B.bc BK565 3; have hfz91_0 := blk_frozen BK565.out 0; have hfz91_1 := blk_frozen BK565.out 1; have hfz91_2 := blk_frozen BK565.out 2; have hfz91_3 := blk_frozen BK565.out 3; obtain ⟨Ao92, co92, eo92⟩ := Kd.R_slice HO564.out; subst eo92; have hnb93 := NB524_531.out; have hnc93 := NB531_524.out; have hcz94_0 : w86.cell? ⟨gb524, 0, none⟩ = some (.int .i64 t518) := B.bc BK524 0; have hcz94_1 : w86.cell? ⟨gb524, 1, none⟩ = some (.int .i64 t519) := B.bc BK524 1; have hcz94_2 : w86.cell? ⟨gb524, 2, none⟩ = some (.int .i64 t520) := B.bc BK524 2; have hcz94_3 : w86.cell? ⟨gb524, 3, none⟩ = some (.slice Ao28 t521.length co28) := B.bc BK524 3; have hfz94_0 := blk_frozen BK524.out 0; have hfz94_1 := blk_frozen BK524.out 1; have hfz94_2 := blk_frozen BK524.out 2; have hfz94_3 := blk_frozen BK524.out 3) | ((with_reducible refine gate_callee (f := 15) rfl ?_); refine goesL_ (some 59) rfl rfl Try.func15 (by kernel_rfl) rfl #[.agg #[.int .i64 t559, .int .i64 t560, .int .i64 t561, .slice Ao92 t562.length co92], .agg #[.int .i64 t518, .int .i64 t519, .int .i64 t520, .slice Ao28 t521.length co28]] rfl B.am ?_; (with_reducible refine (laws_eqImage.calls kj16 t559 t560 t561 _ _ t562 t518 t519 t520 _ _ t521 true _ ?side1 ?side2 ?side3 ?side4 A68.out).mono ?_); (case side1 => refine (Kd.R_reads' (e := 3) (base := w.heap.size) (ok := fun k_ => ((((True ∧ some k_ ≠ (.slice Ao28 t521.length co28 : Value).ownBlock) ∧ some k_ ≠ (.slice Ao35 t548.length co35 : Value).ownBlock) ∧ some k_ ≠ (.slice Ao42 t535.length co42 : Value).ownBlock) ∧ some k_ ≠ (.slice Ao84 t556.length co84 : Value).ownBlock)) (n := t562.length) (c := co92) ?_).2.2; exact (B.kr0 (B.rs4 HO564 BK565))); (case side2 => exact (Kd.R_reads' HO564.out).2.1); (case side3 => refine (Kd.R_reads' (e := 3) (base := w.heap.size) (ok := fun k_ => (((some k_ ≠ (.slice Ao35 t548.length co35 : Value).ownBlock ∧ some k_ ≠ (.slice Ao42 t535.length co42 : Value).ownBlock) ∧ some k_ ≠ (.slice Ao84 t556.length co84 : Value).ownBlock) ∧ some k_ ≠ (.slice Ao92 t562.length co92 : Value).ownBlock)) (n := t521.length) (c := co28) ?_).2.2; exact (B.kr0 (B.rs4 HO_525003 BK565))); (case side4 => exact (Kd.R_reads' HO_525003.out).2.1); rintro e w95 ⟨rfl, hb⟩; refine ⟨_, rfl, ?_⟩; have n0_ := Aside0.mk (Kd.R_below (B.kr0 (B.rs4 HO_525003 BK565)) hb); have n1_ := Aside0.mk (Kd.R_below (B.kr0 (B.rs4 HO_532003 BK565)) hb); have n2_ := Aside0.mk (Kd.R_below (B.kr0 (B.rs4 HO_539003 BK565)) hb); have n3_ := Aside0.mk (Kd.R_below (B.kr0 (B.rs4 HO558 BK565)) hb); have n4_ := Aside0.mk (Kd.R_below (B.kr0 (B.rs4 HO564 BK565)) hb); have n5_ := Aside0.mk (blk_below (B.kb0 (B.bf4 BK510 NB510_565)) hb); have n6_ := Aside0.mk (blk_below (B.kb0 (B.bf4 BK524 NB524_565)) hb); have n7_ := Aside0.mk (blk_below (B.kb0 (B.bf4 BK531 NB531_565)) hb); have n8_ := Aside0.mk (blk_below (B.kb0 (B.bf4 BK538 NB538_565)) hb); have n9_ := Aside0.mk (blk_below (g := gb565) (o := .cells #[.int .i64 t559, .int .i64 t560, .int .i64 t561, .slice Ao92 t562.length co92] 27 (0, 0)) (B.kb0 (B.bp4 BK565)) hb); have n10_ := Aside0.mk (below_step (B.bl HB) hb); clear HO_525003 HO_532003 HO_539003 HO558 HO564 BK510 BK524 BK531 BK538 BK565 HB; have HO_525003 := n0_; have HO_532003 := n1_; have HO_539003 := n2_; have HO558 := n3_; have HO564 := n4_; have BK510 := n5_; have BK524 := n6_; have BK531 := n7_; have BK538 := n8_; have BK565 := n9_; have HB := n10_; clear n0_ n1_ n2_ n3_ n4_ n5_ n6_ n7_ n8_ n9_ n10_; (try clear hb); (try clear hb2); (try clear hk); (try clear hi); have hcz96_0 : w95.cell? ⟨gb538, 0, none⟩ = some (.int .i64 t532) := B.bc BK538 0; have hcz96_1 : w95.cell? ⟨gb538, 1, none⟩ = some (.int .i64 t533) := B.bc BK538 1; have hcz96_2 : w95.cell? ⟨gb538, 2, none⟩ = some (.int .i64 t534) := B.bc BK538 2; have hcz96_3 : w95.cell? ⟨gb538, 3, none⟩ = some (.slice Ao42 t535.length co42) := B.bc BK538 3; have hfz96_0 := blk_frozen BK538.out 0; have hfz96_1 := blk_frozen BK538.out 1; have hfz96_2 := blk_frozen BK538.out 2; have hfz96_3 := blk_frozen BK538.out 3) | ((with_reducible refine gate_callee (f := 22) rfl ?_); refine goesL_ (some 63) rfl rfl Try.func22 (by kernel_rfl) rfl #[.agg #[.int .i64 t532, .int .i64 t533, .int .i64 t534, .slice Ao42 t551.length co42], .int .i64 1] rfl (by (try simp only [List.map_toArray, List.map_cons, List.map_nil]); first | done | (rw [show t551.length = t535.length from (Kd.R_reads' HO_539003.out).1.symm] <;> rfl) | rfl | (simp only [List.length_drop, List.length_take]; rfl)) ?_; (with_reducible refine (laws_heldImage.calls kj16 t532 t533 t534 _ _ t551 1 t567 _ ?side1 ?side2 A70.out).mono ?_); (case side1 => exact B.kc ((Kd.R_reads' HO_539003.out).2.2)); (case side2 => rw [show t551.length = t535.length from (Kd.R_reads' HO_539003.out).1.symm]; exact (Kd.R_reads' HO_539003.out).2.1); rintro e w97 ⟨rfl, hb⟩; refine ⟨_, rfl, ?_⟩; have n0_ := Aside0.mk (Kd.R_below (B.kr HO_525003) hb); have n1_ := Aside0.mk (Kd.R_below (B.kr HO_532003) hb); have n2_ := Aside0.mk (Kd.R_below (B.kr HO_539003) hb); have n3_ := Aside0.mk (Kd.R_below (B.kr HO558) hb); have n4_ := Aside0.mk (Kd.R_below (B.kr HO564) hb); have n5_ := Aside0.mk (blk_below (B.kb BK510) hb); have n6_ := Aside0.mk (blk_below (B.kb BK524) hb); have n7_ := Aside0.mk (blk_below (B.kb BK531) hb); have n8_ := Aside0.mk (blk_below (B.kb BK538) hb); have n9_ := Aside0.mk (blk_below (B.kb BK565) hb); have n10_ := Aside0.mk (below_step (B.bl HB) hb); clear HO_525003 HO_532003 HO_539003 HO558 HO564 BK510 BK524 BK531 BK538 BK565 HB; have HO_525003 := n0_; have HO_532003 := n1_; have HO_539003 := n2_; have HO558 := n3_; have HO564 := n4_; have BK510 := n5_; have BK524 := n6_; have BK531 := n7_; have BK538 := n8_; have BK565 := n9_; have HB := n10_; clear n0_ n1_ n2_ n3_ n4_ n5_ n6_ n7_ n8_ n9_ n10_; (try clear hb); (try clear hb2); (try clear hk); (try clear hi)))
                go_ret
                exact ⟨by first | rfl | (simp [errW_none, errW_some] <;> rfl) | (simp [*, errW_none, errW_some] <;> rfl), B.bl HB⟩
              rw [if_neg c72] at H
              have c72b0 : (t567 == t550) = false := beq_eq_false_iff_ne.mpr c72
              have c72b1 : (t567 != t550) = true := bne_iff_ne.mpr c72
              obtain rfl := Option.some.inj H
              exact absurd ht_.out (by decide)
            replace c69 := Bool.eq_false_iff.mpr c69
            subst c69
            have H1 : (some false) = some r := by rw [if_neg (show ¬ (false = true) by decide)] at H; exact H
            clear H
            have H := H1
            clear H1
            obtain rfl := Option.some.inj H
            exact absurd ht_.out (by decide)
          rw [if_neg c65] at H
          have c65b0 : (t552 == t550) = false := beq_eq_false_iff_ne.mpr c65
          have c65b1 : (t552 != t550) = true := bne_iff_ne.mpr c65
          obtain rfl := Option.some.inj H
          exact absurd ht_.out (by decide)
    replace c15 := Bool.eq_false_iff.mpr c15
    subst c15
    have H1 : (some false) = some r := by rw [if_neg (show ¬ (false = true) by decide)] at H; exact H
    clear H
    have H := H1
    clear H1
    obtain rfl := Option.some.inj H
    exact absurd ht_.out (by decide)
  replace c12 := Bool.eq_false_iff.mpr c12
  subst c12
  have H1 : (some false) = some r := by rw [if_neg (show ¬ (false = true) by decide)] at H; exact H
  clear H
  have H := H1
  clear H1
  obtain rfl := Option.some.inj H
  exact absurd ht_.out (by decide)

end Go.Proofs.Ytegicfkcdmhjgaa.Q
