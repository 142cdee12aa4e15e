-- Written by a program of this session (the kit's printer, with hand-proved contracts for the functions that it does not take).
import Derived.Test.YtibbkaoghbmncaaQ0
import Derived.Test.YtibbkaoghbmncaaQ4
import Derived.Test.YtibbkaoghbmncaaQ8
import Derived.Test.YtibbkaoghbmncaaQ10
namespace Go.Proofs.Ytibbkaoghbmncaa.Q
open Go.RowKit Go.Proofs.YtibbkaoghbmncaaW.PrintWords Go.Proofs.YtibbkaoghbmncaaW.PrintLast Go.Proofs.YtibbkaoghbmncaaW.PrintMore
attribute [local go_sem] max2_int min2_int max_two min_two max_three min_three max_four min_four   -- for this text's walks alone
set_option linter.unusedVariables false
set_option linter.unusedSimpArgs false

/-! ### laws_FnExactTurnImage: function 6 -/
def laws_FnExactTurnImage.j0 : Nat → Int → Bool → Int → Int → Int → List Int → Int → Int → Int → List Int → Int → Int → Int → List Int → Option (Bool)
  | 0, _, _, _, _, _, _, _, _, _, _, _, _, _, _ => none
  | k + 1, x1, x46, x489000, x489001, x489002, x489003, x503000, x503001, x503002, x503003, x517000, x517001, x517002, x517003 => if x46 = true then (some false) else ((laws_markImage.f k x517000 x517001 x517002 x517003 1).bind fun bt528 => ((laws_heldImage.f k x517000 x517001 x517002 bt528.2 1).bind fun t530 => (if t530 < 0 then (some false) else (if t530 = bt528.1 then ((laws_toImage.f k x489000 x489001 x489002 x489003).bind fun bt531 => ((impl_TurnImage.f bt531.1 bt531.2.1 bt531.2.2.1 bt531.2.2.2 x1).bind fun bt537 => ((laws_eqImage.f k bt537.1 bt537.2.1 bt537.2.2.1 bt537.2.2.2 x503000 x503001 x503002 x503003).bind fun t544 => (if t544 = true then ((laws_heldImage.f k x517000 x517001 x517002 bt528.2 1).bind fun t545 => (if t545 < 0 then (some false) else (if t545 = bt528.1 then (some true) else (some false)))) else (some false))))) else (some false)))))
def laws_FnExactTurnImage.f (k : Nat) (a0_0 : Int) (a0_1 : Int) (a0_2 : Int) (l0_3 : List Int) (a1 : Int) : Option (Bool) := (laws_szImage.f a0_0 a0_1 a0_2 l0_3 1048576).bind fun t489 => (if t489 < 0 then (some true) else ((laws_toImage.f k a0_0 a0_1 a0_2 l0_3).bind fun bt490 => ((spec_TurnImage.f k bt490.1 bt490.2.1 bt490.2.2.1 bt490.2.2.2 a1).bind fun bt496 => ((laws_toImage.f k a0_0 a0_1 a0_2 l0_3).bind fun bt503 => ((impl_TurnImage.f bt503.1 bt503.2.1 bt503.2.2.1 bt503.2.2.2 a1).bind fun bt510 => ((laws_eqImage.f k bt510.1 bt510.2.1 bt510.2.2.1 bt510.2.2.2 bt496.1 bt496.2.1 bt496.2.2.1 bt496.2.2.2).bind fun t517 => (if t517 = true then ((laws_toImage.f k a0_0 a0_1 a0_2 l0_3).bind fun bt518 => ((laws_eqImage.f k bt503.1 bt503.2.1 bt503.2.2.1 bt503.2.2.2 bt518.1 bt518.2.1 bt518.2.2.1 bt518.2.2.2).bind fun t524 => (if t524 = true then ((laws_markImage.f k bt503.1 bt503.2.1 bt503.2.2.1 bt503.2.2.2 1).bind fun bt525 => (if bt525.1 < 0 then (laws_FnExactTurnImage.j0 k a1 true a0_0 a0_1 a0_2 l0_3 bt496.1 bt496.2.1 bt496.2.2.1 bt496.2.2.2 bt510.1 bt510.2.1 bt510.2.2.1 bt510.2.2.2) else ((laws_eqImage.f k bt510.1 bt510.2.1 bt510.2.2.1 bt510.2.2.2 bt496.1 bt496.2.1 bt496.2.2.1 bt496.2.2.2).bind fun t527 => (laws_FnExactTurnImage.j0 k a1 (!t527) a0_0 a0_1 a0_2 l0_3 bt496.1 bt496.2.1 bt496.2.2.1 bt496.2.2.2 bt510.1 bt510.2.1 bt510.2.2.1 bt510.2.2.2)))) else (some false)))) else (some false))))))))
theorem laws_FnExactTurnImage.mono_l : ∀ k, (∀ y0 y1 y2 y3 y4 y5 y6 y7 y8 y9 y10 y11 y12 y13, LeO (laws_FnExactTurnImage.j0 k y0 y1 y2 y3 y4 y5 y6 y7 y8 y9 y10 y11 y12 y13) (laws_FnExactTurnImage.j0 (k + 1) y0 y1 y2 y3 y4 y5 y6 y7 y8 y9 y10 y11 y12 y13))
  | 0 => fun _ _ _ _ _ _ _ _ _ _ _ _ _ _ r h => by simp [laws_FnExactTurnImage.j0] at h
  | k + 1 => by
    have ih0 := laws_FnExactTurnImage.mono_l k
    · intro y0 y1 y2 y3 y4 y5 y6 y7 y8 y9 y10 y11 y12 y13
      unfold laws_FnExactTurnImage.j0
      repeat' first
      | (with_reducible exact ih0 _ _ _ _ _ _ _ _ _ _ _ _ _ _)
      | (with_reducible exact laws_eqImage.mono _ _ _ _ _ _ _ _ _)
      | (with_reducible exact laws_heldImage.mono _ _ _ _ _ _)
      | (with_reducible exact laws_markImage.mono _ _ _ _ _ _)
      | (with_reducible exact laws_toImage.mono _ _ _ _ _)
      | (with_reducible exact spec_TurnImage.mono _ _ _ _ _ _)
      | (with_reducible exact LeO.refl _)
      | (with_reducible exact LeO.none _)
      | (with_reducible refine LeO.ite ?_ ?_)
      | (with_reducible refine LeO.bind ?_ (fun _ => ?_))
      | exact ih0 _ _ _ _ _ _ _ _ _ _ _ _ _ _
      | exact laws_eqImage.mono _ _ _ _ _ _ _ _ _
      | exact laws_heldImage.mono _ _ _ _ _ _
      | exact laws_markImage.mono _ _ _ _ _ _
      | exact laws_toImage.mono _ _ _ _ _
      | exact spec_TurnImage.mono _ _ _ _ _ _
      | exact LeO.none _
      | refine LeO.ite ?_ ?_
      | refine LeO.bind ?_ (fun _ => ?_)
theorem laws_FnExactTurnImage.mono : ∀ a0 a1 a2 a3 a4 k, LeO (laws_FnExactTurnImage.f k a0 a1 a2 a3 a4) (laws_FnExactTurnImage.f (k + 1) a0 a1 a2 a3 a4) := by
  intro a0 a1 a2 a3 a4 k
  have ih0 := laws_FnExactTurnImage.mono_l k
  unfold laws_FnExactTurnImage.f
  repeat' first
      | (with_reducible exact ih0 _ _ _ _ _ _ _ _ _ _ _ _ _ _)
      | (with_reducible exact laws_eqImage.mono _ _ _ _ _ _ _ _ _)
      | (with_reducible exact laws_heldImage.mono _ _ _ _ _ _)
      | (with_reducible exact laws_markImage.mono _ _ _ _ _ _)
      | (with_reducible exact laws_toImage.mono _ _ _ _ _)
      | (with_reducible exact spec_TurnImage.mono _ _ _ _ _ _)
      | (with_reducible exact LeO.refl _)
      | (with_reducible exact LeO.none _)
      | (with_reducible refine LeO.ite ?_ ?_)
      | (with_reducible refine LeO.bind ?_ (fun _ => ?_))
      | exact ih0 _ _ _ _ _ _ _ _ _ _ _ _ _ _
      | exact laws_eqImage.mono _ _ _ _ _ _ _ _ _
      | exact laws_heldImage.mono _ _ _ _ _ _
      | exact laws_markImage.mono _ _ _ _ _ _
      | exact laws_toImage.mono _ _ _ _ _
      | exact spec_TurnImage.mono _ _ _ _ _ _
      | exact LeO.none _
      | refine LeO.ite ?_ ?_
      | refine LeO.bind ?_ (fun _ => ?_)
set_option maxHeartbeats 8000000 in
set_option maxRecDepth 100000 in
theorem laws_FnExactTurnImage.calls (k : Nat) (a0_0 : Int) (a0_1 : Int) (a0_2 : Int) (A0_3 : Option Addr) (c0_3 : Nat) (l0_3 : List Int) (a1 : Int) (r : Bool) (w : World) (hr0_3 : Kd.C (Kd.int .i64) w A0_3 l0_3.length l0_3) (hc0_3 : l0_3.length ≤ c0_3) (h : laws_FnExactTurnImage.f k a0_0 a0_1 a0_2 l0_3 a1 = some r) (ht_ : Aside0 (r = true)) :
    Calls Try.prog 6 #[.agg #[.int .i64 a0_0, .int .i64 a0_1, .int .i64 a0_2, .slice A0_3 l0_3.length c0_3], .int .i64 a1] w fun e w' => e = .returned (.bool r) ∧ Below w.heap.size w w' := by
  have hu24 := Try.underlying24
  have hu26 := Try.underlying26
  have HR0_3 := Aside0.mk hr0_3
  have HC0_3 := Aside0.mk hc0_3
  clear hr0_3 hc0_3
  have HB := Aside0.mk (Below.refl w.heap.size w)
  have H : ((laws_szImage.f a0_0 a0_1 a0_2 l0_3 1048576).bind fun t489 => (if t489 < 0 then (some true) else ((laws_toImage.f k a0_0 a0_1 a0_2 l0_3).bind fun bt490 => ((spec_TurnImage.f k bt490.1 bt490.2.1 bt490.2.2.1 bt490.2.2.2 a1).bind fun bt496 => ((laws_toImage.f k a0_0 a0_1 a0_2 l0_3).bind fun bt503 => ((impl_TurnImage.f bt503.1 bt503.2.1 bt503.2.2.1 bt503.2.2.2 a1).bind fun bt510 => ((laws_eqImage.f k bt510.1 bt510.2.1 bt510.2.2.1 bt510.2.2.2 bt496.1 bt496.2.1 bt496.2.2.1 bt496.2.2.2).bind fun t517 => (if t517 = true then ((laws_toImage.f k a0_0 a0_1 a0_2 l0_3).bind fun bt518 => ((laws_eqImage.f k bt503.1 bt503.2.1 bt503.2.2.1 bt503.2.2.2 bt518.1 bt518.2.1 bt518.2.2.1 bt518.2.2.2).bind fun t524 => (if t524 = true then ((laws_markImage.f k bt503.1 bt503.2.1 bt503.2.2.1 bt503.2.2.2 1).bind fun bt525 => (if bt525.1 < 0 then (laws_FnExactTurnImage.j0 k a1 true a0_0 a0_1 a0_2 l0_3 bt496.1 bt496.2.1 bt496.2.2.1 bt496.2.2.2 bt510.1 bt510.2.1 bt510.2.2.1 bt510.2.2.2) else ((laws_eqImage.f k bt510.1 bt510.2.1 bt510.2.2.1 bt510.2.2.2 bt496.1 bt496.2.1 bt496.2.2.1 bt496.2.2.2).bind fun t527 => (laws_FnExactTurnImage.j0 k a1 (!t527) a0_0 a0_1 a0_2 l0_3 bt496.1 bt496.2.1 bt496.2.2.1 bt496.2.2.2 bt510.1 bt510.2.1 bt510.2.2.1 bt510.2.2.2)))) else (some false)))) else (some false))))))))) = some r := h
  clear h
  replace H := Option.bind_eq_some_iff.mp H
  obtain ⟨t489, A30, H⟩ := H
  replace H : (if t489 < 0 then (some true) else ((laws_toImage.f k a0_0 a0_1 a0_2 l0_3).bind fun bt490 => ((spec_TurnImage.f k bt490.1 bt490.2.1 bt490.2.2.1 bt490.2.2.2 a1).bind fun bt496 => ((laws_toImage.f k a0_0 a0_1 a0_2 l0_3).bind fun bt503 => ((impl_TurnImage.f bt503.1 bt503.2.1 bt503.2.2.1 bt503.2.2.2 a1).bind fun bt510 => ((laws_eqImage.f k bt510.1 bt510.2.1 bt510.2.2.1 bt510.2.2.2 bt496.1 bt496.2.1 bt496.2.2.1 bt496.2.2.2).bind fun t517 => (if t517 = true then ((laws_toImage.f k a0_0 a0_1 a0_2 l0_3).bind fun bt518 => ((laws_eqImage.f k bt503.1 bt503.2.1 bt503.2.2.1 bt503.2.2.2 bt518.1 bt518.2.1 bt518.2.2.1 bt518.2.2.2).bind fun t524 => (if t524 = true then ((laws_markImage.f k bt503.1 bt503.2.1 bt503.2.2.1 bt503.2.2.2 1).bind fun bt525 => (if bt525.1 < 0 then (laws_FnExactTurnImage.j0 k a1 true a0_0 a0_1 a0_2 l0_3 bt496.1 bt496.2.1 bt496.2.2.1 bt496.2.2.2 bt510.1 bt510.2.1 bt510.2.2.1 bt510.2.2.2) else ((laws_eqImage.f k bt510.1 bt510.2.1 bt510.2.2.1 bt510.2.2.2 bt496.1 bt496.2.1 bt496.2.2.1 bt496.2.2.2).bind fun t527 => (laws_FnExactTurnImage.j0 k a1 (!t527) a0_0 a0_1 a0_2 l0_3 bt496.1 bt496.2.1 bt496.2.2.1 bt496.2.2.2 bt510.1 bt510.2.1 bt510.2.2.1 bt510.2.2.2)))) else (some false)))) else (some false)))))))) = some r := H
  have A3 := Aside0.mk A30
  clear A30
  by_cases c4 : t489 < 0
  · rw [if_pos c4] at H
    have c4b0 : decide (t489 < 0) = true := decide_eq_true c4
    clear c4
    obtain rfl := Option.some.inj H
    simp only [Option.some.injEq, Prod.mk.injEq] at H
    obtain ⟨rfl⟩ := H
    go_enter Try.func6, Try.ntmps6
    go_wp2_with (first | ((with_reducible refine gate_dst (N := 2) rfl ?_); refine box_event ?hg (N := 2) ?hd (cs := #[.int .i64 a0_0, .int .i64 a0_1, .int .i64 a0_2, .slice A0_3 l0_3.length c0_3]) (t := 24) ?hr ?_; (case hd => rfl); (case hg => rfl); (case hr => first | (go_simp; done) | (go_simp; rfl)); intro gb488 hg w5 hbox hb; have n0_ := Aside0.mk (below_step (B.bl HB) hb); have n1_ := Aside0.mk (hbox); have n2_ := Aside0.mk (B.nle hg (below_size (B.bl HB))); have n3_ := Aside0.mk (B.nle hg (below_size (B.bl HB))); clear HB; have HB := n0_; have BK488 := n1_; have GW488 := n2_; have GE488 := n3_; clear n0_ n1_ n2_ n3_; clear hb hbox hg; have hcz6_0 : w5.cell? ⟨gb488, 0, none⟩ = some (.int .i64 a0_0) := B.bc BK488 0; have hcz6_1 : w5.cell? ⟨gb488, 1, none⟩ = some (.int .i64 a0_1) := B.bc BK488 1; have hcz6_2 : w5.cell? ⟨gb488, 2, none⟩ = some (.int .i64 a0_2) := B.bc BK488 2; have hcz6_3 : w5.cell? ⟨gb488, 3, none⟩ = some (.slice A0_3 l0_3.length c0_3) := B.bc BK488 3; have hfz6_0 := blk_frozen BK488.out 0; have hfz6_1 := blk_frozen BK488.out 1; have hfz6_2 := blk_frozen BK488.out 2; have hfz6_3 := blk_frozen BK488.out 3) | ((with_reducible refine gate_callee (f := 12) rfl ?_); refine goesL_ (some 15) rfl rfl Try.func12 (by kernel_rfl) rfl #[.agg #[.int .i64 a0_0, .int .i64 a0_1, .int .i64 a0_2, .slice A0_3 l0_3.length c0_3], .int .i64 1048576] rfl B.am ?_; (with_reducible refine (laws_szImage.calls a0_0 a0_1 a0_2 _ _ l0_3 1048576 t489 _ ?side1 ?side2 A3.out).mono ?_); (case side1 => exact B.kc (Kd.C_below HR0_3.out HB.out)); (case side2 => exact HC0_3.out); rintro e w7 ⟨rfl, hb⟩; refine ⟨_, rfl, ?_⟩; have n0_ := Aside0.mk (blk_below (B.kb BK488) hb); have n1_ := Aside0.mk (below_step (B.bl HB) hb); clear BK488 HB; have BK488 := n0_; have HB := n1_; clear n0_ n1_; (try clear hb); (try clear hb2); (try clear hk); (try clear hi)))
    go_ret
    exact ⟨by first | rfl | (simp [errW_none, errW_some] <;> rfl) | (simp [*, errW_none, errW_some] <;> rfl), B.bl HB⟩
  rw [if_neg c4] at H
  have c4b0 : decide (t489 < 0) = false := decide_eq_false c4
  clear c4
  replace H := Option.bind_eq_some_iff.mp H
  obtain ⟨⟨t490, t491, t492, t493⟩, A80, H⟩ := H
  replace H : ((spec_TurnImage.f k t490 t491 t492 t493 a1).bind fun bt496 => ((laws_toImage.f k a0_0 a0_1 a0_2 l0_3).bind fun bt503 => ((impl_TurnImage.f bt503.1 bt503.2.1 bt503.2.2.1 bt503.2.2.2 a1).bind fun bt510 => ((laws_eqImage.f k bt510.1 bt510.2.1 bt510.2.2.1 bt510.2.2.2 bt496.1 bt496.2.1 bt496.2.2.1 bt496.2.2.2).bind fun t517 => (if t517 = true then ((laws_toImage.f k a0_0 a0_1 a0_2 l0_3).bind fun bt518 => ((laws_eqImage.f k bt503.1 bt503.2.1 bt503.2.2.1 bt503.2.2.2 bt518.1 bt518.2.1 bt518.2.2.1 bt518.2.2.2).bind fun t524 => (if t524 = true then ((laws_markImage.f k bt503.1 bt503.2.1 bt503.2.2.1 bt503.2.2.2 1).bind fun bt525 => (if bt525.1 < 0 then (laws_FnExactTurnImage.j0 k a1 true a0_0 a0_1 a0_2 l0_3 bt496.1 bt496.2.1 bt496.2.2.1 bt496.2.2.2 bt510.1 bt510.2.1 bt510.2.2.1 bt510.2.2.2) else ((laws_eqImage.f k bt510.1 bt510.2.1 bt510.2.2.1 bt510.2.2.2 bt496.1 bt496.2.1 bt496.2.2.1 bt496.2.2.2).bind fun t527 => (laws_FnExactTurnImage.j0 k a1 (!t527) a0_0 a0_1 a0_2 l0_3 bt496.1 bt496.2.1 bt496.2.2.1 bt496.2.2.2 bt510.1 bt510.2.1 bt510.2.2.1 bt510.2.2.2)))) else (some false)))) else (some false)))))) = some r := H
  have A8 := Aside0.mk A80
  clear A80
  replace H := Option.bind_eq_some_iff.mp H
  obtain ⟨⟨t496, t497, t498, t499⟩, A90, H⟩ := H
  replace H : ((laws_toImage.f k a0_0 a0_1 a0_2 l0_3).bind fun bt503 => ((impl_TurnImage.f bt503.1 bt503.2.1 bt503.2.2.1 bt503.2.2.2 a1).bind fun bt510 => ((laws_eqImage.f k bt510.1 bt510.2.1 bt510.2.2.1 bt510.2.2.2 t496 t497 t498 t499).bind fun t517 => (if t517 = true then ((laws_toImage.f k a0_0 a0_1 a0_2 l0_3).bind fun bt518 => ((laws_eqImage.f k bt503.1 bt503.2.1 bt503.2.2.1 bt503.2.2.2 bt518.1 bt518.2.1 bt518.2.2.1 bt518.2.2.2).bind fun t524 => (if t524 = true then ((laws_markImage.f k bt503.1 bt503.2.1 bt503.2.2.1 bt503.2.2.2 1).bind fun bt525 => (if bt525.1 < 0 then (laws_FnExactTurnImage.j0 k a1 true a0_0 a0_1 a0_2 l0_3 t496 t497 t498 t499 bt510.1 bt510.2.1 bt510.2.2.1 bt510.2.2.2) else ((laws_eqImage.f k bt510.1 bt510.2.1 bt510.2.2.1 bt510.2.2.2 t496 t497 t498 t499).bind fun t527 => (laws_FnExactTurnImage.j0 k a1 (!t527) a0_0 a0_1 a0_2 l0_3 t496 t497 t498 t499 bt510.1 bt510.2.1 bt510.2.2.1 bt510.2.2.2)))) else (some false)))) else (some false))))) = some r := H
  have A9 := Aside0.mk A90
  clear A90
  replace H := Option.bind_eq_some_iff.mp H
  obtain ⟨⟨t503, t504, t505, t506⟩, A100, H⟩ := H
  replace H : ((impl_TurnImage.f t503 t504 t505 t506 a1).bind fun bt510 => ((laws_eqImage.f k bt510.1 bt510.2.1 bt510.2.2.1 bt510.2.2.2 t496 t497 t498 t499).bind fun t517 => (if t517 = true then ((laws_toImage.f k a0_0 a0_1 a0_2 l0_3).bind fun bt518 => ((laws_eqImage.f k t503 t504 t505 t506 bt518.1 bt518.2.1 bt518.2.2.1 bt518.2.2.2).bind fun t524 => (if t524 = true then ((laws_markImage.f k t503 t504 t505 t506 1).bind fun bt525 => (if bt525.1 < 0 then (laws_FnExactTurnImage.j0 k a1 true a0_0 a0_1 a0_2 l0_3 t496 t497 t498 t499 bt510.1 bt510.2.1 bt510.2.2.1 bt510.2.2.2) else ((laws_eqImage.f k bt510.1 bt510.2.1 bt510.2.2.1 bt510.2.2.2 t496 t497 t498 t499).bind fun t527 => (laws_FnExactTurnImage.j0 k a1 (!t527) a0_0 a0_1 a0_2 l0_3 t496 t497 t498 t499 bt510.1 bt510.2.1 bt510.2.2.1 bt510.2.2.2)))) else (some false)))) else (some false)))) = some r := H
  have A10 := Aside0.mk A100
  clear A100
  replace H := Option.bind_eq_some_iff.mp H
  obtain ⟨⟨t510, t511, t512, t513⟩, A110, H⟩ := H
  replace H : ((laws_eqImage.f k t510 t511 t512 t513 t496 t497 t498 t499).bind fun t517 => (if t517 = true then ((laws_toImage.f k a0_0 a0_1 a0_2 l0_3).bind fun bt518 => ((laws_eqImage.f k t503 t504 t505 t506 bt518.1 bt518.2.1 bt518.2.2.1 bt518.2.2.2).bind fun t524 => (if t524 = true then ((laws_markImage.f k t503 t504 t505 t506 1).bind fun bt525 => (if bt525.1 < 0 then (laws_FnExactTurnImage.j0 k a1 true a0_0 a0_1 a0_2 l0_3 t496 t497 t498 t499 t510 t511 t512 t513) else ((laws_eqImage.f k t510 t511 t512 t513 t496 t497 t498 t499).bind fun t527 => (laws_FnExactTurnImage.j0 k a1 (!t527) a0_0 a0_1 a0_2 l0_3 t496 t497 t498 t499 t510 t511 t512 t513)))) else (some false)))) else (some false))) = some r := H
  have A11 := Aside0.mk A110
  clear A110
  replace H := Option.bind_eq_some_iff.mp H
  obtain ⟨t517, A120, H⟩ := H
  replace H : (if t517 = true then ((laws_toImage.f k a0_0 a0_1 a0_2 l0_3).bind fun bt518 => ((laws_eqImage.f k t503 t504 t505 t506 bt518.1 bt518.2.1 bt518.2.2.1 bt518.2.2.2).bind fun t524 => (if t524 = true then ((laws_markImage.f k t503 t504 t505 t506 1).bind fun bt525 => (if bt525.1 < 0 then (laws_FnExactTurnImage.j0 k a1 true a0_0 a0_1 a0_2 l0_3 t496 t497 t498 t499 t510 t511 t512 t513) else ((laws_eqImage.f k t510 t511 t512 t513 t496 t497 t498 t499).bind fun t527 => (laws_FnExactTurnImage.j0 k a1 (!t527) a0_0 a0_1 a0_2 l0_3 t496 t497 t498 t499 t510 t511 t512 t513)))) else (some false)))) else (some false)) = some r := H
  have A12 := Aside0.mk A120
  clear A120
  by_cases c13 : t517 = true
  · subst c13
    have H1 : ((laws_toImage.f k a0_0 a0_1 a0_2 l0_3).bind fun bt518 => ((laws_eqImage.f k t503 t504 t505 t506 bt518.1 bt518.2.1 bt518.2.2.1 bt518.2.2.2).bind fun t524 => (if t524 = true then ((laws_markImage.f k t503 t504 t505 t506 1).bind fun bt525 => (if bt525.1 < 0 then (laws_FnExactTurnImage.j0 k a1 true a0_0 a0_1 a0_2 l0_3 t496 t497 t498 t499 t510 t511 t512 t513) else ((laws_eqImage.f k t510 t511 t512 t513 t496 t497 t498 t499).bind fun t527 => (laws_FnExactTurnImage.j0 k a1 (!t527) a0_0 a0_1 a0_2 l0_3 t496 t497 t498 t499 t510 t511 t512 t513)))) else (some false)))) = some r := by rw [if_pos rfl] at H; exact H
    clear H
    have H := H1
    clear H1
    replace H := Option.bind_eq_some_iff.mp H
    obtain ⟨⟨t518, t519, t520, t521⟩, A140, H⟩ := H
    replace H : ((laws_eqImage.f k t503 t504 t505 t506 t518 t519 t520 t521).bind fun t524 => (if t524 = true then ((laws_markImage.f k t503 t504 t505 t506 1).bind fun bt525 => (if bt525.1 < 0 then (laws_FnExactTurnImage.j0 k a1 true a0_0 a0_1 a0_2 l0_3 t496 t497 t498 t499 t510 t511 t512 t513) else ((laws_eqImage.f k t510 t511 t512 t513 t496 t497 t498 t499).bind fun t527 => (laws_FnExactTurnImage.j0 k a1 (!t527) a0_0 a0_1 a0_2 l0_3 t496 t497 t498 t499 t510 t511 t512 t513)))) else (some false))) = some r := H
    have A14 := Aside0.mk A140
    clear A140
    replace H := Option.bind_eq_some_iff.mp H
    obtain ⟨t524, A150, H⟩ := H
    replace H : (if t524 = true then ((laws_markImage.f k t503 t504 t505 t506 1).bind fun bt525 => (if bt525.1 < 0 then (laws_FnExactTurnImage.j0 k a1 true a0_0 a0_1 a0_2 l0_3 t496 t497 t498 t499 t510 t511 t512 t513) else ((laws_eqImage.f k t510 t511 t512 t513 t496 t497 t498 t499).bind fun t527 => (laws_FnExactTurnImage.j0 k a1 (!t527) a0_0 a0_1 a0_2 l0_3 t496 t497 t498 t499 t510 t511 t512 t513)))) else (some false)) = some r := H
    have A15 := Aside0.mk A150
    clear A150
    by_cases c16 : t524 = true
    · subst c16
      have H1 : ((laws_markImage.f k t503 t504 t505 t506 1).bind fun bt525 => (if bt525.1 < 0 then (laws_FnExactTurnImage.j0 k a1 true a0_0 a0_1 a0_2 l0_3 t496 t497 t498 t499 t510 t511 t512 t513) else ((laws_eqImage.f k t510 t511 t512 t513 t496 t497 t498 t499).bind fun t527 => (laws_FnExactTurnImage.j0 k a1 (!t527) a0_0 a0_1 a0_2 l0_3 t496 t497 t498 t499 t510 t511 t512 t513)))) = some r := by rw [if_pos rfl] at H; exact H
      clear H
      have H := H1
      clear H1
      replace H := Option.bind_eq_some_iff.mp H
      obtain ⟨⟨t525, t526⟩, A170, H⟩ := H
      replace H : (if t525 < 0 then (laws_FnExactTurnImage.j0 k a1 true a0_0 a0_1 a0_2 l0_3 t496 t497 t498 t499 t510 t511 t512 t513) else ((laws_eqImage.f k t510 t511 t512 t513 t496 t497 t498 t499).bind fun t527 => (laws_FnExactTurnImage.j0 k a1 (!t527) a0_0 a0_1 a0_2 l0_3 t496 t497 t498 t499 t510 t511 t512 t513))) = some r := H
      have A17 := Aside0.mk A170
      clear A170
      have HC18 := Aside0.mk H
      clear H
      go_enter Try.func6, Try.ntmps6
      try go_wp2_with (first | ((with_reducible refine gate_dst (N := 2) rfl ?_); refine box_event ?hg (N := 2) ?hd (cs := #[.int .i64 a0_0, .int .i64 a0_1, .int .i64 a0_2, .slice A0_3 l0_3.length c0_3]) (t := 24) ?hr ?_; (case hd => rfl); (case hg => rfl); (case hr => first | (go_simp; done) | (go_simp; rfl)); intro gb488 hg w19 hbox hb; have n0_ := Aside0.mk (below_step (B.bl HB) hb); have n1_ := Aside0.mk (hbox); have n2_ := Aside0.mk (B.nle hg (below_size (B.bl HB))); have n3_ := Aside0.mk (B.nle hg (below_size (B.bl HB))); clear HB; have HB := n0_; have BK488 := n1_; have GW488 := n2_; have GE488 := n3_; clear n0_ n1_ n2_ n3_; clear hb hbox hg; have hcz20_0 : w19.cell? ⟨gb488, 0, none⟩ = some (.int .i64 a0_0) := B.bc BK488 0; have hcz20_1 : w19.cell? ⟨gb488, 1, none⟩ = some (.int .i64 a0_1) := B.bc BK488 1; have hcz20_2 : w19.cell? ⟨gb488, 2, none⟩ = some (.int .i64 a0_2) := B.bc BK488 2; have hcz20_3 : w19.cell? ⟨gb488, 3, none⟩ = some (.slice A0_3 l0_3.length c0_3) := B.bc BK488 3; have hfz20_0 := blk_frozen BK488.out 0; have hfz20_1 := blk_frozen BK488.out 1; have hfz20_2 := blk_frozen BK488.out 2; have hfz20_3 := blk_frozen BK488.out 3) | ((with_reducible refine gate_callee (f := 12) rfl ?_); refine goesL_ (some 15) rfl rfl Try.func12 (by kernel_rfl) rfl #[.agg #[.int .i64 a0_0, .int .i64 a0_1, .int .i64 a0_2, .slice A0_3 l0_3.length c0_3], .int .i64 1048576] rfl B.am ?_; (with_reducible refine (laws_szImage.calls a0_0 a0_1 a0_2 _ _ l0_3 1048576 t489 _ ?side1 ?side2 A3.out).mono ?_); (case side1 => exact B.kc (Kd.C_below HR0_3.out HB.out)); (case side2 => exact HC0_3.out); rintro e w21 ⟨rfl, hb⟩; refine ⟨_, rfl, ?_⟩; have n0_ := Aside0.mk (blk_below (B.kb BK488) hb); have n1_ := Aside0.mk (below_step (B.bl HB) hb); clear BK488 HB; have BK488 := n0_; have HB := n1_; clear n0_ n1_; (try clear hb); (try clear hb2); (try clear hk); (try clear hi); have hcz22_0 : w21.cell? ⟨gb488, 0, none⟩ = some (.int .i64 a0_0) := B.bc BK488 0; have hcz22_1 : w21.cell? ⟨gb488, 1, none⟩ = some (.int .i64 a0_1) := B.bc BK488 1; have hcz22_2 : w21.cell? ⟨gb488, 2, none⟩ = some (.int .i64 a0_2) := B.bc BK488 2; have hcz22_3 : w21.cell? ⟨gb488, 3, none⟩ = some (.slice A0_3 l0_3.length c0_3) := B.bc BK488 3; have hfz22_0 := blk_frozen BK488.out 0; have hfz22_1 := blk_frozen BK488.out 1; have hfz22_2 := blk_frozen BK488.out 2; have hfz22_3 := blk_frozen BK488.out 3) | ((with_reducible refine gate_callee (f := 14) rfl ?_); refine goesL_ (some 19) rfl rfl Try.func14 (by kernel_rfl) rfl #[.agg #[.int .i64 a0_0, .int .i64 a0_1, .int .i64 a0_2, .slice A0_3 l0_3.length c0_3]] rfl B.am ?_; (with_reducible refine (laws_toImage.calls k a0_0 a0_1 a0_2 _ _ l0_3 t490 t491 t492 t493 _ ?side1 ?side2 A8.out).mono ?_); (case side1 => exact B.kc (Kd.C_below HR0_3.out HB.out)); (case side2 => exact HC0_3.out); rintro e w23 ⟨v494, rfl, ho0, hb⟩; refine ⟨_, rfl, ?_⟩; have n0_ := Aside0.mk (Kd.R_lower ho0 (below_size (B.bl HB))); have n1_ := Aside0.mk (blk_below (B.kb BK488) hb); have n2_ := Aside0.mk (below_step (B.bl HB) hb); clear BK488 HB; have HO495 := n0_; have BK488 := n1_; have HB := n2_; clear n0_ n1_ n2_; (try clear hb); (try clear hb2); (try clear hk); (try clear hi); (try clear ho0); obtain ⟨Ao24, co24, eo24⟩ := Kd.R_slice HO495.out; subst eo24) | ((with_reducible refine gate_callee (f := 24) rfl ?_); refine goesL_ (some 21) rfl rfl Try.func24 (by kernel_rfl) rfl #[.agg #[.int .i64 t490, .int .i64 t491, .int .i64 t492, .slice Ao24 t493.length co24], .int .i64 a1] rfl B.am ?_; (with_reducible refine (spec_TurnImage.calls k t490 t491 t492 _ _ t493 a1 t496 t497 t498 t499 _ ?side1 ?side2 A9.out).mono ?_); (case side1 => exact B.kc ((Kd.R_reads' HO495.out).2.2)); (case side2 => exact (Kd.R_reads' HO495.out).2.1); rintro e w25 ⟨v500, rfl, ho0, hb⟩; refine ⟨_, rfl, ?_⟩; have n0_ := Aside0.mk (Kd.R_elder' (B.kr HO495) (Kd.R_base ho0) hb); have n1_ := Aside0.mk (Kd.R_lower (Kd.R_new' ho0 (Kd.R_lt (B.kr HO495))) (below_size (B.bl HB))); have n2_ := Aside0.mk (blk_below (B.kb BK488) hb); have n3_ := Aside0.mk (below_step (B.bl HB) hb); clear HO495 BK488 HB; have HO495 := n0_; have HO501 := n1_; have BK488 := n2_; have HB := n3_; clear n0_ n1_ n2_ n3_; (try clear hb); (try clear hb2); (try clear hk); (try clear hi); (try clear ho0)) | ((with_reducible refine gate_dst (N := 6) rfl ?_); refine box_event ?hg (N := 6) ?hd (cs := #[.int .i64 0, .int .i64 0, .int .i64 0, .slice none 0 0]) (t := 26) ?hr ?_; (case hd => rfl); (case hg => rfl); (case hr => first | (go_simp; done) | (go_simp; rfl)); intro gb502 hg w26 hbox hb; have n0_ := Aside0.mk (Kd.R_below (B.kr HO495) hb); have n1_ := Aside0.mk (Kd.R_below (B.kr HO501) hb); have n2_ := Aside0.mk (blk_below (B.kb BK488) hb); have n3_ := Aside0.mk (below_step (B.bl HB) hb); have n4_ := Aside0.mk (hbox); have n5_ := Aside0.mk (B.nle hg (below_size (B.bl HB))); have n6_ := Aside0.mk (B.nle hg (below_size (B.bl HB))); have n7_ := Aside0.mk (B.nlt hg (blk_lt (B.kb BK488))); have n8_ := Aside0.mk (B.ngt hg (blk_lt (B.kb BK488))); clear HO495 HO501 BK488 HB; have HO495 := n0_; have HO501 := n1_; have BK488 := n2_; have HB := n3_; have BK502 := n4_; have GW502 := n5_; have GE502 := n6_; have NB488_502 := n7_; have NB502_488 := n8_; clear n0_ n1_ n2_ n3_ n4_ n5_ n6_ n7_ n8_; clear hb hbox hg; have hnb27 := NB502_488.out; have hnc27 := NB488_502.out; have hcz28_0 : w26.cell? ⟨gb502, 0, none⟩ = some (.int .i64 0) := B.bc BK502 0; have hcz28_1 : w26.cell? ⟨gb502, 1, none⟩ = some (.int .i64 0) := B.bc BK502 1; have hcz28_2 : w26.cell? ⟨gb502, 2, none⟩ = some (.int .i64 0) := B.bc BK502 2; have hcz28_3 : w26.cell? ⟨gb502, 3, none⟩ = some (.slice none 0 0) := B.bc BK502 3; have hfz28_0 := blk_frozen BK502.out 0; have hfz28_1 := blk_frozen BK502.out 1; have hfz28_2 := blk_frozen BK502.out 2; have hfz28_3 := blk_frozen BK502.out 3; obtain ⟨Ao29, co29, eo29⟩ := Kd.R_slice HO501.out; subst eo29; have hcz30_0 : w26.cell? ⟨gb488, 0, none⟩ = some (.int .i64 a0_0) := B.bc BK488 0; have hcz30_1 : w26.cell? ⟨gb488, 1, none⟩ = some (.int .i64 a0_1) := B.bc BK488 1; have hcz30_2 : w26.cell? ⟨gb488, 2, none⟩ = some (.int .i64 a0_2) := B.bc BK488 2; have hcz30_3 : w26.cell? ⟨gb488, 3, none⟩ = some (.slice A0_3 l0_3.length c0_3) := B.bc BK488 3; have hfz30_0 := blk_frozen BK488.out 0; have hfz30_1 := blk_frozen BK488.out 1; have hfz30_2 := blk_frozen BK488.out 2; have hfz30_3 := blk_frozen BK488.out 3) | ((with_reducible refine gate_callee (f := 14) rfl ?_); refine goesL_ (some 23) rfl rfl Try.func14 (by kernel_rfl) rfl #[.agg #[.int .i64 a0_0, .int .i64 a0_1, .int .i64 a0_2, .slice A0_3 l0_3.length c0_3]] rfl B.am ?_; (with_reducible refine (laws_toImage.calls k a0_0 a0_1 a0_2 _ _ l0_3 t503 t504 t505 t506 _ ?side1 ?side2 A10.out).mono ?_); (case side1 => exact Kd.C_below HR0_3.out (B.bl HB)); (case side2 => exact HC0_3.out); rintro e w31 ⟨v507, rfl, ho0, hb⟩; refine ⟨_, rfl, ?_⟩; have n0_ := Aside0.mk (Kd.R_elder' (B.kr0 (B.rs4 HO495 BK502)) (Kd.R_base ho0) hb); have n1_ := Aside0.mk (Kd.R_elder' (B.kr0 (B.rs4 HO501 BK502)) (Kd.R_base ho0) hb); have n2_ := Aside0.mk (Kd.R_lower (Kd.R_new' (Kd.R_new' ho0 (Kd.R_lt (B.kr0 (B.rs4 HO495 BK502)))) (Kd.R_lt (B.kr0 (B.rs4 HO501 BK502)))) (below_size (B.bl HB))); have n3_ := Aside0.mk (blk_below (B.kb0 (B.bf4 BK488 NB488_502)) hb); have n4_ := Aside0.mk (blk_below (g := gb502) (o := .cells #[.int .i64 t496, .int .i64 t497, .int .i64 t498, .slice Ao29 t499.length co29] 26 (0, 0)) (B.kb0 (B.bp4 BK502)) hb); have n5_ := Aside0.mk (below_step (B.bl HB) hb); clear HO495 HO501 BK488 BK502 HB; have HO495 := n0_; have HO501 := n1_; have HO508 := n2_; have BK488 := n3_; have BK502 := n4_; have HB := n5_; clear n0_ n1_ n2_ n3_ n4_ n5_; (try clear hb); (try clear hb2); (try clear hk); (try clear hi); (try clear ho0)) | ((with_reducible refine gate_dst (N := 7) rfl ?_); refine box_event ?hg (N := 7) ?hd (cs := #[.int .i64 0, .int .i64 0, .int .i64 0, .slice none 0 0]) (t := 26) ?hr ?_; (case hd => rfl); (case hg => rfl); (case hr => first | (go_simp; done) | (go_simp; rfl)); intro gb509 hg w32 hbox hb; have n0_ := Aside0.mk (Kd.R_below (B.kr HO495) hb); have n1_ := Aside0.mk (Kd.R_below (B.kr HO501) hb); have n2_ := Aside0.mk (Kd.R_below (B.kr HO508) hb); have n3_ := Aside0.mk (blk_below (B.kb BK488) hb); have n4_ := Aside0.mk (blk_below (B.kb BK502) hb); have n5_ := Aside0.mk (below_step (B.bl HB) hb); have n6_ := Aside0.mk (hbox); have n7_ := Aside0.mk (B.nle hg (below_size (B.bl HB))); have n8_ := Aside0.mk (B.nle hg (below_size (B.bl HB))); have n9_ := Aside0.mk (B.nlt hg (blk_lt (B.kb BK488))); have n10_ := Aside0.mk (B.ngt hg (blk_lt (B.kb BK488))); have n11_ := Aside0.mk (B.nlt hg (blk_lt (B.kb BK502))); have n12_ := Aside0.mk (B.ngt hg (blk_lt (B.kb BK502))); clear HO495 HO501 HO508 BK488 BK502 HB; have HO495 := n0_; have HO501 := n1_; have HO508 := n2_; have BK488 := n3_; have BK502 := n4_; have HB := n5_; have BK509 := n6_; have GW509 := n7_; have GE509 := n8_; have NB488_509 := n9_; have NB509_488 := n10_; have NB502_509 := n11_; have NB509_502 := n12_; clear n0_ n1_ n2_ n3_ n4_ n5_ n6_ n7_ n8_ n9_ n10_ n11_ n12_; clear hb hbox hg; have hnb33 := NB509_488.out; have hnc33 := NB488_509.out; have hnb34 := NB509_502.out; have hnc34 := NB502_509.out; have hcz35_0 : w32.cell? ⟨gb509, 0, none⟩ = some (.int .i64 0) := B.bc BK509 0; have hcz35_1 : w32.cell? ⟨gb509, 1, none⟩ = some (.int .i64 0) := B.bc BK509 1; have hcz35_2 : w32.cell? ⟨gb509, 2, none⟩ = some (.int .i64 0) := B.bc BK509 2; have hcz35_3 : w32.cell? ⟨gb509, 3, none⟩ = some (.slice none 0 0) := B.bc BK509 3; have hfz35_0 := blk_frozen BK509.out 0; have hfz35_1 := blk_frozen BK509.out 1; have hfz35_2 := blk_frozen BK509.out 2; have hfz35_3 := blk_frozen BK509.out 3; obtain ⟨Ao36, co36, eo36⟩ := Kd.R_slice HO508.out; subst eo36) | ((with_reducible refine gate_callee (f := 22) rfl ?_); refine goesL_ (some 26) rfl rfl Try.func22 (by kernel_rfl) rfl #[.agg #[.int .i64 t503, .int .i64 t504, .int .i64 t505, .slice Ao36 t506.length co36], .int .i64 a1] rfl B.am ?_; (with_reducible refine (impl_TurnImage.calls t503 t504 t505 _ _ t506 a1 t510 t511 t512 t513 _ ?side1 ?side2 A11.out).mono ?_); (case side1 => refine (Kd.R_reads' (e := 3) (base := w.heap.size) (ok := fun k_ => ((True ∧ some k_ ≠ (.slice Ao24 t493.length co24 : Value).ownBlock) ∧ some k_ ≠ (.slice Ao29 t499.length co29 : Value).ownBlock)) (n := t506.length) (c := co36) ?_).2.2; exact (B.kr0 (B.rs4 HO508 BK509))); (case side2 => exact (Kd.R_reads' HO508.out).2.1); rintro e w37 ⟨v514, rfl, ho0, hb⟩; refine ⟨_, rfl, ?_⟩; have n0_ := Aside0.mk (Kd.R_elder' (B.kr0 (B.rs4 HO495 BK509)) (Kd.R_base ho0) hb); have n1_ := Aside0.mk (Kd.R_elder' (B.kr0 (B.rs4 HO501 BK509)) (Kd.R_base ho0) hb); have n2_ := Aside0.mk (Kd.R_elder' (B.kr0 (B.rs4 HO508 BK509)) (Kd.R_base ho0) hb); have n3_ := Aside0.mk (Kd.R_lower (Kd.R_new' (Kd.R_new' (Kd.R_new' ho0 (Kd.R_lt (B.kr0 (B.rs4 HO495 BK509)))) (Kd.R_lt (B.kr0 (B.rs4 HO501 BK509)))) (Kd.R_lt (B.kr0 (B.rs4 HO508 BK509)))) (below_size (B.bl HB))); have n4_ := Aside0.mk (blk_below (B.kb0 (B.bf4 BK488 NB488_509)) hb); have n5_ := Aside0.mk (blk_below (B.kb0 (B.bf4 BK502 NB502_509)) hb); have n6_ := Aside0.mk (blk_below (g := gb509) (o := .cells #[.int .i64 t503, .int .i64 t504, .int .i64 t505, .slice Ao36 t506.length co36] 26 (0, 0)) (B.kb0 (B.bp4 BK509)) hb); have n7_ := Aside0.mk (below_step (B.bl HB) hb); clear HO495 HO501 HO508 BK488 BK502 BK509 HB; have HO495 := n0_; have HO501 := n1_; have HO508 := n2_; have HO515 := n3_; have BK488 := n4_; have BK502 := n5_; have BK509 := n6_; have HB := n7_; clear n0_ n1_ n2_ n3_ n4_ n5_ n6_ n7_; (try clear hb); (try clear hb2); (try clear hk); (try clear hi); (try clear ho0)) | ((with_reducible refine gate_dst (N := 8) rfl ?_); refine box_event ?hg (N := 8) ?hd (cs := #[.int .i64 0, .int .i64 0, .int .i64 0, .slice none 0 0]) (t := 26) ?hr ?_; (case hd => rfl); (case hg => rfl); (case hr => first | (go_simp; done) | (go_simp; rfl)); intro gb516 hg w38 hbox hb; have n0_ := Aside0.mk (Kd.R_below (B.kr HO495) hb); have n1_ := Aside0.mk (Kd.R_below (B.kr HO501) hb); have n2_ := Aside0.mk (Kd.R_below (B.kr HO508) hb); have n3_ := Aside0.mk (Kd.R_below (B.kr HO515) hb); have n4_ := Aside0.mk (blk_below (B.kb BK488) hb); have n5_ := Aside0.mk (blk_below (B.kb BK502) hb); have n6_ := Aside0.mk (blk_below (B.kb BK509) hb); have n7_ := Aside0.mk (below_step (B.bl HB) hb); have n8_ := Aside0.mk (hbox); have n9_ := Aside0.mk (B.nle hg (below_size (B.bl HB))); have n10_ := Aside0.mk (B.nle hg (below_size (B.bl HB))); have n11_ := Aside0.mk (B.nlt hg (blk_lt (B.kb BK488))); have n12_ := Aside0.mk (B.ngt hg (blk_lt (B.kb BK488))); have n13_ := Aside0.mk (B.nlt hg (blk_lt (B.kb BK502))); have n14_ := Aside0.mk (B.ngt hg (blk_lt (B.kb BK502))); have n15_ := Aside0.mk (B.nlt hg (blk_lt (B.kb BK509))); have n16_ := Aside0.mk (B.ngt hg (blk_lt (B.kb BK509))); clear HO495 HO501 HO508 HO515 BK488 BK502 BK509 HB; have HO495 := n0_; have HO501 := n1_; have HO508 := n2_; have HO515 := n3_; have BK488 := n4_; have BK502 := n5_; have BK509 := n6_; have HB := n7_; have BK516 := n8_; have GW516 := n9_; have GE516 := n10_; have NB488_516 := n11_; have NB516_488 := n12_; have NB502_516 := n13_; have NB516_502 := n14_; have NB509_516 := n15_; have NB516_509 := n16_; clear n0_ n1_ n2_ n3_ n4_ n5_ n6_ n7_ n8_ n9_ n10_ n11_ n12_ n13_ n14_ n15_ n16_; clear hb hbox hg; have hnb39 := NB516_488.out; have hnc39 := NB488_516.out; have hnb40 := NB516_502.out; have hnc40 := NB502_516.out; have hnb41 := NB516_509.out; have hnc41 := NB509_516.out; have hcz42_0 : w38.cell? ⟨gb516, 0, none⟩ = some (.int .i64 0) := B.bc BK516 0; have hcz42_1 : w38.cell? ⟨gb516, 1, none⟩ = some (.int .i64 0) := B.bc BK516 1; have hcz42_2 : w38.cell? ⟨gb516, 2, none⟩ = some (.int .i64 0) := B.bc BK516 2; have hcz42_3 : w38.cell? ⟨gb516, 3, none⟩ = some (.slice none 0 0) := B.bc BK516 3; have hfz42_0 := blk_frozen BK516.out 0; have hfz42_1 := blk_frozen BK516.out 1; have hfz42_2 := blk_frozen BK516.out 2; have hfz42_3 := blk_frozen BK516.out 3; obtain ⟨Ao43, co43, eo43⟩ := Kd.R_slice HO515.out; subst eo43; have hcz44_0 : w38.cell? ⟨gb502, 0, none⟩ = some (.int .i64 t496) := B.bc BK502 0; have hcz44_1 : w38.cell? ⟨gb502, 1, none⟩ = some (.int .i64 t497) := B.bc BK502 1; have hcz44_2 : w38.cell? ⟨gb502, 2, none⟩ = some (.int .i64 t498) := B.bc BK502 2; have hcz44_3 : w38.cell? ⟨gb502, 3, none⟩ = some (.slice Ao29 t499.length co29) := B.bc BK502 3; have hfz44_0 := blk_frozen BK502.out 0; have hfz44_1 := blk_frozen BK502.out 1; have hfz44_2 := blk_frozen BK502.out 2; have hfz44_3 := blk_frozen BK502.out 3) | ((with_reducible refine gate_callee (f := 16) rfl ?_); refine goesL_ (some 29) rfl rfl Try.func16 (by kernel_rfl) rfl #[.agg #[.int .i64 t510, .int .i64 t511, .int .i64 t512, .slice Ao43 t513.length co43], .agg #[.int .i64 t496, .int .i64 t497, .int .i64 t498, .slice Ao29 t499.length co29]] rfl B.am ?_; (with_reducible refine (laws_eqImage.calls k t510 t511 t512 _ _ t513 t496 t497 t498 _ _ t499 true _ ?side1 ?side2 ?side3 ?side4 A12.out).mono ?_); (case side1 => refine (Kd.R_reads' (e := 3) (base := w.heap.size) (ok := fun k_ => (((True ∧ some k_ ≠ (.slice Ao24 t493.length co24 : Value).ownBlock) ∧ some k_ ≠ (.slice Ao29 t499.length co29 : Value).ownBlock) ∧ some k_ ≠ (.slice Ao36 t506.length co36 : Value).ownBlock)) (n := t513.length) (c := co43) ?_).2.2; exact (B.kr0 (B.rs4 HO515 BK516))); (case side2 => exact (Kd.R_reads' HO515.out).2.1); (case side3 => refine (Kd.R_reads' (e := 3) (base := w.heap.size) (ok := fun k_ => (((True ∧ some k_ ≠ (.slice Ao24 t493.length co24 : Value).ownBlock) ∧ some k_ ≠ (.slice Ao36 t506.length co36 : Value).ownBlock) ∧ some k_ ≠ (.slice Ao43 t513.length co43 : Value).ownBlock)) (n := t499.length) (c := co29) ?_).2.2; exact (B.kr0 (B.rs4 HO501 BK516))); (case side4 => exact (Kd.R_reads' HO501.out).2.1); rintro e w45 ⟨rfl, hb⟩; refine ⟨_, rfl, ?_⟩; have n0_ := Aside0.mk (Kd.R_below (B.kr0 (B.rs4 HO495 BK516)) hb); have n1_ := Aside0.mk (Kd.R_below (B.kr0 (B.rs4 HO501 BK516)) hb); have n2_ := Aside0.mk (Kd.R_below (B.kr0 (B.rs4 HO508 BK516)) hb); have n3_ := Aside0.mk (Kd.R_below (B.kr0 (B.rs4 HO515 BK516)) hb); have n4_ := Aside0.mk (blk_below (B.kb0 (B.bf4 BK488 NB488_516)) hb); have n5_ := Aside0.mk (blk_below (B.kb0 (B.bf4 BK502 NB502_516)) hb); have n6_ := Aside0.mk (blk_below (B.kb0 (B.bf4 BK509 NB509_516)) hb); have n7_ := Aside0.mk (blk_below (g := gb516) (o := .cells #[.int .i64 t510, .int .i64 t511, .int .i64 t512, .slice Ao43 t513.length co43] 26 (0, 0)) (B.kb0 (B.bp4 BK516)) hb); have n8_ := Aside0.mk (below_step (B.bl HB) hb); clear HO495 HO501 HO508 HO515 BK488 BK502 BK509 BK516 HB; have HO495 := n0_; have HO501 := n1_; have HO508 := n2_; have HO515 := n3_; have BK488 := n4_; have BK502 := n5_; have BK509 := n6_; have BK516 := n7_; have HB := n8_; clear n0_ n1_ n2_ n3_ n4_ n5_ n6_ n7_ n8_; (try clear hb); (try clear hb2); (try clear hk); (try clear hi)))
      have n0_ := Aside0.mk (Kd.R_drew HO495.out)
      have n1_ := Aside0.mk (Kd.R_drew HO501.out)
      have n2_ := Aside0.mk (Kd.R_drew HO508.out)
      have n3_ := Aside0.mk (Kd.R_drew HO515.out)
      have n4_ := Aside0.mk (blk_drew BK488.out)
      have n5_ := Aside0.mk (blk_drew BK502.out)
      have n6_ := Aside0.mk (blk_drew BK509.out)
      have n7_ := Aside0.mk (blk_drew BK516.out)
      have n8_ := Aside0.mk (below_drew1 HB.out)
      clear HO495 HO501 HO508 HO515 BK488 BK502 BK509 BK516 HB
      have HO495 := n0_
      have HO501 := n1_
      have HO508 := n2_
      have HO515 := n3_
      have BK488 := n4_
      have BK502 := n5_
      have BK509 := n6_
      have BK516 := n7_
      have HB := n8_
      clear n0_ n1_ n2_ n3_ n4_ n5_ n6_ n7_ n8_
      refine start_ (n := 5) (S := fun w' => w'.cell? ⟨gb509, 0, none⟩ = some (.int .i64 t503) ∧ w'.cell? ⟨gb509, 1, none⟩ = some (.int .i64 t504) ∧ w'.cell? ⟨gb509, 2, none⟩ = some (.int .i64 t505) ∧ w'.cell? ⟨gb509, 3, none⟩ = some (.slice Ao36 t506.length co36) ∧ w'.cell? ⟨gb488, 0, none⟩ = some (.int .i64 a0_0) ∧ w'.cell? ⟨gb488, 1, none⟩ = some (.int .i64 a0_1) ∧ w'.cell? ⟨gb488, 2, none⟩ = some (.int .i64 a0_2) ∧ w'.cell? ⟨gb488, 3, none⟩ = some (.slice A0_3 l0_3.length c0_3)) (ds := []) #[false, false, false, false, false] (by kernel_rfl) rfl rfl ⟨B.bc BK509 0, B.bc BK509 1, B.bc BK509 2, B.bc BK509 3, B.bc BK488 0, B.bc BK488 1, B.bc BK488 2, B.bc BK488 3⟩ (fun hHeld => ?_)
      generalize w45.drew = w46 at HO495 HO501 HO508 HO515 BK488 BK502 BK509 BK516 HB hHeld ⊢
      refine take_ (i := 0) (N := some 31) (v := ?_) (a' := ?_) #[true, false, false, false, false] rfl rfl (by kernel_rfl) (fun _ _ _ h => h) (Or.inl ⟨by rfl, ?_⟩) hHeld ?_ ?_
      rotate_left
      · rintro w' ⟨s0, s1, s2, s3, s4, s5, s6, s7⟩
        go_simp
        with_reducible rfl
      rotate_left
      · simp only [Act.put, List.setIfInBounds_toArray, List.set_cons_zero, List.set_cons_succ, i64_w, i32_w]
        rfl
      refine take_ (i := 1) (N := some 32) (v := ?_) (a' := ?_) #[true, true, false, false, false] rfl rfl (by kernel_rfl) (fun _ _ _ h => h) (Or.inl ⟨by rfl, ?_⟩) hHeld ?_ ?_
      rotate_left
      · rintro w' ⟨s0, s1, s2, s3, s4, s5, s6, s7⟩
        go_simp
        with_reducible rfl
      rotate_left
      · simp only [Act.put, List.setIfInBounds_toArray, List.set_cons_zero, List.set_cons_succ, i64_w, i32_w]
        rfl
      refine one_ (i := 2) (N := some 33) #[true, true, true, false, false] rfl rfl (by kernel_rfl) (by decide) (fun K hK => ?_)
      refine goes_ Try.func14 (by kernel_rfl) rfl #[.agg #[.int .i64 a0_0, .int .i64 a0_1, .int .i64 a0_2, .slice A0_3 l0_3.length c0_3]] (by rfl) rfl rfl B.am ?_
      with_reducible refine (laws_toImage.calls k a0_0 a0_1 a0_2 _ _ l0_3 t518 t519 t520 t521 _ ?side1 ?side2 A14.out).mono ?_
      (case side1 => exact B.kc (Kd.C_below HR0_3.out HB.out))
      (case side2 => exact HC0_3.out)
      rintro e w47 ⟨v522, rfl, ho0, hb⟩
      refine ⟨_, rfl, ?_⟩
      have n0_ := Aside0.mk (Kd.R_elder' (B.kr HO495) (Kd.R_base ho0) hb)
      have n1_ := Aside0.mk (Kd.R_elder' (B.kr HO501) (Kd.R_base ho0) hb)
      have n2_ := Aside0.mk (Kd.R_elder' (B.kr HO508) (Kd.R_base ho0) hb)
      have n3_ := Aside0.mk (Kd.R_elder' (B.kr HO515) (Kd.R_base ho0) hb)
      have n4_ := Aside0.mk (Kd.R_lower (Kd.R_new' (Kd.R_new' (Kd.R_new' (Kd.R_new' ho0 (Kd.R_lt (B.kr HO495))) (Kd.R_lt (B.kr HO501))) (Kd.R_lt (B.kr HO508))) (Kd.R_lt (B.kr HO515))) (below_size (B.bl HB)))
      have n5_ := Aside0.mk (blk_below (B.kb BK488) hb)
      have n6_ := Aside0.mk (blk_below (B.kb BK502) hb)
      have n7_ := Aside0.mk (blk_below (B.kb BK509) hb)
      have n8_ := Aside0.mk (blk_below (B.kb BK516) hb)
      have n9_ := Aside0.mk (below_step (B.bl HB) hb)
      clear HO495 HO501 HO508 HO515 BK488 BK502 BK509 BK516 HB
      have HO495 := n0_
      have HO501 := n1_
      have HO508 := n2_
      have HO515 := n3_
      have HO523 := n4_
      have BK488 := n5_
      have BK502 := n6_
      have BK509 := n7_
      have BK516 := n8_
      have HB := n9_
      clear n0_ n1_ n2_ n3_ n4_ n5_ n6_ n7_ n8_ n9_
      (try clear hb)
      (try clear hb2)
      (try clear hk)
      (try clear hi)
      (try clear ho0)
      obtain ⟨Ao48, co48, eo48⟩ := Kd.R_slice HO523.out
      (first | subst eo48 | (injection eo48 with f1_ f2_ f3_; have f4_ := f1_.symm; have f5_ := f3_.symm; clear f1_ f2_ f3_; subst f4_; subst f5_))
      refine hK.out _ _ ⟨B.bc BK509 0, B.bc BK509 1, B.bc BK509 2, B.bc BK509 3, B.bc BK488 0, B.bc BK488 1, B.bc BK488 2, B.bc BK488 3⟩ (fun hHeld => ?_)
      clear hK K
      refine norm_ (a' := ?_) ?_ ?_
      rotate_left
      · show Act.put _ (some 33) _ = _
        simp only [Act.put, List.setIfInBounds_toArray, List.set_cons_zero, List.set_cons_succ, i64_w, i32_w]
        rfl
      refine one_ (i := 3) (N := some 34) #[true, true, true, true, false] rfl rfl (by kernel_rfl) (by decide) (fun K hK => ?_)
      refine goes_ Try.func16 (by kernel_rfl) rfl #[.agg #[.int .i64 t503, .int .i64 t504, .int .i64 t505, .slice Ao36 t506.length co36], .agg #[.int .i64 t518, .int .i64 t519, .int .i64 t520, .slice Ao48 t521.length co48]] (by rfl) rfl rfl B.am ?_
      with_reducible refine (laws_eqImage.calls k t503 t504 t505 _ _ t506 t518 t519 t520 _ _ t521 true _ ?side1 ?side2 ?side3 ?side4 A15.out).mono ?_
      (case side1 => exact B.kc ((Kd.R_reads' HO508.out).2.2))
      (case side2 => exact (Kd.R_reads' HO508.out).2.1)
      (case side3 => exact B.kc ((Kd.R_reads' HO523.out).2.2))
      (case side4 => exact (Kd.R_reads' HO523.out).2.1)
      rintro e w49 ⟨rfl, hb⟩
      refine ⟨_, rfl, ?_⟩
      have n0_ := Aside0.mk (Kd.R_below (B.kr HO495) hb)
      have n1_ := Aside0.mk (Kd.R_below (B.kr HO501) hb)
      have n2_ := Aside0.mk (Kd.R_below (B.kr HO508) hb)
      have n3_ := Aside0.mk (Kd.R_below (B.kr HO515) hb)
      have n4_ := Aside0.mk (Kd.R_below (B.kr HO523) hb)
      have n5_ := Aside0.mk (blk_below (B.kb BK488) hb)
      have n6_ := Aside0.mk (blk_below (B.kb BK502) hb)
      have n7_ := Aside0.mk (blk_below (B.kb BK509) hb)
      have n8_ := Aside0.mk (blk_below (B.kb BK516) hb)
      have n9_ := Aside0.mk (below_step (B.bl HB) hb)
      clear HO495 HO501 HO508 HO515 HO523 BK488 BK502 BK509 BK516 HB
      have HO495 := n0_
      have HO501 := n1_
      have HO508 := n2_
      have HO515 := n3_
      have HO523 := n4_
      have BK488 := n5_
      have BK502 := n6_
      have BK509 := n7_
      have BK516 := n8_
      have HB := n9_
      clear n0_ n1_ n2_ n3_ n4_ n5_ n6_ n7_ n8_ n9_
      (try clear hb)
      (try clear hb2)
      (try clear hk)
      (try clear hi)
      refine hK.out _ _ ⟨B.bc BK509 0, B.bc BK509 1, B.bc BK509 2, B.bc BK509 3, B.bc BK488 0, B.bc BK488 1, B.bc BK488 2, B.bc BK488 3⟩ (fun hHeld => ?_)
      clear hK K
      refine norm_ (a' := ?_) ?_ ?_
      rotate_left
      · show Act.put _ (some 34) _ = _
        simp only [Act.put, List.setIfInBounds_toArray, List.set_cons_zero, List.set_cons_succ, i64_w, i32_w]
        rfl
      refine pure_ (i := 4) (N := some 35) (v := ?_) (a' := ?_) #[true, true, true, true, true] rfl rfl (by kernel_rfl) (fun _ _ _ h => h) (Or.inl ⟨by rfl, ?_⟩) ?_ ?_
      rotate_left
      · intro w'
        go_simp
        with_reducible rfl
      rotate_left
      · simp only [Act.put, List.setIfInBounds_toArray, List.set_cons_zero, List.set_cons_succ, i64_w, i32_w]
        rfl
      refine done_ (by kernel_rfl) ?_
      have hcz50_0 : w49.cell? ⟨gb509, 0, none⟩ = some (.int .i64 t503) := B.bc BK509 0
      have hcz50_1 : w49.cell? ⟨gb509, 1, none⟩ = some (.int .i64 t504) := B.bc BK509 1
      have hcz50_2 : w49.cell? ⟨gb509, 2, none⟩ = some (.int .i64 t505) := B.bc BK509 2
      have hcz50_3 : w49.cell? ⟨gb509, 3, none⟩ = some (.slice Ao36 t506.length co36) := B.bc BK509 3
      have hfz50_0 := blk_frozen BK509.out 0
      have hfz50_1 := blk_frozen BK509.out 1
      have hfz50_2 := blk_frozen BK509.out 2
      have hfz50_3 := blk_frozen BK509.out 3
      go_upto_region 14 with (first | ((with_reducible refine gate_callee (f := 17) rfl ?_); refine goesL_ (some 38) rfl rfl Try.func17 (by kernel_rfl) rfl #[.agg #[.int .i64 t503, .int .i64 t504, .int .i64 t505, .slice Ao36 t506.length co36], .int .i64 1] rfl B.am ?_; (with_reducible refine (laws_markImage.calls k t503 t504 t505 (fun k_ => some k_ = (.slice Ao36 t506.length co36 : Value).ownBlock) (.slice Ao36 t506.length co36) t506 1 t525 t526 w _ ?side1 ?side2 A17.out).mono ?_); (case side1 => exact B.bl HB); (case side2 => exact Kd.R_tight rfl HO508.out); rintro e w51 ⟨rfl, hy0, hb, hkp⟩; refine ⟨_, rfl, ?_⟩; have n0_ := Aside0.mk (blk_kept (B.kb BK488) hkp (fun hs_ => (fun e_ => (Kd.R_ne HO508.out BK488.out (by decide)) e_) hs_)); have n1_ := Aside0.mk (Kd.R_mono (ok' := fun k_ => some k_ ≠ (.slice Ao29 t499.length co29 : Value).ownBlock ∧ some k_ ≠ (.slice Ao36 t506.length co36 : Value).ownBlock ∧ some k_ ≠ (.slice Ao43 t513.length co43 : Value).ownBlock ∧ some k_ ≠ (.slice Ao48 t521.length co48 : Value).ownBlock) (Kd.R_keptB (HO495.out) hkp (fun k_ hk_ hs_ => (hk_.1.1.2) hs_)) (fun k_ hk_ => ⟨hk_.1.1.1.1.2, hk_.1.1.1.2, hk_.1.1.2, hk_.1.2⟩)); have n2_ := Aside0.mk (Kd.R_mono (ok' := fun k_ => some k_ ≠ (.slice Ao24 t493.length co24 : Value).ownBlock ∧ some k_ ≠ (.slice Ao36 t506.length co36 : Value).ownBlock ∧ some k_ ≠ (.slice Ao43 t513.length co43 : Value).ownBlock ∧ some k_ ≠ (.slice Ao48 t521.length co48 : Value).ownBlock) (Kd.R_keptB (HO501.out) hkp (fun k_ hk_ hs_ => (hk_.1.1.2) hs_)) (fun k_ hk_ => ⟨hk_.1.1.1.1.2, hk_.1.1.1.2, hk_.1.1.2, hk_.1.2⟩)); have n3_ := Aside0.mk (blk_kept (B.kb BK502) hkp (fun hs_ => (fun e_ => (Kd.R_ne HO508.out BK502.out (by decide)) e_) hs_)); have n4_ := Aside0.mk (Kd.R_reok rfl hy0 (fun k_ e_ => HO508.out.1 k_ e_)); have n5_ := Aside0.mk (blk_kept (B.kb BK509) hkp (fun hs_ => (fun e_ => (Kd.R_ne HO508.out BK509.out (by decide)) e_) hs_)); have n6_ := Aside0.mk (Kd.R_mono (ok' := fun k_ => some k_ ≠ (.slice Ao24 t493.length co24 : Value).ownBlock ∧ some k_ ≠ (.slice Ao29 t499.length co29 : Value).ownBlock ∧ some k_ ≠ (.slice Ao36 t506.length co36 : Value).ownBlock ∧ some k_ ≠ (.slice Ao48 t521.length co48 : Value).ownBlock) (Kd.R_keptB (HO515.out) hkp (fun k_ hk_ hs_ => (hk_.1.2) hs_)) (fun k_ hk_ => ⟨hk_.1.1.1.1.2, hk_.1.1.1.2, hk_.1.1.2, hk_.1.2⟩)); have n7_ := Aside0.mk (blk_kept (B.kb BK516) hkp (fun hs_ => (fun e_ => (Kd.R_ne HO508.out BK516.out (by decide)) e_) hs_)); have n8_ := Aside0.mk (Kd.R_mono (ok' := fun k_ => some k_ ≠ (.slice Ao24 t493.length co24 : Value).ownBlock ∧ some k_ ≠ (.slice Ao29 t499.length co29 : Value).ownBlock ∧ some k_ ≠ (.slice Ao36 t506.length co36 : Value).ownBlock ∧ some k_ ≠ (.slice Ao43 t513.length co43 : Value).ownBlock) (Kd.R_keptB (HO523.out) hkp (fun k_ hk_ hs_ => (hk_.1.2) hs_)) (fun k_ hk_ => ⟨hk_.1.1.1.1.2, hk_.1.1.1.2, hk_.1.1.2, hk_.1.2⟩)); have n9_ := Aside0.mk (hb); clear BK488 HO495 HO501 BK502 HO508 BK509 HO515 BK516 HO523 HB; have BK488 := n0_; have HO495 := n1_; have HO501 := n2_; have BK502 := n3_; have HO508 := n4_; have BK509 := n5_; have HO515 := n6_; have BK516 := n7_; have HO523 := n8_; have HB := n9_; clear n0_ n1_ n2_ n3_ n4_ n5_ n6_ n7_ n8_ n9_; (try clear hb); (try clear hkp); (try clear hy0)))
      (try simp only [Act.put, List.setIfInBounds_toArray, List.set_cons_zero, List.set_cons_succ])
      go_cut [46] (fun v46 wc => ∃ (kq : Nat) (x46_17 : Bool), v46 = .bool x46_17 ∧ Aside0 (laws_FnExactTurnImage.j0 kq a1 x46_17 a0_0 a0_1 a0_2 l0_3 t496 t497 t498 t499 t510 t511 t512 t513 = some r) ∧ Aside0 (kq ≤ k) ∧ Aside0 (Kd.R (Kd.int .i64) 3 wc w.heap.size (fun k_ => some k_ ≠ ((.slice Ao36 t506.length co36) : Value).ownBlock ∧ some k_ ≠ ((.slice Ao43 t513.length co43) : Value).ownBlock) (.slice Ao29 t499.length co29) t499) ∧ Aside0 (Kd.R (Kd.int .i64) 3 wc w.heap.size (fun k_ => some k_ ≠ ((.slice Ao29 t499.length co29) : Value).ownBlock ∧ some k_ ≠ ((.slice Ao43 t513.length co43) : Value).ownBlock) (.slice Ao36 t506.length co36) t526) ∧ Aside0 (Kd.R (Kd.int .i64) 3 wc w.heap.size (fun k_ => some k_ ≠ ((.slice Ao29 t499.length co29) : Value).ownBlock ∧ some k_ ≠ ((.slice Ao36 t506.length co36) : Value).ownBlock) (.slice Ao43 t513.length co43) t513) ∧ Aside0 (wc.heap[gb488]? = some (.cells #[.int .i64 a0_0, .int .i64 a0_1, .int .i64 a0_2, (.slice A0_3 l0_3.length c0_3)] 24 (0, 0))) ∧ Aside0 (wc.heap[gb502]? = some (.cells #[.int .i64 t496, .int .i64 t497, .int .i64 t498, (.slice Ao29 t499.length co29)] 26 (0, 0))) ∧ Aside0 (wc.heap[gb509]? = some (.cells #[.int .i64 t503, .int .i64 t504, .int .i64 t505, (.slice Ao36 t506.length co36)] 26 (0, 0))) ∧ Aside0 (wc.heap[gb516]? = some (.cells #[.int .i64 t510, .int .i64 t511, .int .i64 t512, (.slice Ao43 t513.length co43)] 26 (0, 0))) ∧ Aside0 (Below w.heap.size w wc))
      case first =>
        have H := HC18.out
        clear HC18
        by_cases c52 : t525 < 0
        · rw [if_pos c52] at H
          have c52b0 : decide (t525 < 0) = true := decide_eq_true c52
          clear c52
          (first | rw [c52b0] | (simp only [i64_w, i32_w]; rw [c52b0]) | skip)
          exact absurd ht_.out (by revert H; cases k <;> intro H <;> simp [laws_FnExactTurnImage.j0] at H <;> (first | (subst H; decide) | simp [← H] | simp [H]))
        rw [if_neg c52] at H
        have c52b0 : decide (t525 < 0) = false := decide_eq_false c52
        clear c52
        (first | rw [c52b0] | (simp only [i64_w, i32_w]; rw [c52b0]) | skip)
        replace H := Option.bind_eq_some_iff.mp H
        obtain ⟨t527, A530, H⟩ := H
        replace H : (laws_FnExactTurnImage.j0 k a1 (!t527) a0_0 a0_1 a0_2 l0_3 t496 t497 t498 t499 t510 t511 t512 t513) = some r := H
        have A53 := Aside0.mk A530
        clear A530
        have H' := Aside0.mk H
        clear H
        have hnb54 := NB516_488.out
        have hnc54 := NB488_516.out
        have hnb55 := NB516_502.out
        have hnc55 := NB502_516.out
        have hnb56 := NB516_509.out
        have hnc56 := NB509_516.out
        have hcz57_0 : w51.cell? ⟨gb516, 0, none⟩ = some (.int .i64 t510) := B.bc BK516 0
        have hcz57_1 : w51.cell? ⟨gb516, 1, none⟩ = some (.int .i64 t511) := B.bc BK516 1
        have hcz57_2 : w51.cell? ⟨gb516, 2, none⟩ = some (.int .i64 t512) := B.bc BK516 2
        have hcz57_3 : w51.cell? ⟨gb516, 3, none⟩ = some (.slice Ao43 t513.length co43) := B.bc BK516 3
        have hfz57_0 := blk_frozen BK516.out 0
        have hfz57_1 := blk_frozen BK516.out 1
        have hfz57_2 := blk_frozen BK516.out 2
        have hfz57_3 := blk_frozen BK516.out 3
        have hnb58 := NB502_488.out
        have hnc58 := NB488_502.out
        have hnb59 := NB502_509.out
        have hnc59 := NB509_502.out
        have hcz60_0 : w51.cell? ⟨gb502, 0, none⟩ = some (.int .i64 t496) := B.bc BK502 0
        have hcz60_1 : w51.cell? ⟨gb502, 1, none⟩ = some (.int .i64 t497) := B.bc BK502 1
        have hcz60_2 : w51.cell? ⟨gb502, 2, none⟩ = some (.int .i64 t498) := B.bc BK502 2
        have hcz60_3 : w51.cell? ⟨gb502, 3, none⟩ = some (.slice Ao29 t499.length co29) := B.bc BK502 3
        have hfz60_0 := blk_frozen BK502.out 0
        have hfz60_1 := blk_frozen BK502.out 1
        have hfz60_2 := blk_frozen BK502.out 2
        have hfz60_3 := blk_frozen BK502.out 3
        go_wp2_with (first | (go_at_call 16; (with_reducible refine (laws_eqImage.calls k t510 t511 t512 _ _ t513 t496 t497 t498 _ _ t499 t527 _ ?side1 ?side2 ?side3 ?side4 A53.out).mono ?_); (case side1 => exact B.kc ((Kd.R_reads' HO515.out).2.2)); (case side2 => exact (Kd.R_reads' HO515.out).2.1); (case side3 => exact B.kc ((Kd.R_reads' HO501.out).2.2)); (case side4 => exact (Kd.R_reads' HO501.out).2.1); rintro e w61 ⟨rfl, hb⟩; have n0_ := Aside0.mk (Kd.R_below (B.kr HO495) hb); have n1_ := Aside0.mk (Kd.R_below (B.kr HO501) hb); have n2_ := Aside0.mk (Kd.R_below (B.kr HO508) hb); have n3_ := Aside0.mk (Kd.R_below (B.kr HO515) hb); have n4_ := Aside0.mk (Kd.R_below (B.kr HO523) hb); have n5_ := Aside0.mk (blk_below (B.kb BK488) hb); have n6_ := Aside0.mk (blk_below (B.kb BK502) hb); have n7_ := Aside0.mk (blk_below (B.kb BK509) hb); have n8_ := Aside0.mk (blk_below (B.kb BK516) hb); have n9_ := Aside0.mk (below_step (B.bl HB) hb); clear HO495 HO501 HO508 HO515 HO523 BK488 BK502 BK509 BK516 HB; have HO495 := n0_; have HO501 := n1_; have HO508 := n2_; have HO515 := n3_; have HO523 := n4_; have BK488 := n5_; have BK502 := n6_; have BK509 := n7_; have BK516 := n8_; have HB := n9_; clear n0_ n1_ n2_ n3_ n4_ n5_ n6_ n7_ n8_ n9_; (try clear hb); (try clear hb2); (try clear hk); (try clear hi)))
        go_meet
        case rel => exact ⟨_, (!t527), (by first | rfl | (simp; done) | (simp [*]; done)), H', ⟨by first | omega | exact Nat.le_refl _⟩, ⟨B.kr0 (Kd.R_mono HO501.out (fun _ hk => ⟨hk.2.1, hk.2.2.1⟩))⟩, ⟨B.kr0 (Kd.R_mono HO508.out (fun _ hk => ⟨hk.1.1.2, hk.1.2⟩))⟩, ⟨B.kr0 (Kd.R_mono HO515.out (fun _ hk => ⟨hk.2.1, hk.2.2.1⟩))⟩, ⟨B.kb BK488⟩, ⟨B.kb BK502⟩, ⟨B.kb BK509⟩, ⟨B.kb BK516⟩, ⟨B.bl HB⟩⟩
      case rest =>
        clear HC18
        try clear c1
        try clear c2
        try clear p2
        try clear c3
        try clear c4
        try clear c4b0
        try clear c5
        try clear c6
        try clear c12
        try clear c13
        try clear c14
        try clear c16
        try clear c17
        try clear c22
        try clear c24
        try clear c27
        try clear c33
        try clear c34
        try clear c39
        try clear c40
        try clear c41
        try clear c52
        try clear c52b0
        try clear c54
        try clear c55
        try clear c56
        try clear c58
        try clear c59
        try clear hcz20_0
        try clear hcz20_1
        try clear hcz20_2
        try clear hcz20_3
        try clear hcz22_0
        try clear hcz22_1
        try clear hcz22_2
        try clear hcz22_3
        try clear hcz28_0
        try clear hcz28_1
        try clear hcz28_2
        try clear hcz28_3
        try clear hcz30_0
        try clear hcz30_1
        try clear hcz30_2
        try clear hcz30_3
        try clear hcz35_0
        try clear hcz35_1
        try clear hcz35_2
        try clear hcz35_3
        try clear hcz42_0
        try clear hcz42_1
        try clear hcz42_2
        try clear hcz42_3
        try clear hcz44_0
        try clear hcz44_1
        try clear hcz44_2
        try clear hcz44_3
        try clear hcz50_0
        try clear hcz50_1
        try clear hcz50_2
        try clear hcz50_3
        try clear hcz57_0
        try clear hcz57_1
        try clear hcz57_2
        try clear hcz57_3
        try clear hcz60_0
        try clear hcz60_1
        try clear hcz60_2
        try clear hcz60_3
        try clear hcz6_0
        try clear hcz6_1
        try clear hcz6_2
        try clear hcz6_3
        try clear hfz20_0
        try clear hfz20_1
        try clear hfz20_2
        try clear hfz20_3
        try clear hfz22_0
        try clear hfz22_1
        try clear hfz22_2
        try clear hfz22_3
        try clear hfz28_0
        try clear hfz28_1
        try clear hfz28_2
        try clear hfz28_3
        try clear hfz30_0
        try clear hfz30_1
        try clear hfz30_2
        try clear hfz30_3
        try clear hfz35_0
        try clear hfz35_1
        try clear hfz35_2
        try clear hfz35_3
        try clear hfz42_0
        try clear hfz42_1
        try clear hfz42_2
        try clear hfz42_3
        try clear hfz44_0
        try clear hfz44_1
        try clear hfz44_2
        try clear hfz44_3
        try clear hfz50_0
        try clear hfz50_1
        try clear hfz50_2
        try clear hfz50_3
        try clear hfz57_0
        try clear hfz57_1
        try clear hfz57_2
        try clear hfz57_3
        try clear hfz60_0
        try clear hfz60_1
        try clear hfz60_2
        try clear hfz60_3
        try clear hfz6_0
        try clear hfz6_1
        try clear hfz6_2
        try clear hfz6_3
        obtain ⟨kq, x46_17, rfl, HA, HJ17, HO_503003, HO_510003, HO_517003, BK488, BK502, BK509, BK516, HB⟩ := hcut
        have hl510003_17 := (Kd.R_reads' HO_510003.out).1
        rw [hl510003_17] at HO_510003
        (try simp only [hl510003_17])
        (try simp only [hl510003_17] at BK488)
        (try simp only [hl510003_17] at BK502)
        (try simp only [hl510003_17] at BK509)
        (try simp only [hl510003_17] at BK516)
        (try simp only [hl510003_17] at HO_503003)
        (try simp only [hl510003_17] at HO_517003)
        cases kq with
        | zero => exact absurd HA.out (by simp [laws_FnExactTurnImage.j0])
        | succ kj17 =>
          have H := HA.out
          clear HA
          simp only [laws_FnExactTurnImage.j0] at H
          by_cases c62 : x46_17 = true
          · subst c62
            have H1 : (some false) = some r := by rw [if_pos rfl] at H; exact H
            clear H
            have H := H1
            clear H1
            obtain rfl := Option.some.inj H
            exact absurd ht_.out (by decide)
          replace c62 := Bool.eq_false_iff.mpr c62
          subst c62
          have H1 : ((laws_markImage.f kj17 t510 t511 t512 t513 1).bind fun bt528 => ((laws_heldImage.f kj17 t510 t511 t512 bt528.2 1).bind fun t530 => (if t530 < 0 then (some false) else (if t530 = bt528.1 then ((laws_toImage.f kj17 a0_0 a0_1 a0_2 l0_3).bind fun bt531 => ((impl_TurnImage.f bt531.1 bt531.2.1 bt531.2.2.1 bt531.2.2.2 a1).bind fun bt537 => ((laws_eqImage.f kj17 bt537.1 bt537.2.1 bt537.2.2.1 bt537.2.2.2 t496 t497 t498 t499).bind fun t544 => (if t544 = true then ((laws_heldImage.f kj17 t510 t511 t512 bt528.2 1).bind fun t545 => (if t545 < 0 then (some false) else (if t545 = bt528.1 then (some true) else (some false)))) else (some false))))) else (some false))))) = some r := by rw [if_neg (show ¬ (false = true) by decide)] at H; exact H
          clear H
          have H := H1
          clear H1
          replace H := Option.bind_eq_some_iff.mp H
          obtain ⟨⟨t528, t529⟩, A630, H⟩ := H
          replace H : ((laws_heldImage.f kj17 t510 t511 t512 t529 1).bind fun t530 => (if t530 < 0 then (some false) else (if t530 = t528 then ((laws_toImage.f kj17 a0_0 a0_1 a0_2 l0_3).bind fun bt531 => ((impl_TurnImage.f bt531.1 bt531.2.1 bt531.2.2.1 bt531.2.2.2 a1).bind fun bt537 => ((laws_eqImage.f kj17 bt537.1 bt537.2.1 bt537.2.2.1 bt537.2.2.2 t496 t497 t498 t499).bind fun t544 => (if t544 = true then ((laws_heldImage.f kj17 t510 t511 t512 t529 1).bind fun t545 => (if t545 < 0 then (some false) else (if t545 = t528 then (some true) else (some false)))) else (some false))))) else (some false)))) = some r := H
          have A63 := Aside0.mk A630
          clear A630
          replace H := Option.bind_eq_some_iff.mp H
          obtain ⟨t530, A640, H⟩ := H
          replace H : (if t530 < 0 then (some false) else (if t530 = t528 then ((laws_toImage.f kj17 a0_0 a0_1 a0_2 l0_3).bind fun bt531 => ((impl_TurnImage.f bt531.1 bt531.2.1 bt531.2.2.1 bt531.2.2.2 a1).bind fun bt537 => ((laws_eqImage.f kj17 bt537.1 bt537.2.1 bt537.2.2.1 bt537.2.2.2 t496 t497 t498 t499).bind fun t544 => (if t544 = true then ((laws_heldImage.f kj17 t510 t511 t512 t529 1).bind fun t545 => (if t545 < 0 then (some false) else (if t545 = t528 then (some true) else (some false)))) else (some false))))) else (some false))) = some r := H
          have A64 := Aside0.mk A640
          clear A640
          by_cases c65 : t530 < 0
          · rw [if_pos c65] at H
            have c65b0 : decide (t530 < 0) = true := decide_eq_true c65
            clear c65
            obtain rfl := Option.some.inj H
            exact absurd ht_.out (by decide)
          rw [if_neg c65] at H
          have c65b0 : decide (t530 < 0) = false := decide_eq_false c65
          clear c65
          by_cases c66 : t530 = t528
          · rw [if_pos c66] at H
            have c66b0 : (t530 == t528) = true := beq_iff_eq.mpr c66
            have c66b1 : (t530 != t528) = false := bne_eq_false_iff_eq.mpr c66
            clear c66
            replace H := Option.bind_eq_some_iff.mp H
            obtain ⟨⟨t531, t532, t533, t534⟩, A670, H⟩ := H
            replace H : ((impl_TurnImage.f t531 t532 t533 t534 a1).bind fun bt537 => ((laws_eqImage.f kj17 bt537.1 bt537.2.1 bt537.2.2.1 bt537.2.2.2 t496 t497 t498 t499).bind fun t544 => (if t544 = true then ((laws_heldImage.f kj17 t510 t511 t512 t529 1).bind fun t545 => (if t545 < 0 then (some false) else (if t545 = t528 then (some true) else (some false)))) else (some false)))) = some r := H
            have A67 := Aside0.mk A670
            clear A670
            replace H := Option.bind_eq_some_iff.mp H
            obtain ⟨⟨t537, t538, t539, t540⟩, A680, H⟩ := H
            replace H : ((laws_eqImage.f kj17 t537 t538 t539 t540 t496 t497 t498 t499).bind fun t544 => (if t544 = true then ((laws_heldImage.f kj17 t510 t511 t512 t529 1).bind fun t545 => (if t545 < 0 then (some false) else (if t545 = t528 then (some true) else (some false)))) else (some false))) = some r := H
            have A68 := Aside0.mk A680
            clear A680
            replace H := Option.bind_eq_some_iff.mp H
            obtain ⟨t544, A690, H⟩ := H
            replace H : (if t544 = true then ((laws_heldImage.f kj17 t510 t511 t512 t529 1).bind fun t545 => (if t545 < 0 then (some false) else (if t545 = t528 then (some true) else (some false)))) else (some false)) = some r := H
            have A69 := Aside0.mk A690
            clear A690
            by_cases c70 : t544 = true
            · subst c70
              have H1 : ((laws_heldImage.f kj17 t510 t511 t512 t529 1).bind fun t545 => (if t545 < 0 then (some false) else (if t545 = t528 then (some true) else (some false)))) = some r := by rw [if_pos rfl] at H; exact H
              clear H
              have H := H1
              clear H1
              replace H := Option.bind_eq_some_iff.mp H
              obtain ⟨t545, A710, H⟩ := H
              replace H : (if t545 < 0 then (some false) else (if t545 = t528 then (some true) else (some false))) = some r := H
              have A71 := Aside0.mk A710
              clear A710
              by_cases c72 : t545 < 0
              · rw [if_pos c72] at H
                have c72b0 : decide (t545 < 0) = true := decide_eq_true c72
                clear c72
                obtain rfl := Option.some.inj H
                exact absurd ht_.out (by decide)
              rw [if_neg c72] at H
              have c72b0 : decide (t545 < 0) = false := decide_eq_false c72
              clear c72
              by_cases c73 : t545 = t528
              · rw [if_pos c73] at H
                have c73b0 : (t545 == t528) = true := beq_iff_eq.mpr c73
                have c73b1 : (t545 != t528) = false := bne_eq_false_iff_eq.mpr c73
                clear c73
                obtain rfl := Option.some.inj H
                simp only [Option.some.injEq, Prod.mk.injEq] at H
                obtain ⟨rfl⟩ := H
                have hnb74 := NB516_488.out
                have hnc74 := NB488_516.out
                have hnb75 := NB516_502.out
                have hnc75 := NB502_516.out
                have hnb76 := NB516_509.out
                have hnc76 := NB509_516.out
                have hcz77_0 : wc.cell? ⟨gb516, 0, none⟩ = some (.int .i64 t510) := B.bc BK516 0
                have hcz77_1 : wc.cell? ⟨gb516, 1, none⟩ = some (.int .i64 t511) := B.bc BK516 1
                have hcz77_2 : wc.cell? ⟨gb516, 2, none⟩ = some (.int .i64 t512) := B.bc BK516 2
                have hcz77_3 : wc.cell? ⟨gb516, 3, none⟩ = some (.slice Ao43 t513.length co43) := B.bc BK516 3
                have hfz77_0 := blk_frozen BK516.out 0
                have hfz77_1 := blk_frozen BK516.out 1
                have hfz77_2 := blk_frozen BK516.out 2
                have hfz77_3 := blk_frozen BK516.out 3
                go_wp2_with (first | ((with_reducible refine gate_callee (f := 17) rfl ?_); refine goesL_ (some 49) rfl rfl Try.func17 (by kernel_rfl) rfl #[.agg #[.int .i64 t510, .int .i64 t511, .int .i64 t512, .slice Ao43 t513.length co43], .int .i64 1] rfl B.am ?_; (with_reducible refine (laws_markImage.calls kj17 t510 t511 t512 (fun k_ => some k_ = (.slice Ao43 t513.length co43 : Value).ownBlock) (.slice Ao43 t513.length co43) t513 1 t528 t529 w _ ?side1 ?side2 A63.out).mono ?_); (case side1 => exact B.bl HB); (case side2 => exact Kd.R_tight rfl HO_517003.out); rintro e w78 ⟨rfl, hy0, hb, hkp⟩; refine ⟨_, rfl, ?_⟩; have n0_ := Aside0.mk (Kd.R_mono (ok' := fun k_ => some k_ ≠ (.slice Ao36 t526.length co36 : Value).ownBlock ∧ some k_ ≠ (.slice Ao43 t513.length co43 : Value).ownBlock) (Kd.R_keptB (HO_503003.out) hkp (fun k_ hk_ hs_ => (hk_.2) hs_)) (fun k_ hk_ => ⟨hk_.1.1, hk_.1.2⟩)); have n1_ := Aside0.mk (Kd.R_mono (ok' := fun k_ => some k_ ≠ (.slice Ao29 t499.length co29 : Value).ownBlock ∧ some k_ ≠ (.slice Ao43 t513.length co43 : Value).ownBlock) (Kd.R_keptB (HO_510003.out) hkp (fun k_ hk_ hs_ => (hk_.2) hs_)) (fun k_ hk_ => ⟨hk_.1.1, hk_.1.2⟩)); have n2_ := Aside0.mk (Kd.R_reok rfl hy0 (fun k_ e_ => HO_517003.out.1 k_ e_)); have n3_ := Aside0.mk (blk_kept (B.kb BK488) hkp (fun hs_ => (fun e_ => (Kd.R_ne HO_517003.out BK488.out (by decide)) e_) hs_)); have n4_ := Aside0.mk (blk_kept (B.kb BK502) hkp (fun hs_ => (fun e_ => (Kd.R_ne HO_517003.out BK502.out (by decide)) e_) hs_)); have n5_ := Aside0.mk (blk_kept (B.kb BK509) hkp (fun hs_ => (fun e_ => (Kd.R_ne HO_517003.out BK509.out (by decide)) e_) hs_)); have n6_ := Aside0.mk (blk_kept (B.kb BK516) hkp (fun hs_ => (fun e_ => (Kd.R_ne HO_517003.out BK516.out (by decide)) e_) hs_)); have n7_ := Aside0.mk (hb); clear HO_503003 HO_510003 HO_517003 BK488 BK502 BK509 BK516 HB; have HO_503003 := n0_; have HO_510003 := n1_; have HO_517003 := n2_; have BK488 := n3_; have BK502 := n4_; have BK509 := n5_; have BK516 := n6_; have HB := n7_; clear n0_ n1_ n2_ n3_ n4_ n5_ n6_ n7_; (try clear hb); (try clear hkp); (try clear hy0); have hcz79_0 : w78.cell? ⟨gb516, 0, none⟩ = some (.int .i64 t510) := B.bc BK516 0; have hcz79_1 : w78.cell? ⟨gb516, 1, none⟩ = some (.int .i64 t511) := B.bc BK516 1; have hcz79_2 : w78.cell? ⟨gb516, 2, none⟩ = some (.int .i64 t512) := B.bc BK516 2; have hcz79_3 : w78.cell? ⟨gb516, 3, none⟩ = some (.slice Ao43 t513.length co43) := B.bc BK516 3; have hfz79_0 := blk_frozen BK516.out 0; have hfz79_1 := blk_frozen BK516.out 1; have hfz79_2 := blk_frozen BK516.out 2; have hfz79_3 := blk_frozen BK516.out 3) | ((with_reducible refine gate_callee (f := 18) rfl ?_); refine goesL_ (some 52) rfl rfl Try.func18 (by kernel_rfl) rfl #[.agg #[.int .i64 t510, .int .i64 t511, .int .i64 t512, .slice Ao43 t529.length co43], .int .i64 1] rfl (by (try simp only [List.map_toArray, List.map_cons, List.map_nil]); first | done | (rw [show t529.length = t513.length from (Kd.R_reads' HO_517003.out).1.symm] <;> rfl) | rfl | (simp only [List.length_drop, List.length_take]; rfl)) ?_; (with_reducible refine (laws_heldImage.calls kj17 t510 t511 t512 _ _ t529 1 t530 _ ?side1 ?side2 A64.out).mono ?_); (case side1 => exact B.kc ((Kd.R_reads' HO_517003.out).2.2)); (case side2 => rw [show t529.length = t513.length from (Kd.R_reads' HO_517003.out).1.symm]; exact (Kd.R_reads' HO_517003.out).2.1); rintro e w80 ⟨rfl, hb⟩; refine ⟨_, rfl, ?_⟩; have n0_ := Aside0.mk (Kd.R_below (B.kr HO_503003) hb); have n1_ := Aside0.mk (Kd.R_below (B.kr HO_510003) hb); have n2_ := Aside0.mk (Kd.R_below (B.kr HO_517003) hb); have n3_ := Aside0.mk (blk_below (B.kb BK488) hb); have n4_ := Aside0.mk (blk_below (B.kb BK502) hb); have n5_ := Aside0.mk (blk_below (B.kb BK509) hb); have n6_ := Aside0.mk (blk_below (B.kb BK516) hb); have n7_ := Aside0.mk (below_step (B.bl HB) hb); clear HO_503003 HO_510003 HO_517003 BK488 BK502 BK509 BK516 HB; have HO_503003 := n0_; have HO_510003 := n1_; have HO_517003 := n2_; have BK488 := n3_; have BK502 := n4_; have BK509 := n5_; have BK516 := n6_; have HB := n7_; clear n0_ n1_ n2_ n3_ n4_ n5_ n6_ n7_; (try clear hb); (try clear hb2); (try clear hk); (try clear hi); have hnb81 := NB488_502.out; have hnc81 := NB502_488.out; have hnb82 := NB488_509.out; have hnc82 := NB509_488.out; have hcz83_0 : w80.cell? ⟨gb488, 0, none⟩ = some (.int .i64 a0_0) := B.bc BK488 0; have hcz83_1 : w80.cell? ⟨gb488, 1, none⟩ = some (.int .i64 a0_1) := B.bc BK488 1; have hcz83_2 : w80.cell? ⟨gb488, 2, none⟩ = some (.int .i64 a0_2) := B.bc BK488 2; have hcz83_3 : w80.cell? ⟨gb488, 3, none⟩ = some (.slice A0_3 l0_3.length c0_3) := B.bc BK488 3; have hfz83_0 := blk_frozen BK488.out 0; have hfz83_1 := blk_frozen BK488.out 1; have hfz83_2 := blk_frozen BK488.out 2; have hfz83_3 := blk_frozen BK488.out 3) | ((with_reducible refine gate_callee (f := 14) rfl ?_); refine goesL_ (some 59) rfl rfl Try.func14 (by kernel_rfl) rfl #[.agg #[.int .i64 a0_0, .int .i64 a0_1, .int .i64 a0_2, .slice A0_3 l0_3.length c0_3]] rfl B.am ?_; (with_reducible refine (laws_toImage.calls kj17 a0_0 a0_1 a0_2 _ _ l0_3 t531 t532 t533 t534 _ ?side1 ?side2 A67.out).mono ?_); (case side1 => exact B.kc (Kd.C_below HR0_3.out HB.out)); (case side2 => exact HC0_3.out); rintro e w84 ⟨v535, rfl, ho0, hb⟩; refine ⟨_, rfl, ?_⟩; have n0_ := Aside0.mk (Kd.R_elder' (B.kr HO_503003) (Kd.R_base ho0) hb); have n1_ := Aside0.mk (Kd.R_elder' (B.kr HO_510003) (Kd.R_base ho0) hb); have n2_ := Aside0.mk (Kd.R_elder' (B.kr HO_517003) (Kd.R_base ho0) hb); have n3_ := Aside0.mk (Kd.R_lower (Kd.R_new' (Kd.R_new' (Kd.R_new' ho0 (Kd.R_lt (B.kr HO_503003))) (Kd.R_lt (B.kr HO_510003))) (Kd.R_lt (B.kr HO_517003))) (below_size (B.bl HB))); have n4_ := Aside0.mk (blk_below (B.kb BK488) hb); have n5_ := Aside0.mk (blk_below (B.kb BK502) hb); have n6_ := Aside0.mk (blk_below (B.kb BK509) hb); have n7_ := Aside0.mk (blk_below (B.kb BK516) hb); have n8_ := Aside0.mk (below_step (B.bl HB) hb); clear HO_503003 HO_510003 HO_517003 BK488 BK502 BK509 BK516 HB; have HO_503003 := n0_; have HO_510003 := n1_; have HO_517003 := n2_; have HO536 := n3_; have BK488 := n4_; have BK502 := n5_; have BK509 := n6_; have BK516 := n7_; have HB := n8_; clear n0_ n1_ n2_ n3_ n4_ n5_ n6_ n7_ n8_; (try clear hb); (try clear hb2); (try clear hk); (try clear hi); (try clear ho0); obtain ⟨Ao85, co85, eo85⟩ := Kd.R_slice HO536.out; subst eo85) | ((with_reducible refine gate_callee (f := 22) rfl ?_); refine goesL_ (some 61) rfl rfl Try.func22 (by kernel_rfl) rfl #[.agg #[.int .i64 t531, .int .i64 t532, .int .i64 t533, .slice Ao85 t534.length co85], .int .i64 a1] rfl B.am ?_; (with_reducible refine (impl_TurnImage.calls t531 t532 t533 _ _ t534 a1 t537 t538 t539 t540 _ ?side1 ?side2 A68.out).mono ?_); (case side1 => exact B.kc ((Kd.R_reads' HO536.out).2.2)); (case side2 => exact (Kd.R_reads' HO536.out).2.1); rintro e w86 ⟨v541, rfl, ho0, hb⟩; refine ⟨_, rfl, ?_⟩; have n0_ := Aside0.mk (Kd.R_elder' (B.kr HO_503003) (Kd.R_base ho0) hb); have n1_ := Aside0.mk (Kd.R_elder' (B.kr HO_510003) (Kd.R_base ho0) hb); have n2_ := Aside0.mk (Kd.R_elder' (B.kr HO_517003) (Kd.R_base ho0) hb); have n3_ := Aside0.mk (Kd.R_elder' (B.kr HO536) (Kd.R_base ho0) hb); have n4_ := Aside0.mk (Kd.R_lower (Kd.R_new' (Kd.R_new' (Kd.R_new' (Kd.R_new' ho0 (Kd.R_lt (B.kr HO_503003))) (Kd.R_lt (B.kr HO_510003))) (Kd.R_lt (B.kr HO_517003))) (Kd.R_lt (B.kr HO536))) (below_size (B.bl HB))); have n5_ := Aside0.mk (blk_below (B.kb BK488) hb); have n6_ := Aside0.mk (blk_below (B.kb BK502) hb); have n7_ := Aside0.mk (blk_below (B.kb BK509) hb); have n8_ := Aside0.mk (blk_below (B.kb BK516) hb); have n9_ := Aside0.mk (below_step (B.bl HB) hb); clear HO_503003 HO_510003 HO_517003 HO536 BK488 BK502 BK509 BK516 HB; have HO_503003 := n0_; have HO_510003 := n1_; have HO_517003 := n2_; have HO536 := n3_; have HO542 := n4_; have BK488 := n5_; have BK502 := n6_; have BK509 := n7_; have BK516 := n8_; have HB := n9_; clear n0_ n1_ n2_ n3_ n4_ n5_ n6_ n7_ n8_ n9_; (try clear hb); (try clear hb2); (try clear hk); (try clear hi); (try clear ho0)) | ((with_reducible refine gate_dst (N := 12) rfl ?_); refine box_event ?hg (N := 12) ?hd (cs := #[.int .i64 0, .int .i64 0, .int .i64 0, .slice none 0 0]) (t := 26) ?hr ?_; (case hd => rfl); (case hg => rfl); (case hr => first | (go_simp; done) | (go_simp; rfl)); intro gb543 hg w87 hbox hb; have n0_ := Aside0.mk (Kd.R_below (B.kr HO_503003) hb); have n1_ := Aside0.mk (Kd.R_below (B.kr HO_510003) hb); have n2_ := Aside0.mk (Kd.R_below (B.kr HO_517003) hb); have n3_ := Aside0.mk (Kd.R_below (B.kr HO536) hb); have n4_ := Aside0.mk (Kd.R_below (B.kr HO542) hb); have n5_ := Aside0.mk (blk_below (B.kb BK488) hb); have n6_ := Aside0.mk (blk_below (B.kb BK502) hb); have n7_ := Aside0.mk (blk_below (B.kb BK509) hb); have n8_ := Aside0.mk (blk_below (B.kb BK516) hb); have n9_ := Aside0.mk (below_step (B.bl HB) hb); have n10_ := Aside0.mk (hbox); have n11_ := Aside0.mk (B.nle hg (below_size (B.bl HB))); have n12_ := Aside0.mk (B.nle hg (below_size (B.bl HB))); have n13_ := Aside0.mk (B.nlt hg (blk_lt (B.kb BK488))); have n14_ := Aside0.mk (B.ngt hg (blk_lt (B.kb BK488))); have n15_ := Aside0.mk (B.nlt hg (blk_lt (B.kb BK502))); have n16_ := Aside0.mk (B.ngt hg (blk_lt (B.kb BK502))); have n17_ := Aside0.mk (B.nlt hg (blk_lt (B.kb BK509))); have n18_ := Aside0.mk (B.ngt hg (blk_lt (B.kb BK509))); have n19_ := Aside0.mk (B.nlt hg (blk_lt (B.kb BK516))); have n20_ := Aside0.mk (B.ngt hg (blk_lt (B.kb BK516))); clear HO_503003 HO_510003 HO_517003 HO536 HO542 BK488 BK502 BK509 BK516 HB; have HO_503003 := n0_; have HO_510003 := n1_; have HO_517003 := n2_; have HO536 := n3_; have HO542 := n4_; have BK488 := n5_; have BK502 := n6_; have BK509 := n7_; have BK516 := n8_; have HB := n9_; have BK543 := n10_; have GW543 := n11_; have GE543 := n12_; have NB488_543 := n13_; have NB543_488 := n14_; have NB502_543 := n15_; have NB543_502 := n16_; have NB509_543 := n17_; have NB543_509 := n18_; have NB516_543 := n19_; have NB543_516 := n20_; clear n0_ n1_ n2_ n3_ n4_ n5_ n6_ n7_ n8_ n9_ n10_ n11_ n12_ n13_ n14_ n15_ n16_ n17_ n18_ n19_ n20_; clear hb hbox hg; have hnb88 := NB543_488.out; have hnc88 := NB488_543.out; have hnb89 := NB543_502.out; have hnc89 := NB502_543.out; have hnb90 := NB543_509.out; have hnc90 := NB509_543.out; have hnb91 := NB543_516.out; have hnc91 := NB516_543.out; have hcz92_0 : w87.cell? ⟨gb543, 0, none⟩ = some (.int .i64 0) := B.bc BK543 0; have hcz92_1 : w87.cell? ⟨gb543, 1, none⟩ = some (.int .i64 0) := B.bc BK543 1; have hcz92_2 : w87.cell? ⟨gb543, 2, none⟩ = some (.int .i64 0) := B.bc BK543 2; have hcz92_3 : w87.cell? ⟨gb543, 3, none⟩ = some (.slice none 0 0) := B.bc BK543 3; have hfz92_0 := blk_frozen BK543.out 0; have hfz92_1 := blk_frozen BK543.out 1; have hfz92_2 := blk_frozen BK543.out 2; have hfz92_3 := blk_frozen BK543.out 3; obtain ⟨Ao93, co93, eo93⟩ := Kd.R_slice HO542.out; subst eo93; have hnb94 := NB502_509.out; have hnc94 := NB509_502.out; have hcz95_0 : w87.cell? ⟨gb502, 0, none⟩ = some (.int .i64 t496) := B.bc BK502 0; have hcz95_1 : w87.cell? ⟨gb502, 1, none⟩ = some (.int .i64 t497) := B.bc BK502 1; have hcz95_2 : w87.cell? ⟨gb502, 2, none⟩ = some (.int .i64 t498) := B.bc BK502 2; have hcz95_3 : w87.cell? ⟨gb502, 3, none⟩ = some (.slice Ao29 t499.length co29) := B.bc BK502 3; have hfz95_0 := blk_frozen BK502.out 0; have hfz95_1 := blk_frozen BK502.out 1; have hfz95_2 := blk_frozen BK502.out 2; have hfz95_3 := blk_frozen BK502.out 3) | ((with_reducible refine gate_callee (f := 16) rfl ?_); refine goesL_ (some 64) rfl rfl Try.func16 (by kernel_rfl) rfl #[.agg #[.int .i64 t537, .int .i64 t538, .int .i64 t539, .slice Ao93 t540.length co93], .agg #[.int .i64 t496, .int .i64 t497, .int .i64 t498, .slice Ao29 t499.length co29]] rfl B.am ?_; (with_reducible refine (laws_eqImage.calls kj17 t537 t538 t539 _ _ t540 t496 t497 t498 _ _ t499 true _ ?side1 ?side2 ?side3 ?side4 A69.out).mono ?_); (case side1 => refine (Kd.R_reads' (e := 3) (base := w.heap.size) (ok := fun k_ => ((((True ∧ some k_ ≠ (.slice Ao29 t499.length co29 : Value).ownBlock) ∧ some k_ ≠ (.slice Ao36 t526.length co36 : Value).ownBlock) ∧ some k_ ≠ (.slice Ao43 t513.length co43 : Value).ownBlock) ∧ some k_ ≠ (.slice Ao85 t534.length co85 : Value).ownBlock)) (n := t540.length) (c := co93) ?_).2.2; exact (B.kr0 (B.rs4 HO542 BK543))); (case side2 => exact (Kd.R_reads' HO542.out).2.1); (case side3 => refine (Kd.R_reads' (e := 3) (base := w.heap.size) (ok := fun k_ => (((some k_ ≠ (.slice Ao36 t526.length co36 : Value).ownBlock ∧ some k_ ≠ (.slice Ao43 t513.length co43 : Value).ownBlock) ∧ some k_ ≠ (.slice Ao85 t534.length co85 : Value).ownBlock) ∧ some k_ ≠ (.slice Ao93 t540.length co93 : Value).ownBlock)) (n := t499.length) (c := co29) ?_).2.2; exact (B.kr0 (B.rs4 HO_503003 BK543))); (case side4 => exact (Kd.R_reads' HO_503003.out).2.1); rintro e w96 ⟨rfl, hb⟩; refine ⟨_, rfl, ?_⟩; have n0_ := Aside0.mk (Kd.R_below (B.kr0 (B.rs4 HO_503003 BK543)) hb); have n1_ := Aside0.mk (Kd.R_below (B.kr0 (B.rs4 HO_510003 BK543)) hb); have n2_ := Aside0.mk (Kd.R_below (B.kr0 (B.rs4 HO_517003 BK543)) hb); have n3_ := Aside0.mk (Kd.R_below (B.kr0 (B.rs4 HO536 BK543)) hb); have n4_ := Aside0.mk (Kd.R_below (B.kr0 (B.rs4 HO542 BK543)) hb); have n5_ := Aside0.mk (blk_below (B.kb0 (B.bf4 BK488 NB488_543)) hb); have n6_ := Aside0.mk (blk_below (B.kb0 (B.bf4 BK502 NB502_543)) hb); have n7_ := Aside0.mk (blk_below (B.kb0 (B.bf4 BK509 NB509_543)) hb); have n8_ := Aside0.mk (blk_below (B.kb0 (B.bf4 BK516 NB516_543)) hb); have n9_ := Aside0.mk (blk_below (g := gb543) (o := .cells #[.int .i64 t537, .int .i64 t538, .int .i64 t539, .slice Ao93 t540.length co93] 26 (0, 0)) (B.kb0 (B.bp4 BK543)) hb); have n10_ := Aside0.mk (below_step (B.bl HB) hb); clear HO_503003 HO_510003 HO_517003 HO536 HO542 BK488 BK502 BK509 BK516 BK543 HB; have HO_503003 := n0_; have HO_510003 := n1_; have HO_517003 := n2_; have HO536 := n3_; have HO542 := n4_; have BK488 := n5_; have BK502 := n6_; have BK509 := n7_; have BK516 := n8_; have BK543 := n9_; have HB := n10_; clear n0_ n1_ n2_ n3_ n4_ n5_ n6_ n7_ n8_ n9_ n10_; (try clear hb); (try clear hb2); (try clear hk); (try clear hi); have hcz97_0 : w96.cell? ⟨gb516, 0, none⟩ = some (.int .i64 t510) := B.bc BK516 0; have hcz97_1 : w96.cell? ⟨gb516, 1, none⟩ = some (.int .i64 t511) := B.bc BK516 1; have hcz97_2 : w96.cell? ⟨gb516, 2, none⟩ = some (.int .i64 t512) := B.bc BK516 2; have hcz97_3 : w96.cell? ⟨gb516, 3, none⟩ = some (.slice Ao43 t513.length co43) := B.bc BK516 3; have hfz97_0 := blk_frozen BK516.out 0; have hfz97_1 := blk_frozen BK516.out 1; have hfz97_2 := blk_frozen BK516.out 2; have hfz97_3 := blk_frozen BK516.out 3) | ((with_reducible refine gate_callee (f := 18) rfl ?_); refine goesL_ (some 68) rfl rfl Try.func18 (by kernel_rfl) rfl #[.agg #[.int .i64 t510, .int .i64 t511, .int .i64 t512, .slice Ao43 t529.length co43], .int .i64 1] rfl (by (try simp only [List.map_toArray, List.map_cons, List.map_nil]); first | done | (rw [show t529.length = t513.length from (Kd.R_reads' HO_517003.out).1.symm] <;> rfl) | rfl | (simp only [List.length_drop, List.length_take]; rfl)) ?_; (with_reducible refine (laws_heldImage.calls kj17 t510 t511 t512 _ _ t529 1 t545 _ ?side1 ?side2 A71.out).mono ?_); (case side1 => exact B.kc ((Kd.R_reads' HO_517003.out).2.2)); (case side2 => rw [show t529.length = t513.length from (Kd.R_reads' HO_517003.out).1.symm]; exact (Kd.R_reads' HO_517003.out).2.1); rintro e w98 ⟨rfl, hb⟩; refine ⟨_, rfl, ?_⟩; have n0_ := Aside0.mk (Kd.R_below (B.kr HO_503003) hb); have n1_ := Aside0.mk (Kd.R_below (B.kr HO_510003) hb); have n2_ := Aside0.mk (Kd.R_below (B.kr HO_517003) hb); have n3_ := Aside0.mk (Kd.R_below (B.kr HO536) hb); have n4_ := Aside0.mk (Kd.R_below (B.kr HO542) hb); have n5_ := Aside0.mk (blk_below (B.kb BK488) hb); have n6_ := Aside0.mk (blk_below (B.kb BK502) hb); have n7_ := Aside0.mk (blk_below (B.kb BK509) hb); have n8_ := Aside0.mk (blk_below (B.kb BK516) hb); have n9_ := Aside0.mk (blk_below (B.kb BK543) hb); have n10_ := Aside0.mk (below_step (B.bl HB) hb); clear HO_503003 HO_510003 HO_517003 HO536 HO542 BK488 BK502 BK509 BK516 BK543 HB; have HO_503003 := n0_; have HO_510003 := n1_; have HO_517003 := n2_; have HO536 := n3_; have HO542 := n4_; have BK488 := n5_; have BK502 := n6_; have BK509 := n7_; have BK516 := n8_; have BK543 := n9_; have HB := n10_; clear n0_ n1_ n2_ n3_ n4_ n5_ n6_ n7_ n8_ n9_ n10_; (try clear hb); (try clear hb2); (try clear hk); (try clear hi)))
                go_ret
                exact ⟨by first | rfl | (simp [errW_none, errW_some] <;> rfl) | (simp [*, errW_none, errW_some] <;> rfl), B.bl HB⟩
              rw [if_neg c73] at H
              have c73b0 : (t545 == t528) = false := beq_eq_false_iff_ne.mpr c73
              have c73b1 : (t545 != t528) = true := bne_iff_ne.mpr c73
              obtain rfl := Option.some.inj H
              exact absurd ht_.out (by decide)
            replace c70 := Bool.eq_false_iff.mpr c70
            subst c70
            have H1 : (some false) = some r := by rw [if_neg (show ¬ (false = true) by decide)] at H; exact H
            clear H
            have H := H1
            clear H1
            obtain rfl := Option.some.inj H
            exact absurd ht_.out (by decide)
          rw [if_neg c66] at H
          have c66b0 : (t530 == t528) = false := beq_eq_false_iff_ne.mpr c66
          have c66b1 : (t530 != t528) = true := bne_iff_ne.mpr c66
          obtain rfl := Option.some.inj H
          exact absurd ht_.out (by decide)
    replace c16 := Bool.eq_false_iff.mpr c16
    subst c16
    have H1 : (some false) = some r := by rw [if_neg (show ¬ (false = true) by decide)] at H; exact H
    clear H
    have H := H1
    clear H1
    obtain rfl := Option.some.inj H
    exact absurd ht_.out (by decide)
  replace c13 := Bool.eq_false_iff.mpr c13
  subst c13
  have H1 : (some false) = some r := by rw [if_neg (show ¬ (false = true) by decide)] at H; exact H
  clear H
  have H := H1
  clear H1
  obtain rfl := Option.some.inj H
  exact absurd ht_.out (by decide)

end Go.Proofs.Ytibbkaoghbmncaa.Q
