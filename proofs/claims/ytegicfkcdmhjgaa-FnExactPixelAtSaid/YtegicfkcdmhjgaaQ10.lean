-- Written by a program of this session (the kit's printer, with hand-proved contracts for the functions that it does not take).
import Derived.Test.YtegicfkcdmhjgaaQ0
import Derived.Test.YtegicfkcdmhjgaaQ2
import Derived.Test.YtegicfkcdmhjgaaQ3
import Derived.Test.YtegicfkcdmhjgaaQ5
namespace Go.Proofs.Ytegicfkcdmhjgaa.Q
open Go.RowKit Go.Proofs.YtegicfkcdmhjgaaW.PrintWords Go.Proofs.YtegicfkcdmhjgaaW.PrintLast Go.Proofs.YtegicfkcdmhjgaaW.PrintMore
attribute [local go_sem] max2_int min2_int max_two min_two max_three min_three max_four min_four   -- for this text's walks alone
set_option linter.unusedVariables false
set_option linter.unusedSimpArgs false

/-! ### laws_FnExactPixelAt: function 5 -/
def laws_FnExactPixelAt.j0 : Nat → Int → Int → List Int → List Int → Bool → Int → Int → Int → List Int → Option (Bool)
  | 0, _, _, _, _, _, _, _, _, _ => none
  | k + 1, x1, x2, x8, x10, x50, x255000, x255001, x255002, x255003 => if x50 = true then (some false) else ((laws_markIntS.f k x10 1).bind fun bt286 => ((laws_heldIntS.f k bt286.2 1).bind fun t288 => (if t288 < 0 then (some false) else (if t288 = bt286.1 then ((laws_toImage.f k x255000 x255001 x255002 x255003).bind fun bt289 => ((impl_PixelAt.f bt289.1 bt289.2.1 bt289.2.2.1 bt289.2.2.2 x1 x2).bind fun t295 => ((laws_eqIntS.f k t295 x8).bind fun t298 => (if t298 = true then ((laws_heldIntS.f k bt286.2 1).bind fun t299 => (if t299 < 0 then (some false) else (if t299 = bt286.1 then (some true) else (some false)))) else (some false))))) else (some false)))))
def laws_FnExactPixelAt.f (k : Nat) (a0_0 : Int) (a0_1 : Int) (a0_2 : Int) (l0_3 : List Int) (a1 : Int) (a2 : Int) : Option (Bool) := (laws_szImage.f a0_0 a0_1 a0_2 l0_3 1048576).bind fun t255 => (if t255 < 0 then (some true) else ((laws_toImage.f k a0_0 a0_1 a0_2 l0_3).bind fun bt256 => ((spec_PixelAt.f k bt256.1 bt256.2.1 bt256.2.2.1 bt256.2.2.2 a1 a2).bind fun t262 => ((laws_toImage.f k a0_0 a0_1 a0_2 l0_3).bind fun bt265 => ((impl_PixelAt.f bt265.1 bt265.2.1 bt265.2.2.1 bt265.2.2.2 a1 a2).bind fun t272 => ((laws_eqIntS.f k t272 t262).bind fun t275 => (if t275 = true then ((laws_toImage.f k a0_0 a0_1 a0_2 l0_3).bind fun bt276 => ((laws_eqImage.f k bt265.1 bt265.2.1 bt265.2.2.1 bt265.2.2.2 bt276.1 bt276.2.1 bt276.2.2.1 bt276.2.2.2).bind fun t282 => (if t282 = true then ((laws_markImage.f k bt265.1 bt265.2.1 bt265.2.2.1 bt265.2.2.2 1).bind fun bt283 => (if bt283.1 < 0 then (laws_FnExactPixelAt.j0 k a1 a2 t262 t272 true a0_0 a0_1 a0_2 l0_3) else ((laws_eqIntS.f k t272 t262).bind fun t285 => (laws_FnExactPixelAt.j0 k a1 a2 t262 t272 (!t285) a0_0 a0_1 a0_2 l0_3)))) else (some false)))) else (some false))))))))
theorem laws_FnExactPixelAt.mono_l : ∀ k, (∀ y0 y1 y2 y3 y4 y5 y6 y7 y8, LeO (laws_FnExactPixelAt.j0 k y0 y1 y2 y3 y4 y5 y6 y7 y8) (laws_FnExactPixelAt.j0 (k + 1) y0 y1 y2 y3 y4 y5 y6 y7 y8))
  | 0 => fun _ _ _ _ _ _ _ _ _ r h => by simp [laws_FnExactPixelAt.j0] at h
  | k + 1 => by
    have ih0 := laws_FnExactPixelAt.mono_l k
    · intro y0 y1 y2 y3 y4 y5 y6 y7 y8
      unfold laws_FnExactPixelAt.j0
      repeat' first
      | (with_reducible exact ih0 _ _ _ _ _ _ _ _ _)
      | (with_reducible exact laws_eqImage.mono _ _ _ _ _ _ _ _ _)
      | (with_reducible exact laws_eqIntS.mono _ _ _)
      | (with_reducible exact laws_heldIntS.mono _ _ _)
      | (with_reducible exact laws_markImage.mono _ _ _ _ _ _)
      | (with_reducible exact laws_markIntS.mono _ _ _)
      | (with_reducible exact laws_toImage.mono _ _ _ _ _)
      | (with_reducible exact spec_PixelAt.mono _ _ _ _ _ _ _)
      | (with_reducible exact LeO.refl _)
      | (with_reducible exact LeO.none _)
      | (with_reducible refine LeO.ite ?_ ?_)
      | (with_reducible refine LeO.bind ?_ (fun _ => ?_))
      | exact ih0 _ _ _ _ _ _ _ _ _
      | exact laws_eqImage.mono _ _ _ _ _ _ _ _ _
      | exact laws_eqIntS.mono _ _ _
      | exact laws_heldIntS.mono _ _ _
      | exact laws_markImage.mono _ _ _ _ _ _
      | exact laws_markIntS.mono _ _ _
      | exact laws_toImage.mono _ _ _ _ _
      | exact spec_PixelAt.mono _ _ _ _ _ _ _
      | exact LeO.none _
      | refine LeO.ite ?_ ?_
      | refine LeO.bind ?_ (fun _ => ?_)
theorem laws_FnExactPixelAt.mono : ∀ a0 a1 a2 a3 a4 a5 k, LeO (laws_FnExactPixelAt.f k a0 a1 a2 a3 a4 a5) (laws_FnExactPixelAt.f (k + 1) a0 a1 a2 a3 a4 a5) := by
  intro a0 a1 a2 a3 a4 a5 k
  have ih0 := laws_FnExactPixelAt.mono_l k
  unfold laws_FnExactPixelAt.f
  repeat' first
      | (with_reducible exact ih0 _ _ _ _ _ _ _ _ _)
      | (with_reducible exact laws_eqImage.mono _ _ _ _ _ _ _ _ _)
      | (with_reducible exact laws_eqIntS.mono _ _ _)
      | (with_reducible exact laws_heldIntS.mono _ _ _)
      | (with_reducible exact laws_markImage.mono _ _ _ _ _ _)
      | (with_reducible exact laws_markIntS.mono _ _ _)
      | (with_reducible exact laws_toImage.mono _ _ _ _ _)
      | (with_reducible exact spec_PixelAt.mono _ _ _ _ _ _ _)
      | (with_reducible exact LeO.refl _)
      | (with_reducible exact LeO.none _)
      | (with_reducible refine LeO.ite ?_ ?_)
      | (with_reducible refine LeO.bind ?_ (fun _ => ?_))
      | exact ih0 _ _ _ _ _ _ _ _ _
      | exact laws_eqImage.mono _ _ _ _ _ _ _ _ _
      | exact laws_eqIntS.mono _ _ _
      | exact laws_heldIntS.mono _ _ _
      | exact laws_markImage.mono _ _ _ _ _ _
      | exact laws_markIntS.mono _ _ _
      | exact laws_toImage.mono _ _ _ _ _
      | exact spec_PixelAt.mono _ _ _ _ _ _ _
      | exact LeO.none _
      | refine LeO.ite ?_ ?_
      | refine LeO.bind ?_ (fun _ => ?_)
set_option maxHeartbeats 8000000 in
set_option maxRecDepth 100000 in
theorem laws_FnExactPixelAt.calls (k : Nat) (a0_0 : Int) (a0_1 : Int) (a0_2 : Int) (A0_3 : Option Addr) (c0_3 : Nat) (l0_3 : List Int) (a1 : Int) (a2 : Int) (r : Bool) (w : World) (hr0_3 : Kd.C (Kd.int .i64) w A0_3 l0_3.length l0_3) (hc0_3 : l0_3.length ≤ c0_3) (h : laws_FnExactPixelAt.f k a0_0 a0_1 a0_2 l0_3 a1 a2 = some r) (ht_ : Aside0 (r = true)) :
    Calls Try.prog 5 #[.agg #[.int .i64 a0_0, .int .i64 a0_1, .int .i64 a0_2, .slice A0_3 l0_3.length c0_3], .int .i64 a1, .int .i64 a2] w fun e w' => e = .returned (.bool r) ∧ Below w.heap.size w w' := by
  have hu24 := Try.underlying24
  have hu27 := Try.underlying27
  have HR0_3 := Aside0.mk hr0_3
  have HC0_3 := Aside0.mk hc0_3
  clear hr0_3 hc0_3
  have HB := Aside0.mk (Below.refl w.heap.size w)
  have H : ((laws_szImage.f a0_0 a0_1 a0_2 l0_3 1048576).bind fun t255 => (if t255 < 0 then (some true) else ((laws_toImage.f k a0_0 a0_1 a0_2 l0_3).bind fun bt256 => ((spec_PixelAt.f k bt256.1 bt256.2.1 bt256.2.2.1 bt256.2.2.2 a1 a2).bind fun t262 => ((laws_toImage.f k a0_0 a0_1 a0_2 l0_3).bind fun bt265 => ((impl_PixelAt.f bt265.1 bt265.2.1 bt265.2.2.1 bt265.2.2.2 a1 a2).bind fun t272 => ((laws_eqIntS.f k t272 t262).bind fun t275 => (if t275 = true then ((laws_toImage.f k a0_0 a0_1 a0_2 l0_3).bind fun bt276 => ((laws_eqImage.f k bt265.1 bt265.2.1 bt265.2.2.1 bt265.2.2.2 bt276.1 bt276.2.1 bt276.2.2.1 bt276.2.2.2).bind fun t282 => (if t282 = true then ((laws_markImage.f k bt265.1 bt265.2.1 bt265.2.2.1 bt265.2.2.2 1).bind fun bt283 => (if bt283.1 < 0 then (laws_FnExactPixelAt.j0 k a1 a2 t262 t272 true a0_0 a0_1 a0_2 l0_3) else ((laws_eqIntS.f k t272 t262).bind fun t285 => (laws_FnExactPixelAt.j0 k a1 a2 t262 t272 (!t285) a0_0 a0_1 a0_2 l0_3)))) else (some false)))) else (some false))))))))) = some r := h
  clear h
  replace H := Option.bind_eq_some_iff.mp H
  obtain ⟨t255, A40, H⟩ := H
  replace H : (if t255 < 0 then (some true) else ((laws_toImage.f k a0_0 a0_1 a0_2 l0_3).bind fun bt256 => ((spec_PixelAt.f k bt256.1 bt256.2.1 bt256.2.2.1 bt256.2.2.2 a1 a2).bind fun t262 => ((laws_toImage.f k a0_0 a0_1 a0_2 l0_3).bind fun bt265 => ((impl_PixelAt.f bt265.1 bt265.2.1 bt265.2.2.1 bt265.2.2.2 a1 a2).bind fun t272 => ((laws_eqIntS.f k t272 t262).bind fun t275 => (if t275 = true then ((laws_toImage.f k a0_0 a0_1 a0_2 l0_3).bind fun bt276 => ((laws_eqImage.f k bt265.1 bt265.2.1 bt265.2.2.1 bt265.2.2.2 bt276.1 bt276.2.1 bt276.2.2.1 bt276.2.2.2).bind fun t282 => (if t282 = true then ((laws_markImage.f k bt265.1 bt265.2.1 bt265.2.2.1 bt265.2.2.2 1).bind fun bt283 => (if bt283.1 < 0 then (laws_FnExactPixelAt.j0 k a1 a2 t262 t272 true a0_0 a0_1 a0_2 l0_3) else ((laws_eqIntS.f k t272 t262).bind fun t285 => (laws_FnExactPixelAt.j0 k a1 a2 t262 t272 (!t285) a0_0 a0_1 a0_2 l0_3)))) else (some false)))) else (some false)))))))) = some r := H
  have A4 := Aside0.mk A40
  clear A40
  by_cases c5 : t255 < 0
  · rw [if_pos c5] at H
    have c5b0 : decide (t255 < 0) = true := decide_eq_true c5
    clear c5
    obtain rfl := Option.some.inj H
    simp only [Option.some.injEq, Prod.mk.injEq] at H
    obtain ⟨rfl⟩ := H
    go_enter Try.func5, Try.ntmps5
    go_wp2_with (first | ((with_reducible refine gate_dst (N := 3) rfl ?_); refine box_event ?hg (N := 3) ?hd (cs := #[.int .i64 a0_0, .int .i64 a0_1, .int .i64 a0_2, .slice A0_3 l0_3.length c0_3]) (t := 24) ?hr ?_; (case hd => rfl); (case hg => rfl); (case hr => first | (go_simp; done) | (go_simp; rfl)); intro gb254 hg w6 hbox hb; have n0_ := Aside0.mk (below_step (B.bl HB) hb); have n1_ := Aside0.mk (hbox); have n2_ := Aside0.mk (B.nle hg (below_size (B.bl HB))); have n3_ := Aside0.mk (B.nle hg (below_size (B.bl HB))); clear HB; have HB := n0_; have BK254 := n1_; have GW254 := n2_; have GE254 := n3_; clear n0_ n1_ n2_ n3_; clear hb hbox hg; have hcz7_0 : w6.cell? ⟨gb254, 0, none⟩ = some (.int .i64 a0_0) := B.bc BK254 0; have hcz7_1 : w6.cell? ⟨gb254, 1, none⟩ = some (.int .i64 a0_1) := B.bc BK254 1; have hcz7_2 : w6.cell? ⟨gb254, 2, none⟩ = some (.int .i64 a0_2) := B.bc BK254 2; have hcz7_3 : w6.cell? ⟨gb254, 3, none⟩ = some (.slice A0_3 l0_3.length c0_3) := B.bc BK254 3; have hfz7_0 := blk_frozen BK254.out 0; have hfz7_1 := blk_frozen BK254.out 1; have hfz7_2 := blk_frozen BK254.out 2; have hfz7_3 := blk_frozen BK254.out 3) | ((with_reducible refine gate_callee (f := 11) rfl ?_); refine goesL_ (some 17) rfl rfl Try.func11 (by kernel_rfl) rfl #[.agg #[.int .i64 a0_0, .int .i64 a0_1, .int .i64 a0_2, .slice A0_3 l0_3.length c0_3], .int .i64 1048576] rfl B.am ?_; (with_reducible refine (laws_szImage.calls a0_0 a0_1 a0_2 _ _ l0_3 1048576 t255 _ ?side1 ?side2 A4.out).mono ?_); (case side1 => exact B.kc (Kd.C_below HR0_3.out HB.out)); (case side2 => exact HC0_3.out); rintro e w8 ⟨rfl, hb⟩; refine ⟨_, rfl, ?_⟩; have n0_ := Aside0.mk (blk_below (B.kb BK254) hb); have n1_ := Aside0.mk (below_step (B.bl HB) hb); clear BK254 HB; have BK254 := n0_; have HB := n1_; clear n0_ n1_; (try clear hb); (try clear hb2); (try clear hk); (try clear hi)))
    go_ret
    exact ⟨by first | rfl | (simp [errW_none, errW_some] <;> rfl) | (simp [*, errW_none, errW_some] <;> rfl), B.bl HB⟩
  rw [if_neg c5] at H
  have c5b0 : decide (t255 < 0) = false := decide_eq_false c5
  clear c5
  replace H := Option.bind_eq_some_iff.mp H
  obtain ⟨⟨t256, t257, t258, t259⟩, A90, H⟩ := H
  replace H : ((spec_PixelAt.f k t256 t257 t258 t259 a1 a2).bind fun t262 => ((laws_toImage.f k a0_0 a0_1 a0_2 l0_3).bind fun bt265 => ((impl_PixelAt.f bt265.1 bt265.2.1 bt265.2.2.1 bt265.2.2.2 a1 a2).bind fun t272 => ((laws_eqIntS.f k t272 t262).bind fun t275 => (if t275 = true then ((laws_toImage.f k a0_0 a0_1 a0_2 l0_3).bind fun bt276 => ((laws_eqImage.f k bt265.1 bt265.2.1 bt265.2.2.1 bt265.2.2.2 bt276.1 bt276.2.1 bt276.2.2.1 bt276.2.2.2).bind fun t282 => (if t282 = true then ((laws_markImage.f k bt265.1 bt265.2.1 bt265.2.2.1 bt265.2.2.2 1).bind fun bt283 => (if bt283.1 < 0 then (laws_FnExactPixelAt.j0 k a1 a2 t262 t272 true a0_0 a0_1 a0_2 l0_3) else ((laws_eqIntS.f k t272 t262).bind fun t285 => (laws_FnExactPixelAt.j0 k a1 a2 t262 t272 (!t285) a0_0 a0_1 a0_2 l0_3)))) else (some false)))) else (some false)))))) = some r := H
  have A9 := Aside0.mk A90
  clear A90
  replace H := Option.bind_eq_some_iff.mp H
  obtain ⟨t262, A100, H⟩ := H
  replace H : ((laws_toImage.f k a0_0 a0_1 a0_2 l0_3).bind fun bt265 => ((impl_PixelAt.f bt265.1 bt265.2.1 bt265.2.2.1 bt265.2.2.2 a1 a2).bind fun t272 => ((laws_eqIntS.f k t272 t262).bind fun t275 => (if t275 = true then ((laws_toImage.f k a0_0 a0_1 a0_2 l0_3).bind fun bt276 => ((laws_eqImage.f k bt265.1 bt265.2.1 bt265.2.2.1 bt265.2.2.2 bt276.1 bt276.2.1 bt276.2.2.1 bt276.2.2.2).bind fun t282 => (if t282 = true then ((laws_markImage.f k bt265.1 bt265.2.1 bt265.2.2.1 bt265.2.2.2 1).bind fun bt283 => (if bt283.1 < 0 then (laws_FnExactPixelAt.j0 k a1 a2 t262 t272 true a0_0 a0_1 a0_2 l0_3) else ((laws_eqIntS.f k t272 t262).bind fun t285 => (laws_FnExactPixelAt.j0 k a1 a2 t262 t272 (!t285) a0_0 a0_1 a0_2 l0_3)))) else (some false)))) else (some false))))) = some r := H
  have A10 := Aside0.mk A100
  clear A100
  replace H := Option.bind_eq_some_iff.mp H
  obtain ⟨⟨t265, t266, t267, t268⟩, A110, H⟩ := H
  replace H : ((impl_PixelAt.f t265 t266 t267 t268 a1 a2).bind fun t272 => ((laws_eqIntS.f k t272 t262).bind fun t275 => (if t275 = true then ((laws_toImage.f k a0_0 a0_1 a0_2 l0_3).bind fun bt276 => ((laws_eqImage.f k t265 t266 t267 t268 bt276.1 bt276.2.1 bt276.2.2.1 bt276.2.2.2).bind fun t282 => (if t282 = true then ((laws_markImage.f k t265 t266 t267 t268 1).bind fun bt283 => (if bt283.1 < 0 then (laws_FnExactPixelAt.j0 k a1 a2 t262 t272 true a0_0 a0_1 a0_2 l0_3) else ((laws_eqIntS.f k t272 t262).bind fun t285 => (laws_FnExactPixelAt.j0 k a1 a2 t262 t272 (!t285) a0_0 a0_1 a0_2 l0_3)))) else (some false)))) else (some false)))) = some r := H
  have A11 := Aside0.mk A110
  clear A110
  replace H := Option.bind_eq_some_iff.mp H
  obtain ⟨t272, A120, H⟩ := H
  replace H : ((laws_eqIntS.f k t272 t262).bind fun t275 => (if t275 = true then ((laws_toImage.f k a0_0 a0_1 a0_2 l0_3).bind fun bt276 => ((laws_eqImage.f k t265 t266 t267 t268 bt276.1 bt276.2.1 bt276.2.2.1 bt276.2.2.2).bind fun t282 => (if t282 = true then ((laws_markImage.f k t265 t266 t267 t268 1).bind fun bt283 => (if bt283.1 < 0 then (laws_FnExactPixelAt.j0 k a1 a2 t262 t272 true a0_0 a0_1 a0_2 l0_3) else ((laws_eqIntS.f k t272 t262).bind fun t285 => (laws_FnExactPixelAt.j0 k a1 a2 t262 t272 (!t285) a0_0 a0_1 a0_2 l0_3)))) else (some false)))) else (some false))) = some r := H
  have A12 := Aside0.mk A120
  clear A120
  replace H := Option.bind_eq_some_iff.mp H
  obtain ⟨t275, A130, H⟩ := H
  replace H : (if t275 = true then ((laws_toImage.f k a0_0 a0_1 a0_2 l0_3).bind fun bt276 => ((laws_eqImage.f k t265 t266 t267 t268 bt276.1 bt276.2.1 bt276.2.2.1 bt276.2.2.2).bind fun t282 => (if t282 = true then ((laws_markImage.f k t265 t266 t267 t268 1).bind fun bt283 => (if bt283.1 < 0 then (laws_FnExactPixelAt.j0 k a1 a2 t262 t272 true a0_0 a0_1 a0_2 l0_3) else ((laws_eqIntS.f k t272 t262).bind fun t285 => (laws_FnExactPixelAt.j0 k a1 a2 t262 t272 (!t285) a0_0 a0_1 a0_2 l0_3)))) else (some false)))) else (some false)) = some r := H
  have A13 := Aside0.mk A130
  clear A130
  by_cases c14 : t275 = true
  · subst c14
    have H1 : ((laws_toImage.f k a0_0 a0_1 a0_2 l0_3).bind fun bt276 => ((laws_eqImage.f k t265 t266 t267 t268 bt276.1 bt276.2.1 bt276.2.2.1 bt276.2.2.2).bind fun t282 => (if t282 = true then ((laws_markImage.f k t265 t266 t267 t268 1).bind fun bt283 => (if bt283.1 < 0 then (laws_FnExactPixelAt.j0 k a1 a2 t262 t272 true a0_0 a0_1 a0_2 l0_3) else ((laws_eqIntS.f k t272 t262).bind fun t285 => (laws_FnExactPixelAt.j0 k a1 a2 t262 t272 (!t285) a0_0 a0_1 a0_2 l0_3)))) else (some false)))) = some r := by rw [if_pos rfl] at H; exact H
    clear H
    have H := H1
    clear H1
    replace H := Option.bind_eq_some_iff.mp H
    obtain ⟨⟨t276, t277, t278, t279⟩, A150, H⟩ := H
    replace H : ((laws_eqImage.f k t265 t266 t267 t268 t276 t277 t278 t279).bind fun t282 => (if t282 = true then ((laws_markImage.f k t265 t266 t267 t268 1).bind fun bt283 => (if bt283.1 < 0 then (laws_FnExactPixelAt.j0 k a1 a2 t262 t272 true a0_0 a0_1 a0_2 l0_3) else ((laws_eqIntS.f k t272 t262).bind fun t285 => (laws_FnExactPixelAt.j0 k a1 a2 t262 t272 (!t285) a0_0 a0_1 a0_2 l0_3)))) else (some false))) = some r := H
    have A15 := Aside0.mk A150
    clear A150
    replace H := Option.bind_eq_some_iff.mp H
    obtain ⟨t282, A160, H⟩ := H
    replace H : (if t282 = true then ((laws_markImage.f k t265 t266 t267 t268 1).bind fun bt283 => (if bt283.1 < 0 then (laws_FnExactPixelAt.j0 k a1 a2 t262 t272 true a0_0 a0_1 a0_2 l0_3) else ((laws_eqIntS.f k t272 t262).bind fun t285 => (laws_FnExactPixelAt.j0 k a1 a2 t262 t272 (!t285) a0_0 a0_1 a0_2 l0_3)))) else (some false)) = some r := H
    have A16 := Aside0.mk A160
    clear A160
    by_cases c17 : t282 = true
    · subst c17
      have H1 : ((laws_markImage.f k t265 t266 t267 t268 1).bind fun bt283 => (if bt283.1 < 0 then (laws_FnExactPixelAt.j0 k a1 a2 t262 t272 true a0_0 a0_1 a0_2 l0_3) else ((laws_eqIntS.f k t272 t262).bind fun t285 => (laws_FnExactPixelAt.j0 k a1 a2 t262 t272 (!t285) a0_0 a0_1 a0_2 l0_3)))) = some r := by rw [if_pos rfl] at H; exact H
      clear H
      have H := H1
      clear H1
      replace H := Option.bind_eq_some_iff.mp H
      obtain ⟨⟨t283, t284⟩, A180, H⟩ := H
      replace H : (if t283 < 0 then (laws_FnExactPixelAt.j0 k a1 a2 t262 t272 true a0_0 a0_1 a0_2 l0_3) else ((laws_eqIntS.f k t272 t262).bind fun t285 => (laws_FnExactPixelAt.j0 k a1 a2 t262 t272 (!t285) a0_0 a0_1 a0_2 l0_3))) = some r := H
      have A18 := Aside0.mk A180
      clear A180
      have HC19 := Aside0.mk H
      clear H
      go_enter Try.func5, Try.ntmps5
      try go_wp2_with (first | ((with_reducible refine gate_dst (N := 3) rfl ?_); refine box_event ?hg (N := 3) ?hd (cs := #[.int .i64 a0_0, .int .i64 a0_1, .int .i64 a0_2, .slice A0_3 l0_3.length c0_3]) (t := 24) ?hr ?_; (case hd => rfl); (case hg => rfl); (case hr => first | (go_simp; done) | (go_simp; rfl)); intro gb254 hg w20 hbox hb; have n0_ := Aside0.mk (below_step (B.bl HB) hb); have n1_ := Aside0.mk (hbox); have n2_ := Aside0.mk (B.nle hg (below_size (B.bl HB))); have n3_ := Aside0.mk (B.nle hg (below_size (B.bl HB))); clear HB; have HB := n0_; have BK254 := n1_; have GW254 := n2_; have GE254 := n3_; clear n0_ n1_ n2_ n3_; clear hb hbox hg; have hcz21_0 : w20.cell? ⟨gb254, 0, none⟩ = some (.int .i64 a0_0) := B.bc BK254 0; have hcz21_1 : w20.cell? ⟨gb254, 1, none⟩ = some (.int .i64 a0_1) := B.bc BK254 1; have hcz21_2 : w20.cell? ⟨gb254, 2, none⟩ = some (.int .i64 a0_2) := B.bc BK254 2; have hcz21_3 : w20.cell? ⟨gb254, 3, none⟩ = some (.slice A0_3 l0_3.length c0_3) := B.bc BK254 3; have hfz21_0 := blk_frozen BK254.out 0; have hfz21_1 := blk_frozen BK254.out 1; have hfz21_2 := blk_frozen BK254.out 2; have hfz21_3 := blk_frozen BK254.out 3) | ((with_reducible refine gate_callee (f := 11) rfl ?_); refine goesL_ (some 17) rfl rfl Try.func11 (by kernel_rfl) rfl #[.agg #[.int .i64 a0_0, .int .i64 a0_1, .int .i64 a0_2, .slice A0_3 l0_3.length c0_3], .int .i64 1048576] rfl B.am ?_; (with_reducible refine (laws_szImage.calls a0_0 a0_1 a0_2 _ _ l0_3 1048576 t255 _ ?side1 ?side2 A4.out).mono ?_); (case side1 => exact B.kc (Kd.C_below HR0_3.out HB.out)); (case side2 => exact HC0_3.out); rintro e w22 ⟨rfl, hb⟩; refine ⟨_, rfl, ?_⟩; have n0_ := Aside0.mk (blk_below (B.kb BK254) hb); have n1_ := Aside0.mk (below_step (B.bl HB) hb); clear BK254 HB; have BK254 := n0_; have HB := n1_; clear n0_ n1_; (try clear hb); (try clear hb2); (try clear hk); (try clear hi); have hcz23_0 : w22.cell? ⟨gb254, 0, none⟩ = some (.int .i64 a0_0) := B.bc BK254 0; have hcz23_1 : w22.cell? ⟨gb254, 1, none⟩ = some (.int .i64 a0_1) := B.bc BK254 1; have hcz23_2 : w22.cell? ⟨gb254, 2, none⟩ = some (.int .i64 a0_2) := B.bc BK254 2; have hcz23_3 : w22.cell? ⟨gb254, 3, none⟩ = some (.slice A0_3 l0_3.length c0_3) := B.bc BK254 3; have hfz23_0 := blk_frozen BK254.out 0; have hfz23_1 := blk_frozen BK254.out 1; have hfz23_2 := blk_frozen BK254.out 2; have hfz23_3 := blk_frozen BK254.out 3) | ((with_reducible refine gate_callee (f := 13) rfl ?_); refine goesL_ (some 21) rfl rfl Try.func13 (by kernel_rfl) rfl #[.agg #[.int .i64 a0_0, .int .i64 a0_1, .int .i64 a0_2, .slice A0_3 l0_3.length c0_3]] rfl B.am ?_; (with_reducible refine (laws_toImage.calls k a0_0 a0_1 a0_2 _ _ l0_3 t256 t257 t258 t259 _ ?side1 ?side2 A9.out).mono ?_); (case side1 => exact B.kc (Kd.C_below HR0_3.out HB.out)); (case side2 => exact HC0_3.out); rintro e w24 ⟨v260, rfl, ho0, hb⟩; refine ⟨_, rfl, ?_⟩; have n0_ := Aside0.mk (Kd.R_lower ho0 (below_size (B.bl HB))); have n1_ := Aside0.mk (blk_below (B.kb BK254) hb); have n2_ := Aside0.mk (below_step (B.bl HB) hb); clear BK254 HB; have HO261 := n0_; have BK254 := n1_; have HB := n2_; clear n0_ n1_ n2_; (try clear hb); (try clear hb2); (try clear hk); (try clear hi); (try clear ho0); obtain ⟨Ao25, co25, eo25⟩ := Kd.R_slice HO261.out; subst eo25) | ((with_reducible refine gate_callee (f := 23) rfl ?_); refine goesL_ (some 24) rfl rfl Try.func23 (by kernel_rfl) rfl #[.agg #[.int .i64 t256, .int .i64 t257, .int .i64 t258, .slice Ao25 t259.length co25], .int .i64 a1, .int .i64 a2] rfl B.am ?_; (with_reducible refine (spec_PixelAt.calls k t256 t257 t258 _ _ t259 a1 a2 t262 _ ?side1 ?side2 A10.out).mono ?_); (case side1 => exact B.kc ((Kd.R_reads' HO261.out).2.2)); (case side2 => exact (Kd.R_reads' HO261.out).2.1); rintro e w26 ⟨v263, rfl, ho0, hb⟩; refine ⟨_, rfl, ?_⟩; have n0_ := Aside0.mk (Kd.R_elder' (B.kr HO261) (Kd.R_base ho0) hb); have n1_ := Aside0.mk (Kd.R_lower (Kd.R_new' ho0 (Kd.R_lt (B.kr HO261))) (below_size (B.bl HB))); have n2_ := Aside0.mk (blk_below (B.kb BK254) hb); have n3_ := Aside0.mk (below_step (B.bl HB) hb); clear HO261 BK254 HB; have HO261 := n0_; have HO264 := n1_; have BK254 := n2_; have HB := n3_; clear n0_ n1_ n2_ n3_; (try clear hb); (try clear hb2); (try clear hk); (try clear hi); (try clear ho0); have hcz27_0 : w26.cell? ⟨gb254, 0, none⟩ = some (.int .i64 a0_0) := B.bc BK254 0; have hcz27_1 : w26.cell? ⟨gb254, 1, none⟩ = some (.int .i64 a0_1) := B.bc BK254 1; have hcz27_2 : w26.cell? ⟨gb254, 2, none⟩ = some (.int .i64 a0_2) := B.bc BK254 2; have hcz27_3 : w26.cell? ⟨gb254, 3, none⟩ = some (.slice A0_3 l0_3.length c0_3) := B.bc BK254 3; have hfz27_0 := blk_frozen BK254.out 0; have hfz27_1 := blk_frozen BK254.out 1; have hfz27_2 := blk_frozen BK254.out 2; have hfz27_3 := blk_frozen BK254.out 3) | ((with_reducible refine gate_callee (f := 13) rfl ?_); refine goesL_ (some 26) rfl rfl Try.func13 (by kernel_rfl) rfl #[.agg #[.int .i64 a0_0, .int .i64 a0_1, .int .i64 a0_2, .slice A0_3 l0_3.length c0_3]] rfl B.am ?_; (with_reducible refine (laws_toImage.calls k a0_0 a0_1 a0_2 _ _ l0_3 t265 t266 t267 t268 _ ?side1 ?side2 A11.out).mono ?_); (case side1 => exact B.kc (Kd.C_below HR0_3.out HB.out)); (case side2 => exact HC0_3.out); rintro e w28 ⟨v269, rfl, ho0, hb⟩; refine ⟨_, rfl, ?_⟩; have n0_ := Aside0.mk (Kd.R_elder' (B.kr HO261) (Kd.R_base ho0) hb); have n1_ := Aside0.mk (Kd.R_elder' (B.kr HO264) (Kd.R_base ho0) hb); have n2_ := Aside0.mk (Kd.R_lower (Kd.R_new' (Kd.R_new' ho0 (Kd.R_lt (B.kr HO261))) (Kd.R_lt (B.kr HO264))) (below_size (B.bl HB))); have n3_ := Aside0.mk (blk_below (B.kb BK254) hb); have n4_ := Aside0.mk (below_step (B.bl HB) hb); clear HO261 HO264 BK254 HB; have HO261 := n0_; have HO264 := n1_; have HO270 := n2_; have BK254 := n3_; have HB := n4_; clear n0_ n1_ n2_ n3_ n4_; (try clear hb); (try clear hb2); (try clear hk); (try clear hi); (try clear ho0)) | ((with_reducible refine gate_dst (N := 9) rfl ?_); refine box_event ?hg (N := 9) ?hd (cs := #[.int .i64 0, .int .i64 0, .int .i64 0, .slice none 0 0]) (t := 27) ?hr ?_; (case hd => rfl); (case hg => rfl); (case hr => first | (go_simp; done) | (go_simp; rfl)); intro gb271 hg w29 hbox hb; have n0_ := Aside0.mk (Kd.R_below (B.kr HO261) hb); have n1_ := Aside0.mk (Kd.R_below (B.kr HO264) hb); have n2_ := Aside0.mk (Kd.R_below (B.kr HO270) hb); have n3_ := Aside0.mk (blk_below (B.kb BK254) hb); have n4_ := Aside0.mk (below_step (B.bl HB) hb); have n5_ := Aside0.mk (hbox); have n6_ := Aside0.mk (B.nle hg (below_size (B.bl HB))); have n7_ := Aside0.mk (B.nle hg (below_size (B.bl HB))); have n8_ := Aside0.mk (B.nlt hg (blk_lt (B.kb BK254))); have n9_ := Aside0.mk (B.ngt hg (blk_lt (B.kb BK254))); clear HO261 HO264 HO270 BK254 HB; have HO261 := n0_; have HO264 := n1_; have HO270 := n2_; have BK254 := n3_; have HB := n4_; have BK271 := n5_; have GW271 := n6_; have GE271 := n7_; have NB254_271 := n8_; have NB271_254 := n9_; clear n0_ n1_ n2_ n3_ n4_ n5_ n6_ n7_ n8_ n9_; clear hb hbox hg; have hnb30 := NB271_254.out; have hnc30 := NB254_271.out; have hcz31_0 : w29.cell? ⟨gb271, 0, none⟩ = some (.int .i64 0) := B.bc BK271 0; have hcz31_1 : w29.cell? ⟨gb271, 1, none⟩ = some (.int .i64 0) := B.bc BK271 1; have hcz31_2 : w29.cell? ⟨gb271, 2, none⟩ = some (.int .i64 0) := B.bc BK271 2; have hcz31_3 : w29.cell? ⟨gb271, 3, none⟩ = some (.slice none 0 0) := B.bc BK271 3; have hfz31_0 := blk_frozen BK271.out 0; have hfz31_1 := blk_frozen BK271.out 1; have hfz31_2 := blk_frozen BK271.out 2; have hfz31_3 := blk_frozen BK271.out 3; obtain ⟨Ao32, co32, eo32⟩ := Kd.R_slice HO270.out; subst eo32) | ((with_reducible refine gate_callee (f := 24) rfl ?_); refine goesL_ (some 30) rfl rfl Try.func24 (by kernel_rfl) rfl #[.agg #[.int .i64 t265, .int .i64 t266, .int .i64 t267, .slice Ao32 t268.length co32], .int .i64 a1, .int .i64 a2] rfl B.am ?_; (with_reducible refine (impl_PixelAt.calls t265 t266 t267 _ _ t268 a1 a2 t272 _ ?side1 ?side2 A12.out).mono ?_); (case side1 => refine (Kd.R_reads' (e := 3) (base := w.heap.size) (ok := fun k_ => ((True ∧ some k_ ≠ (.slice Ao25 t259.length co25 : Value).ownBlock) ∧ some k_ ≠ (v263 : Value).ownBlock)) (n := t268.length) (c := co32) ?_).2.2; exact (B.kr0 (B.rs4 HO270 BK271))); (case side2 => exact (Kd.R_reads' HO270.out).2.1); rintro e w33 ⟨v273, rfl, ho0, hb⟩; refine ⟨_, rfl, ?_⟩; have n0_ := Aside0.mk (Kd.R_elder' (B.kr0 (B.rs4 HO261 BK271)) (Kd.R_base ho0) hb); have n1_ := Aside0.mk (Kd.R_elder' (B.kr0 (B.rs4 HO264 BK271)) (Kd.R_base ho0) hb); have n2_ := Aside0.mk (Kd.R_elder' (B.kr0 (B.rs4 HO270 BK271)) (Kd.R_base ho0) hb); have n3_ := Aside0.mk (Kd.R_lower (Kd.R_new' (Kd.R_new' (Kd.R_new' ho0 (Kd.R_lt (B.kr0 (B.rs4 HO261 BK271)))) (Kd.R_lt (B.kr0 (B.rs4 HO264 BK271)))) (Kd.R_lt (B.kr0 (B.rs4 HO270 BK271)))) (below_size (B.bl HB))); have n4_ := Aside0.mk (blk_below (B.kb0 (B.bf4 BK254 NB254_271)) hb); have n5_ := Aside0.mk (blk_below (g := gb271) (o := .cells #[.int .i64 t265, .int .i64 t266, .int .i64 t267, .slice Ao32 t268.length co32] 27 (0, 0)) (B.kb0 (B.bp4 BK271)) hb); have n6_ := Aside0.mk (below_step (B.bl HB) hb); clear HO261 HO264 HO270 BK254 BK271 HB; have HO261 := n0_; have HO264 := n1_; have HO270 := n2_; have HO274 := n3_; have BK254 := n4_; have BK271 := n5_; have HB := n6_; clear n0_ n1_ n2_ n3_ n4_ n5_ n6_; (try clear hb); (try clear hb2); (try clear hk); (try clear hi); (try clear ho0); obtain ⟨Ao34, co34, eo34⟩ := Kd.R_slice HO274.out; subst eo34; obtain ⟨Ao35, co35, eo35⟩ := Kd.R_slice HO264.out; subst eo35) | ((with_reducible refine gate_callee (f := 19) rfl ?_); refine goesL_ (some 33) rfl rfl Try.func19 (by kernel_rfl) rfl #[.slice Ao34 t272.length co34, .slice Ao35 t262.length co35] rfl B.am ?_; (with_reducible refine (laws_eqIntS.calls k _ _ t272 _ _ t262 true _ ?side1 ?side2 ?side3 ?side4 A13.out).mono ?_); (case side1 => exact B.kc ((Kd.R_reads' HO274.out).2.2)); (case side2 => exact (Kd.R_reads' HO274.out).2.1); (case side3 => exact B.kc ((Kd.R_reads' HO264.out).2.2)); (case side4 => exact (Kd.R_reads' HO264.out).2.1); rintro e w' ⟨rfl, ⟨nd, rfl⟩⟩; refine ⟨_, rfl, ?_⟩))
      (try (rw [drewN_self w33]; generalize hq_ : World.drewN w33 _ = w33; (first | have n0_ := Aside0.mk (Kd.R_at hq_ HO261.out) | have n0_ : Aside0 (Kd.R (Kd.int .i64) 3 w33 w.heap.size (fun k_ => some k_ ≠ (.slice Ao35 t262.length co35 : Value).ownBlock ∧ some k_ ≠ (.slice Ao32 t268.length co32 : Value).ownBlock ∧ some k_ ≠ (.slice Ao34 t272.length co34 : Value).ownBlock) (.slice Ao25 t259.length co25) t259) := ⟨by rw [← hq_]; exact (B.kr0 (Kd.R_mono HO261.out (fun _ hk => ⟨hk.1.1.2, ⟨hk.1.2, hk.2⟩⟩)))⟩); (first | have n1_ := Aside0.mk (Kd.R_at hq_ HO264.out) | have n1_ : Aside0 (Kd.R (Kd.int .i64) 3 w33 w.heap.size (fun k_ => some k_ ≠ (.slice Ao25 t259.length co25 : Value).ownBlock ∧ some k_ ≠ (.slice Ao32 t268.length co32 : Value).ownBlock ∧ some k_ ≠ (.slice Ao34 t272.length co34 : Value).ownBlock) (.slice Ao35 t262.length co35) t262) := ⟨by rw [← hq_]; exact (B.kr0 (Kd.R_mono HO264.out (fun _ hk => ⟨hk.1.1.2, ⟨hk.1.2, hk.2⟩⟩)))⟩); (first | have n2_ := Aside0.mk (Kd.R_at hq_ HO270.out) | have n2_ : Aside0 (Kd.R (Kd.int .i64) 3 w33 w.heap.size (fun k_ => some k_ ≠ (.slice Ao25 t259.length co25 : Value).ownBlock ∧ some k_ ≠ (.slice Ao35 t262.length co35 : Value).ownBlock ∧ some k_ ≠ (.slice Ao34 t272.length co34 : Value).ownBlock) (.slice Ao32 t268.length co32) t268) := ⟨by rw [← hq_]; exact (B.kr0 (Kd.R_mono HO270.out (fun _ hk => ⟨hk.1.1.2, ⟨hk.1.2, hk.2⟩⟩)))⟩); (first | have n3_ := Aside0.mk (Kd.R_at hq_ HO274.out) | have n3_ : Aside0 (Kd.R (Kd.int .i64) 3 w33 w.heap.size (fun k_ => some k_ ≠ (.slice Ao25 t259.length co25 : Value).ownBlock ∧ some k_ ≠ (.slice Ao35 t262.length co35 : Value).ownBlock ∧ some k_ ≠ (.slice Ao32 t268.length co32 : Value).ownBlock) (.slice Ao34 t272.length co34) t272) := ⟨by rw [← hq_]; exact (B.kr0 (Kd.R_mono HO274.out (fun _ hk => ⟨hk.1.1.2, ⟨hk.1.2, hk.2⟩⟩)))⟩); have n4_ : Aside0 (w33.heap[gb254]? = some (.cells #[.int .i64 a0_0, .int .i64 a0_1, .int .i64 a0_2, .slice A0_3 l0_3.length c0_3] 24 (0, 0))) := ⟨by rw [← hq_]; exact (B.kb BK254)⟩; have n5_ : Aside0 (w33.heap[gb271]? = some (.cells #[.int .i64 t265, .int .i64 t266, .int .i64 t267, .slice Ao32 t268.length co32] 27 (0, 0))) := ⟨by rw [← hq_]; exact (B.kb BK271)⟩; have n6_ : Aside0 (Below w.heap.size w w33) := ⟨by rw [← hq_]; exact (B.bl HB)⟩; clear HO261 HO264 HO270 HO274 BK254 BK271 HB hq_; have HO261 := n0_; have HO264 := n1_; have HO270 := n2_; have HO274 := n3_; have BK254 := n4_; have BK271 := n5_; have HB := n6_; clear n0_ n1_ n2_ n3_ n4_ n5_ n6_))
      have n0_ := Aside0.mk (Kd.R_drew HO261.out)
      have n1_ := Aside0.mk (Kd.R_drew HO264.out)
      have n2_ := Aside0.mk (Kd.R_drew HO270.out)
      have n3_ := Aside0.mk (Kd.R_drew HO274.out)
      have n4_ := Aside0.mk (blk_drew BK254.out)
      have n5_ := Aside0.mk (blk_drew BK271.out)
      have n6_ := Aside0.mk (below_drew1 HB.out)
      clear HO261 HO264 HO270 HO274 BK254 BK271 HB
      have HO261 := n0_
      have HO264 := n1_
      have HO270 := n2_
      have HO274 := n3_
      have BK254 := n4_
      have BK271 := n5_
      have HB := n6_
      clear n0_ n1_ n2_ n3_ n4_ n5_ n6_
      refine start_ (n := 5) (S := fun w' => w'.cell? ⟨gb271, 0, none⟩ = some (.int .i64 t265) ∧ w'.cell? ⟨gb271, 1, none⟩ = some (.int .i64 t266) ∧ w'.cell? ⟨gb271, 2, none⟩ = some (.int .i64 t267) ∧ w'.cell? ⟨gb271, 3, none⟩ = some (.slice Ao32 t268.length co32) ∧ w'.cell? ⟨gb254, 0, none⟩ = some (.int .i64 a0_0) ∧ w'.cell? ⟨gb254, 1, none⟩ = some (.int .i64 a0_1) ∧ w'.cell? ⟨gb254, 2, none⟩ = some (.int .i64 a0_2) ∧ w'.cell? ⟨gb254, 3, none⟩ = some (.slice A0_3 l0_3.length c0_3)) (ds := []) #[false, false, false, false, false] (by kernel_rfl) rfl rfl ⟨B.bc BK271 0, B.bc BK271 1, B.bc BK271 2, B.bc BK271 3, B.bc BK254 0, B.bc BK254 1, B.bc BK254 2, B.bc BK254 3⟩ (fun hHeld => ?_)
      generalize w33.drew = w36 at HO261 HO264 HO270 HO274 BK254 BK271 HB hHeld ⊢
      refine take_ (i := 0) (N := some 35) (v := ?_) (a' := ?_) #[true, false, false, false, false] rfl rfl (by kernel_rfl) (fun _ _ _ h => h) (Or.inl ⟨by rfl, ?_⟩) hHeld ?_ ?_
      rotate_left
      · rintro w' ⟨s0, s1, s2, s3, s4, s5, s6, s7⟩
        go_simp
        with_reducible rfl
      rotate_left
      · simp only [Act.put, List.setIfInBounds_toArray, List.set_cons_zero, List.set_cons_succ, i64_w, i32_w]
        rfl
      refine take_ (i := 1) (N := some 36) (v := ?_) (a' := ?_) #[true, true, false, false, false] rfl rfl (by kernel_rfl) (fun _ _ _ h => h) (Or.inl ⟨by rfl, ?_⟩) hHeld ?_ ?_
      rotate_left
      · rintro w' ⟨s0, s1, s2, s3, s4, s5, s6, s7⟩
        go_simp
        with_reducible rfl
      rotate_left
      · simp only [Act.put, List.setIfInBounds_toArray, List.set_cons_zero, List.set_cons_succ, i64_w, i32_w]
        rfl
      refine one_ (i := 2) (N := some 37) #[true, true, true, false, false] rfl rfl (by kernel_rfl) (by decide) (fun K hK => ?_)
      refine goes_ Try.func13 (by kernel_rfl) rfl #[.agg #[.int .i64 a0_0, .int .i64 a0_1, .int .i64 a0_2, .slice A0_3 l0_3.length c0_3]] (by rfl) rfl rfl B.am ?_
      with_reducible refine (laws_toImage.calls k a0_0 a0_1 a0_2 _ _ l0_3 t276 t277 t278 t279 _ ?side1 ?side2 A15.out).mono ?_
      (case side1 => exact B.kc (Kd.C_below HR0_3.out HB.out))
      (case side2 => exact HC0_3.out)
      rintro e w37 ⟨v280, rfl, ho0, hb⟩
      refine ⟨_, rfl, ?_⟩
      have n0_ := Aside0.mk (Kd.R_elder' (B.kr HO261) (Kd.R_base ho0) hb)
      have n1_ := Aside0.mk (Kd.R_elder' (B.kr HO264) (Kd.R_base ho0) hb)
      have n2_ := Aside0.mk (Kd.R_elder' (B.kr HO270) (Kd.R_base ho0) hb)
      have n3_ := Aside0.mk (Kd.R_elder' (B.kr HO274) (Kd.R_base ho0) hb)
      have n4_ := Aside0.mk (Kd.R_lower (Kd.R_new' (Kd.R_new' (Kd.R_new' (Kd.R_new' ho0 (Kd.R_lt (B.kr HO261))) (Kd.R_lt (B.kr HO264))) (Kd.R_lt (B.kr HO270))) (Kd.R_lt (B.kr HO274))) (below_size (B.bl HB)))
      have n5_ := Aside0.mk (blk_below (B.kb BK254) hb)
      have n6_ := Aside0.mk (blk_below (B.kb BK271) hb)
      have n7_ := Aside0.mk (below_step (B.bl HB) hb)
      clear HO261 HO264 HO270 HO274 BK254 BK271 HB
      have HO261 := n0_
      have HO264 := n1_
      have HO270 := n2_
      have HO274 := n3_
      have HO281 := n4_
      have BK254 := n5_
      have BK271 := n6_
      have HB := n7_
      clear n0_ n1_ n2_ n3_ n4_ n5_ n6_ n7_
      (try clear hb)
      (try clear hb2)
      (try clear hk)
      (try clear hi)
      (try clear ho0)
      obtain ⟨Ao38, co38, eo38⟩ := Kd.R_slice HO281.out
      (first | subst eo38 | (injection eo38 with f1_ f2_ f3_; have f4_ := f1_.symm; have f5_ := f3_.symm; clear f1_ f2_ f3_; subst f4_; subst f5_))
      refine hK.out _ _ ⟨B.bc BK271 0, B.bc BK271 1, B.bc BK271 2, B.bc BK271 3, B.bc BK254 0, B.bc BK254 1, B.bc BK254 2, B.bc BK254 3⟩ (fun hHeld => ?_)
      clear hK K
      refine norm_ (a' := ?_) ?_ ?_
      rotate_left
      · show Act.put _ (some 37) _ = _
        simp only [Act.put, List.setIfInBounds_toArray, List.set_cons_zero, List.set_cons_succ, i64_w, i32_w]
        rfl
      refine one_ (i := 3) (N := some 38) #[true, true, true, true, false] rfl rfl (by kernel_rfl) (by decide) (fun K hK => ?_)
      refine goes_ Try.func15 (by kernel_rfl) rfl #[.agg #[.int .i64 t265, .int .i64 t266, .int .i64 t267, .slice Ao32 t268.length co32], .agg #[.int .i64 t276, .int .i64 t277, .int .i64 t278, .slice Ao38 t279.length co38]] (by rfl) rfl rfl B.am ?_
      with_reducible refine (laws_eqImage.calls k t265 t266 t267 _ _ t268 t276 t277 t278 _ _ t279 true _ ?side1 ?side2 ?side3 ?side4 A16.out).mono ?_
      (case side1 => exact B.kc ((Kd.R_reads' HO270.out).2.2))
      (case side2 => exact (Kd.R_reads' HO270.out).2.1)
      (case side3 => exact B.kc ((Kd.R_reads' HO281.out).2.2))
      (case side4 => exact (Kd.R_reads' HO281.out).2.1)
      rintro e w39 ⟨rfl, hb⟩
      refine ⟨_, rfl, ?_⟩
      have n0_ := Aside0.mk (Kd.R_below (B.kr HO261) hb)
      have n1_ := Aside0.mk (Kd.R_below (B.kr HO264) hb)
      have n2_ := Aside0.mk (Kd.R_below (B.kr HO270) hb)
      have n3_ := Aside0.mk (Kd.R_below (B.kr HO274) hb)
      have n4_ := Aside0.mk (Kd.R_below (B.kr HO281) hb)
      have n5_ := Aside0.mk (blk_below (B.kb BK254) hb)
      have n6_ := Aside0.mk (blk_below (B.kb BK271) hb)
      have n7_ := Aside0.mk (below_step (B.bl HB) hb)
      clear HO261 HO264 HO270 HO274 HO281 BK254 BK271 HB
      have HO261 := n0_
      have HO264 := n1_
      have HO270 := n2_
      have HO274 := n3_
      have HO281 := n4_
      have BK254 := n5_
      have BK271 := n6_
      have HB := n7_
      clear n0_ n1_ n2_ n3_ n4_ n5_ n6_ n7_
      (try clear hb)
      (try clear hb2)
      (try clear hk)
      (try clear hi)
      refine hK.out _ _ ⟨B.bc BK271 0, B.bc BK271 1, B.bc BK271 2, B.bc BK271 3, B.bc BK254 0, B.bc BK254 1, B.bc BK254 2, B.bc BK254 3⟩ (fun hHeld => ?_)
      clear hK K
      refine norm_ (a' := ?_) ?_ ?_
      rotate_left
      · show Act.put _ (some 38) _ = _
        simp only [Act.put, List.setIfInBounds_toArray, List.set_cons_zero, List.set_cons_succ, i64_w, i32_w]
        rfl
      refine pure_ (i := 4) (N := some 39) (v := ?_) (a' := ?_) #[true, true, true, true, true] rfl rfl (by kernel_rfl) (fun _ _ _ h => h) (Or.inl ⟨by rfl, ?_⟩) ?_ ?_
      rotate_left
      · intro w'
        go_simp
        with_reducible rfl
      rotate_left
      · simp only [Act.put, List.setIfInBounds_toArray, List.set_cons_zero, List.set_cons_succ, i64_w, i32_w]
        rfl
      refine done_ (by kernel_rfl) ?_
      have hcz40_0 : w39.cell? ⟨gb271, 0, none⟩ = some (.int .i64 t265) := B.bc BK271 0
      have hcz40_1 : w39.cell? ⟨gb271, 1, none⟩ = some (.int .i64 t266) := B.bc BK271 1
      have hcz40_2 : w39.cell? ⟨gb271, 2, none⟩ = some (.int .i64 t267) := B.bc BK271 2
      have hcz40_3 : w39.cell? ⟨gb271, 3, none⟩ = some (.slice Ao32 t268.length co32) := B.bc BK271 3
      have hfz40_0 := blk_frozen BK271.out 0
      have hfz40_1 := blk_frozen BK271.out 1
      have hfz40_2 := blk_frozen BK271.out 2
      have hfz40_3 := blk_frozen BK271.out 3
      go_upto_region 14 with (first | ((with_reducible refine gate_callee (f := 21) rfl ?_); refine goesL_ (some 42) rfl rfl Try.func21 (by kernel_rfl) rfl #[.agg #[.int .i64 t265, .int .i64 t266, .int .i64 t267, .slice Ao32 t268.length co32], .int .i64 1] rfl B.am ?_; (with_reducible refine (laws_markImage.calls k t265 t266 t267 (fun k_ => some k_ = (.slice Ao32 t268.length co32 : Value).ownBlock) (.slice Ao32 t268.length co32) t268 1 t283 t284 w _ ?side1 ?side2 A18.out).mono ?_); (case side1 => exact B.bl HB); (case side2 => exact Kd.R_tight rfl HO270.out); rintro e w41 ⟨rfl, hy0, hb, hkp⟩; refine ⟨_, rfl, ?_⟩; have n0_ := Aside0.mk (blk_kept (B.kb BK254) hkp (fun hs_ => (fun e_ => (Kd.R_ne HO270.out BK254.out (by decide)) e_) hs_)); have n1_ := Aside0.mk (Kd.R_mono (ok' := fun k_ => some k_ ≠ (.slice Ao35 t262.length co35 : Value).ownBlock ∧ some k_ ≠ (.slice Ao32 t268.length co32 : Value).ownBlock ∧ some k_ ≠ (.slice Ao34 t272.length co34 : Value).ownBlock ∧ some k_ ≠ (.slice Ao38 t279.length co38 : Value).ownBlock) (Kd.R_keptB (HO261.out) hkp (fun k_ hk_ hs_ => (hk_.1.1.2) hs_)) (fun k_ hk_ => ⟨hk_.1.1.1.1.2, hk_.1.1.1.2, hk_.1.1.2, hk_.1.2⟩)); have n2_ := Aside0.mk (Kd.R_mono (ok' := fun k_ => some k_ ≠ (.slice Ao25 t259.length co25 : Value).ownBlock ∧ some k_ ≠ (.slice Ao32 t268.length co32 : Value).ownBlock ∧ some k_ ≠ (.slice Ao34 t272.length co34 : Value).ownBlock ∧ some k_ ≠ (.slice Ao38 t279.length co38 : Value).ownBlock) (Kd.R_keptB (HO264.out) hkp (fun k_ hk_ hs_ => (hk_.1.1.2) hs_)) (fun k_ hk_ => ⟨hk_.1.1.1.1.2, hk_.1.1.1.2, hk_.1.1.2, hk_.1.2⟩)); have n3_ := Aside0.mk (Kd.R_reok rfl hy0 (fun k_ e_ => HO270.out.1 k_ e_)); have n4_ := Aside0.mk (blk_kept (B.kb BK271) hkp (fun hs_ => (fun e_ => (Kd.R_ne HO270.out BK271.out (by decide)) e_) hs_)); have n5_ := Aside0.mk (Kd.R_mono (ok' := fun k_ => some k_ ≠ (.slice Ao25 t259.length co25 : Value).ownBlock ∧ some k_ ≠ (.slice Ao35 t262.length co35 : Value).ownBlock ∧ some k_ ≠ (.slice Ao32 t268.length co32 : Value).ownBlock ∧ some k_ ≠ (.slice Ao38 t279.length co38 : Value).ownBlock) (Kd.R_keptB (HO274.out) hkp (fun k_ hk_ hs_ => (hk_.1.2) hs_)) (fun k_ hk_ => ⟨hk_.1.1.1.1.2, hk_.1.1.1.2, hk_.1.1.2, hk_.1.2⟩)); have n6_ := Aside0.mk (Kd.R_mono (ok' := fun k_ => some k_ ≠ (.slice Ao25 t259.length co25 : Value).ownBlock ∧ some k_ ≠ (.slice Ao35 t262.length co35 : Value).ownBlock ∧ some k_ ≠ (.slice Ao32 t268.length co32 : Value).ownBlock ∧ some k_ ≠ (.slice Ao34 t272.length co34 : Value).ownBlock) (Kd.R_keptB (HO281.out) hkp (fun k_ hk_ hs_ => (hk_.1.2) hs_)) (fun k_ hk_ => ⟨hk_.1.1.1.1.2, hk_.1.1.1.2, hk_.1.1.2, hk_.1.2⟩)); have n7_ := Aside0.mk (hb); clear BK254 HO261 HO264 HO270 BK271 HO274 HO281 HB; have BK254 := n0_; have HO261 := n1_; have HO264 := n2_; have HO270 := n3_; have BK271 := n4_; have HO274 := n5_; have HO281 := n6_; have HB := n7_; clear n0_ n1_ n2_ n3_ n4_ n5_ n6_ n7_; (try clear hb); (try clear hkp); (try clear hy0)))
      (try simp only [Act.put, List.setIfInBounds_toArray, List.set_cons_zero, List.set_cons_succ])
      go_cut [50] (fun v50 wc => ∃ (kq : Nat) (x50_18 : Bool), v50 = .bool x50_18 ∧ Aside0 (laws_FnExactPixelAt.j0 kq a1 a2 t262 t272 x50_18 a0_0 a0_1 a0_2 l0_3 = some r) ∧ Aside0 (kq ≤ k) ∧ Aside0 (Kd.R (Kd.int .i64) 3 wc w.heap.size (fun k_ => some k_ ≠ ((.slice Ao34 t272.length co34) : Value).ownBlock ∧ some k_ ≠ ((.slice Ao32 t268.length co32) : Value).ownBlock) (.slice Ao35 t262.length co35) t262) ∧ Aside0 (Kd.R (Kd.int .i64) 3 wc w.heap.size (fun k_ => some k_ ≠ ((.slice Ao35 t262.length co35) : Value).ownBlock ∧ some k_ ≠ ((.slice Ao32 t268.length co32) : Value).ownBlock) (.slice Ao34 t272.length co34) t272) ∧ Aside0 (Kd.R (Kd.int .i64) 3 wc w.heap.size (fun k_ => some k_ ≠ ((.slice Ao35 t262.length co35) : Value).ownBlock ∧ some k_ ≠ ((.slice Ao34 t272.length co34) : Value).ownBlock) (.slice Ao32 t268.length co32) t284) ∧ Aside0 (wc.heap[gb254]? = some (.cells #[.int .i64 a0_0, .int .i64 a0_1, .int .i64 a0_2, (.slice A0_3 l0_3.length c0_3)] 24 (0, 0))) ∧ Aside0 (wc.heap[gb271]? = some (.cells #[.int .i64 t265, .int .i64 t266, .int .i64 t267, (.slice Ao32 t268.length co32)] 27 (0, 0))) ∧ Aside0 (Below w.heap.size w wc))
      case first =>
        have H := HC19.out
        clear HC19
        by_cases c42 : t283 < 0
        · rw [if_pos c42] at H
          have c42b0 : decide (t283 < 0) = true := decide_eq_true c42
          clear c42
          (first | rw [c42b0] | (simp only [i64_w, i32_w]; rw [c42b0]) | skip)
          exact absurd ht_.out (by revert H; cases k <;> intro H <;> simp [laws_FnExactPixelAt.j0] at H <;> (first | (subst H; decide) | simp [← H] | simp [H]))
        rw [if_neg c42] at H
        have c42b0 : decide (t283 < 0) = false := decide_eq_false c42
        clear c42
        (first | rw [c42b0] | (simp only [i64_w, i32_w]; rw [c42b0]) | skip)
        replace H := Option.bind_eq_some_iff.mp H
        obtain ⟨t285, A430, H⟩ := H
        replace H : (laws_FnExactPixelAt.j0 k a1 a2 t262 t272 (!t285) a0_0 a0_1 a0_2 l0_3) = some r := H
        have A43 := Aside0.mk A430
        clear A430
        have H' := Aside0.mk H
        clear H
        go_wp2_with (first | (go_at_call 19; (with_reducible refine (laws_eqIntS.calls k _ _ t272 _ _ t262 t285 _ ?side1 ?side2 ?side3 ?side4 A43.out).mono ?_); (case side1 => exact B.kc ((Kd.R_reads' HO274.out).2.2)); (case side2 => exact (Kd.R_reads' HO274.out).2.1); (case side3 => exact B.kc ((Kd.R_reads' HO264.out).2.2)); (case side4 => exact (Kd.R_reads' HO264.out).2.1); rintro e w' ⟨rfl, ⟨nd, rfl⟩⟩))
        go_meet
        case rel => exact ⟨_, (!t285), (by first | rfl | (simp; done) | (simp [*]; done)), H', ⟨by first | omega | exact Nat.le_refl _⟩, ⟨B.kr0 (Kd.R_mono HO264.out (fun _ hk => ⟨hk.2.2.1, hk.2.1⟩))⟩, ⟨B.kr0 (Kd.R_mono HO274.out (fun _ hk => ⟨hk.2.1, hk.2.2.1⟩))⟩, ⟨B.kr0 (Kd.R_mono HO270.out (fun _ hk => ⟨hk.1.1.2, hk.1.2⟩))⟩, ⟨B.kb BK254⟩, ⟨B.kb BK271⟩, ⟨B.bl HB⟩⟩
      case rest =>
        clear HC19
        try clear c1
        try clear c2
        try clear p2
        try clear c3
        try clear c4
        try clear c5
        try clear c5b0
        try clear c11
        try clear c13
        try clear c14
        try clear c15
        try clear c17
        try clear c19
        try clear c21
        try clear c23
        try clear c24
        try clear c30
        try clear c42
        try clear c42b0
        try clear hcz21_0
        try clear hcz21_1
        try clear hcz21_2
        try clear hcz21_3
        try clear hcz23_0
        try clear hcz23_1
        try clear hcz23_2
        try clear hcz23_3
        try clear hcz27_0
        try clear hcz27_1
        try clear hcz27_2
        try clear hcz27_3
        try clear hcz31_0
        try clear hcz31_1
        try clear hcz31_2
        try clear hcz31_3
        try clear hcz40_0
        try clear hcz40_1
        try clear hcz40_2
        try clear hcz40_3
        try clear hcz7_0
        try clear hcz7_1
        try clear hcz7_2
        try clear hcz7_3
        try clear hfz21_0
        try clear hfz21_1
        try clear hfz21_2
        try clear hfz21_3
        try clear hfz23_0
        try clear hfz23_1
        try clear hfz23_2
        try clear hfz23_3
        try clear hfz27_0
        try clear hfz27_1
        try clear hfz27_2
        try clear hfz27_3
        try clear hfz31_0
        try clear hfz31_1
        try clear hfz31_2
        try clear hfz31_3
        try clear hfz40_0
        try clear hfz40_1
        try clear hfz40_2
        try clear hfz40_3
        try clear hfz7_0
        try clear hfz7_1
        try clear hfz7_2
        try clear hfz7_3
        obtain ⟨kq, x50_18, rfl, HA, HJ18, HO_8, HO_10, HO_272003, BK254, BK271, HB⟩ := hcut
        have hl272003_18 := (Kd.R_reads' HO_272003.out).1
        rw [hl272003_18] at HO_272003
        (try simp only [hl272003_18])
        (try simp only [hl272003_18] at BK254)
        (try simp only [hl272003_18] at BK271)
        (try simp only [hl272003_18] at HO_8)
        (try simp only [hl272003_18] at HO_10)
        cases kq with
        | zero => exact absurd HA.out (by simp [laws_FnExactPixelAt.j0])
        | succ kj18 =>
          have H := HA.out
          clear HA
          simp only [laws_FnExactPixelAt.j0] at H
          by_cases c44 : x50_18 = true
          · subst c44
            have H1 : (some false) = some r := by rw [if_pos rfl] at H; exact H
            clear H
            have H := H1
            clear H1
            obtain rfl := Option.some.inj H
            exact absurd ht_.out (by decide)
          replace c44 := Bool.eq_false_iff.mpr c44
          subst c44
          have H1 : ((laws_markIntS.f kj18 t272 1).bind fun bt286 => ((laws_heldIntS.f kj18 bt286.2 1).bind fun t288 => (if t288 < 0 then (some false) else (if t288 = bt286.1 then ((laws_toImage.f kj18 a0_0 a0_1 a0_2 l0_3).bind fun bt289 => ((impl_PixelAt.f bt289.1 bt289.2.1 bt289.2.2.1 bt289.2.2.2 a1 a2).bind fun t295 => ((laws_eqIntS.f kj18 t295 t262).bind fun t298 => (if t298 = true then ((laws_heldIntS.f kj18 bt286.2 1).bind fun t299 => (if t299 < 0 then (some false) else (if t299 = bt286.1 then (some true) else (some false)))) else (some false))))) else (some false))))) = some r := by rw [if_neg (show ¬ (false = true) by decide)] at H; exact H
          clear H
          have H := H1
          clear H1
          replace H := Option.bind_eq_some_iff.mp H
          obtain ⟨⟨t286, t287⟩, A450, H⟩ := H
          replace H : ((laws_heldIntS.f kj18 t287 1).bind fun t288 => (if t288 < 0 then (some false) else (if t288 = t286 then ((laws_toImage.f kj18 a0_0 a0_1 a0_2 l0_3).bind fun bt289 => ((impl_PixelAt.f bt289.1 bt289.2.1 bt289.2.2.1 bt289.2.2.2 a1 a2).bind fun t295 => ((laws_eqIntS.f kj18 t295 t262).bind fun t298 => (if t298 = true then ((laws_heldIntS.f kj18 t287 1).bind fun t299 => (if t299 < 0 then (some false) else (if t299 = t286 then (some true) else (some false)))) else (some false))))) else (some false)))) = some r := H
          have A45 := Aside0.mk A450
          clear A450
          replace H := Option.bind_eq_some_iff.mp H
          obtain ⟨t288, A460, H⟩ := H
          replace H : (if t288 < 0 then (some false) else (if t288 = t286 then ((laws_toImage.f kj18 a0_0 a0_1 a0_2 l0_3).bind fun bt289 => ((impl_PixelAt.f bt289.1 bt289.2.1 bt289.2.2.1 bt289.2.2.2 a1 a2).bind fun t295 => ((laws_eqIntS.f kj18 t295 t262).bind fun t298 => (if t298 = true then ((laws_heldIntS.f kj18 t287 1).bind fun t299 => (if t299 < 0 then (some false) else (if t299 = t286 then (some true) else (some false)))) else (some false))))) else (some false))) = some r := H
          have A46 := Aside0.mk A460
          clear A460
          by_cases c47 : t288 < 0
          · rw [if_pos c47] at H
            have c47b0 : decide (t288 < 0) = true := decide_eq_true c47
            clear c47
            obtain rfl := Option.some.inj H
            exact absurd ht_.out (by decide)
          rw [if_neg c47] at H
          have c47b0 : decide (t288 < 0) = false := decide_eq_false c47
          clear c47
          by_cases c48 : t288 = t286
          · rw [if_pos c48] at H
            have c48b0 : (t288 == t286) = true := beq_iff_eq.mpr c48
            have c48b1 : (t288 != t286) = false := bne_eq_false_iff_eq.mpr c48
            clear c48
            replace H := Option.bind_eq_some_iff.mp H
            obtain ⟨⟨t289, t290, t291, t292⟩, A490, H⟩ := H
            replace H : ((impl_PixelAt.f t289 t290 t291 t292 a1 a2).bind fun t295 => ((laws_eqIntS.f kj18 t295 t262).bind fun t298 => (if t298 = true then ((laws_heldIntS.f kj18 t287 1).bind fun t299 => (if t299 < 0 then (some false) else (if t299 = t286 then (some true) else (some false)))) else (some false)))) = some r := H
            have A49 := Aside0.mk A490
            clear A490
            replace H := Option.bind_eq_some_iff.mp H
            obtain ⟨t295, A500, H⟩ := H
            replace H : ((laws_eqIntS.f kj18 t295 t262).bind fun t298 => (if t298 = true then ((laws_heldIntS.f kj18 t287 1).bind fun t299 => (if t299 < 0 then (some false) else (if t299 = t286 then (some true) else (some false)))) else (some false))) = some r := H
            have A50 := Aside0.mk A500
            clear A500
            replace H := Option.bind_eq_some_iff.mp H
            obtain ⟨t298, A510, H⟩ := H
            replace H : (if t298 = true then ((laws_heldIntS.f kj18 t287 1).bind fun t299 => (if t299 < 0 then (some false) else (if t299 = t286 then (some true) else (some false)))) else (some false)) = some r := H
            have A51 := Aside0.mk A510
            clear A510
            by_cases c52 : t298 = true
            · subst c52
              have H1 : ((laws_heldIntS.f kj18 t287 1).bind fun t299 => (if t299 < 0 then (some false) else (if t299 = t286 then (some true) else (some false)))) = some r := by rw [if_pos rfl] at H; exact H
              clear H
              have H := H1
              clear H1
              replace H := Option.bind_eq_some_iff.mp H
              obtain ⟨t299, A530, H⟩ := H
              replace H : (if t299 < 0 then (some false) else (if t299 = t286 then (some true) else (some false))) = some r := H
              have A53 := Aside0.mk A530
              clear A530
              by_cases c54 : t299 < 0
              · rw [if_pos c54] at H
                have c54b0 : decide (t299 < 0) = true := decide_eq_true c54
                clear c54
                obtain rfl := Option.some.inj H
                exact absurd ht_.out (by decide)
              rw [if_neg c54] at H
              have c54b0 : decide (t299 < 0) = false := decide_eq_false c54
              clear c54
              by_cases c55 : t299 = t286
              · rw [if_pos c55] at H
                have c55b0 : (t299 == t286) = true := beq_iff_eq.mpr c55
                have c55b1 : (t299 != t286) = false := bne_eq_false_iff_eq.mpr c55
                clear c55
                obtain rfl := Option.some.inj H
                simp only [Option.some.injEq, Prod.mk.injEq] at H
                obtain ⟨rfl⟩ := H
                go_wp2_with (first | ((with_reducible refine gate_callee (f := 20) rfl ?_); refine goesL_ (some 53) rfl rfl Try.func20 (by kernel_rfl) rfl #[.slice Ao34 t272.length co34, .int .i64 1] rfl B.am ?_; (with_reducible refine (laws_markIntS.calls kj18 (fun k_ => some k_ = (.slice Ao34 t272.length co34 : Value).ownBlock) (.slice Ao34 t272.length co34) t272 1 t286 t287 w _ ?side1 ?side2 A45.out).mono ?_); (case side1 => exact B.bl HB); (case side2 => exact Kd.R_tight rfl HO_10.out); rintro e w56 ⟨rfl, hy0, hb, hkp⟩; refine ⟨_, rfl, ?_⟩; have n0_ := Aside0.mk (Kd.R_mono (ok' := fun k_ => some k_ ≠ (.slice Ao34 t272.length co34 : Value).ownBlock ∧ some k_ ≠ (.slice Ao32 t284.length co32 : Value).ownBlock) (Kd.R_keptB (HO_8.out) hkp (fun k_ hk_ hs_ => (hk_.1) hs_)) (fun k_ hk_ => ⟨hk_.1.1, hk_.1.2⟩)); have n1_ := Aside0.mk (Kd.R_reok rfl hy0 (fun k_ e_ => HO_10.out.1 k_ e_)); have n2_ := Aside0.mk (Kd.R_mono (ok' := fun k_ => some k_ ≠ (.slice Ao35 t262.length co35 : Value).ownBlock ∧ some k_ ≠ (.slice Ao34 t272.length co34 : Value).ownBlock) (Kd.R_keptB (HO_272003.out) hkp (fun k_ hk_ hs_ => (hk_.2) hs_)) (fun k_ hk_ => ⟨hk_.1.1, hk_.1.2⟩)); have n3_ := Aside0.mk (blk_kept (B.kb BK254) hkp (fun hs_ => (fun e_ => (Kd.R_ne HO_10.out BK254.out (by decide)) e_) hs_)); have n4_ := Aside0.mk (blk_kept (B.kb BK271) hkp (fun hs_ => (fun e_ => (Kd.R_ne HO_10.out BK271.out (by decide)) e_) hs_)); have n5_ := Aside0.mk (hb); clear HO_8 HO_10 HO_272003 BK254 BK271 HB; have HO_8 := n0_; have HO_10 := n1_; have HO_272003 := n2_; have BK254 := n3_; have BK271 := n4_; have HB := n5_; clear n0_ n1_ n2_ n3_ n4_ n5_; (try clear hb); (try clear hkp); (try clear hy0)) | ((with_reducible refine gate_callee (f := 25) rfl ?_); refine goesL_ (some 56) rfl rfl Try.func25 (by kernel_rfl) rfl #[.slice Ao34 t287.length co34, .int .i64 1] rfl (by (try simp only [List.map_toArray, List.map_cons, List.map_nil]); first | done | (rw [show t287.length = t272.length from (Kd.R_reads' HO_10.out).1.symm] <;> rfl) | rfl | (simp only [List.length_drop, List.length_take]; rfl)) ?_; (with_reducible refine (laws_heldIntS.calls kj18 _ _ t287 1 t288 _ ?side1 ?side2 A46.out).mono ?_); (case side1 => exact B.kc ((Kd.R_reads' HO_10.out).2.2)); (case side2 => rw [show t287.length = t272.length from (Kd.R_reads' HO_10.out).1.symm]; exact (Kd.R_reads' HO_10.out).2.1); rintro e w' ⟨rfl, ⟨nd, rfl⟩⟩; refine ⟨_, rfl, ?_⟩; have hnb57 := NB254_271.out; have hnc57 := NB271_254.out; have hcz58_0 : w56.cell? ⟨gb254, 0, none⟩ = some (.int .i64 a0_0) := B.bc BK254 0; have hcz58_1 : w56.cell? ⟨gb254, 1, none⟩ = some (.int .i64 a0_1) := B.bc BK254 1; have hcz58_2 : w56.cell? ⟨gb254, 2, none⟩ = some (.int .i64 a0_2) := B.bc BK254 2; have hcz58_3 : w56.cell? ⟨gb254, 3, none⟩ = some (.slice A0_3 l0_3.length c0_3) := B.bc BK254 3; have hfz58_0 := blk_frozen BK254.out 0; have hfz58_1 := blk_frozen BK254.out 1; have hfz58_2 := blk_frozen BK254.out 2; have hfz58_3 := blk_frozen BK254.out 3) | ((with_reducible refine gate_callee (f := 13) rfl ?_); refine goesL_ (some 63) rfl rfl Try.func13 (by kernel_rfl) rfl #[.agg #[.int .i64 a0_0, .int .i64 a0_1, .int .i64 a0_2, .slice A0_3 l0_3.length c0_3]] rfl B.am ?_; (with_reducible refine (laws_toImage.calls kj18 a0_0 a0_1 a0_2 _ _ l0_3 t289 t290 t291 t292 _ ?side1 ?side2 A49.out).mono ?_); (case side1 => exact B.kc (Kd.C_below HR0_3.out (B.bl HB))); (case side2 => exact HC0_3.out); rintro e w59 ⟨v293, rfl, ho0, hb⟩; refine ⟨_, rfl, ?_⟩; have n0_ := Aside0.mk (Kd.R_elder' (B.kr HO_8) (Kd.R_base ho0) hb); have n1_ := Aside0.mk (Kd.R_elder' (B.kr HO_10) (Kd.R_base ho0) hb); have n2_ := Aside0.mk (Kd.R_elder' (B.kr HO_272003) (Kd.R_base ho0) hb); have n3_ := Aside0.mk (Kd.R_lower (Kd.R_new' (Kd.R_new' (Kd.R_new' ho0 (Kd.R_lt (B.kr HO_8))) (Kd.R_lt (B.kr HO_10))) (Kd.R_lt (B.kr HO_272003))) (below_size (B.bl HB))); have n4_ := Aside0.mk (blk_below (B.kb BK254) hb); have n5_ := Aside0.mk (blk_below (B.kb BK271) hb); have n6_ := Aside0.mk (below_step (B.bl HB) hb); clear HO_8 HO_10 HO_272003 BK254 BK271 HB; have HO_8 := n0_; have HO_10 := n1_; have HO_272003 := n2_; have HO294 := n3_; have BK254 := n4_; have BK271 := n5_; have HB := n6_; clear n0_ n1_ n2_ n3_ n4_ n5_ n6_; (try clear hb); (try clear hb2); (try clear hk); (try clear hi); (try clear ho0); obtain ⟨Ao60, co60, eo60⟩ := Kd.R_slice HO294.out; subst eo60) | ((with_reducible refine gate_callee (f := 24) rfl ?_); refine goesL_ (some 66) rfl rfl Try.func24 (by kernel_rfl) rfl #[.agg #[.int .i64 t289, .int .i64 t290, .int .i64 t291, .slice Ao60 t292.length co60], .int .i64 a1, .int .i64 a2] rfl B.am ?_; (with_reducible refine (impl_PixelAt.calls t289 t290 t291 _ _ t292 a1 a2 t295 _ ?side1 ?side2 A50.out).mono ?_); (case side1 => exact B.kc ((Kd.R_reads' HO294.out).2.2)); (case side2 => exact (Kd.R_reads' HO294.out).2.1); rintro e w61 ⟨v296, rfl, ho0, hb⟩; refine ⟨_, rfl, ?_⟩; have n0_ := Aside0.mk (Kd.R_elder' (B.kr HO_8) (Kd.R_base ho0) hb); have n1_ := Aside0.mk (Kd.R_elder' (B.kr HO_10) (Kd.R_base ho0) hb); have n2_ := Aside0.mk (Kd.R_elder' (B.kr HO_272003) (Kd.R_base ho0) hb); have n3_ := Aside0.mk (Kd.R_elder' (B.kr HO294) (Kd.R_base ho0) hb); have n4_ := Aside0.mk (Kd.R_lower (Kd.R_new' (Kd.R_new' (Kd.R_new' (Kd.R_new' ho0 (Kd.R_lt (B.kr HO_8))) (Kd.R_lt (B.kr HO_10))) (Kd.R_lt (B.kr HO_272003))) (Kd.R_lt (B.kr HO294))) (below_size (B.bl HB))); have n5_ := Aside0.mk (blk_below (B.kb BK254) hb); have n6_ := Aside0.mk (blk_below (B.kb BK271) hb); have n7_ := Aside0.mk (below_step (B.bl HB) hb); clear HO_8 HO_10 HO_272003 HO294 BK254 BK271 HB; have HO_8 := n0_; have HO_10 := n1_; have HO_272003 := n2_; have HO294 := n3_; have HO297 := n4_; have BK254 := n5_; have BK271 := n6_; have HB := n7_; clear n0_ n1_ n2_ n3_ n4_ n5_ n6_ n7_; (try clear hb); (try clear hb2); (try clear hk); (try clear hi); (try clear ho0); obtain ⟨Ao62, co62, eo62⟩ := Kd.R_slice HO297.out; subst eo62) | ((with_reducible refine gate_callee (f := 19) rfl ?_); refine goesL_ (some 69) rfl rfl Try.func19 (by kernel_rfl) rfl #[.slice Ao62 t295.length co62, .slice Ao35 t262.length co35] rfl B.am ?_; (with_reducible refine (laws_eqIntS.calls kj18 _ _ t295 _ _ t262 true _ ?side1 ?side2 ?side3 ?side4 A51.out).mono ?_); (case side1 => exact B.kc ((Kd.R_reads' HO297.out).2.2)); (case side2 => exact (Kd.R_reads' HO297.out).2.1); (case side3 => exact B.kc ((Kd.R_reads' HO_8.out).2.2)); (case side4 => exact (Kd.R_reads' HO_8.out).2.1); rintro e w' ⟨rfl, ⟨nd, rfl⟩⟩; refine ⟨_, rfl, ?_⟩) | ((with_reducible refine gate_callee (f := 25) rfl ?_); refine goesL_ (some 73) rfl rfl Try.func25 (by kernel_rfl) rfl #[.slice Ao34 t287.length co34, .int .i64 1] rfl (by (try simp only [List.map_toArray, List.map_cons, List.map_nil]); first | done | (rw [show t287.length = t272.length from (Kd.R_reads' HO_10.out).1.symm] <;> rfl) | rfl | (simp only [List.length_drop, List.length_take]; rfl)) ?_; (with_reducible refine (laws_heldIntS.calls kj18 _ _ t287 1 t299 _ ?side1 ?side2 A53.out).mono ?_); (case side1 => exact B.kc ((Kd.R_reads' HO_10.out).2.2)); (case side2 => rw [show t287.length = t272.length from (Kd.R_reads' HO_10.out).1.symm]; exact (Kd.R_reads' HO_10.out).2.1); rintro e w' ⟨rfl, ⟨nd, rfl⟩⟩; refine ⟨_, rfl, ?_⟩))
                go_ret
                exact ⟨by first | rfl | (simp [errW_none, errW_some] <;> rfl) | (simp [*, errW_none, errW_some] <;> rfl), B.bl HB⟩
              rw [if_neg c55] at H
              have c55b0 : (t299 == t286) = false := beq_eq_false_iff_ne.mpr c55
              have c55b1 : (t299 != t286) = true := bne_iff_ne.mpr c55
              obtain rfl := Option.some.inj H
              exact absurd ht_.out (by decide)
            replace c52 := Bool.eq_false_iff.mpr c52
            subst c52
            have H1 : (some false) = some r := by rw [if_neg (show ¬ (false = true) by decide)] at H; exact H
            clear H
            have H := H1
            clear H1
            obtain rfl := Option.some.inj H
            exact absurd ht_.out (by decide)
          rw [if_neg c48] at H
          have c48b0 : (t288 == t286) = false := beq_eq_false_iff_ne.mpr c48
          have c48b1 : (t288 != t286) = true := bne_iff_ne.mpr c48
          obtain rfl := Option.some.inj H
          exact absurd ht_.out (by decide)
    replace c17 := Bool.eq_false_iff.mpr c17
    subst c17
    have H1 : (some false) = some r := by rw [if_neg (show ¬ (false = true) by decide)] at H; exact H
    clear H
    have H := H1
    clear H1
    obtain rfl := Option.some.inj H
    exact absurd ht_.out (by decide)
  replace c14 := Bool.eq_false_iff.mpr c14
  subst c14
  have H1 : (some false) = some r := by rw [if_neg (show ¬ (false = true) by decide)] at H; exact H
  clear H
  have H := H1
  clear H1
  obtain rfl := Option.some.inj H
  exact absurd ht_.out (by decide)

end Go.Proofs.Ytegicfkcdmhjgaa.Q
