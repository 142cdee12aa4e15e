-- Written by a program of this session (the kit's printer, with hand-proved contracts for the functions that it does not take).
import Derived.Test.YtpadegboplcapaaQ0
import Derived.Test.YtpadegboplcapaaQ1
import Derived.Test.YtpadegboplcapaaQ2
import Derived.Test.YtpadegboplcapaaQ3
namespace Go.Proofs.Ytpadegboplcapaa.Q
open Go.RowKit Go.Proofs.YtpadegboplcapaaW.PrintWords Go.Proofs.YtpadegboplcapaaW.PrintLast Go.Proofs.YtpadegboplcapaaW.PrintMore
attribute [local go_sem] max2_int min2_int max_two min_two max_three min_three max_four min_four   -- for this text's walks alone
set_option linter.unusedVariables false
set_option linter.unusedSimpArgs false

/-! ### laws_FnExactPassData: function 6 -/
def laws_FnExactPassData.j0 : Nat → Int → List Int → List Int → Bool → Int → Int → Int → List Int → Option (Bool)
  | 0, _, _, _, _, _, _, _, _ => none
  | k + 1, x1, x6, x8, x46, x212000, x212001, x212002, x212003 => if x46 = true then (some false) else ((laws_markIntS.f k x8 1).bind fun bt243 => ((laws_heldIntS.f k bt243.2 1).bind fun t245 => (if t245 < 0 then (some false) else (if t245 = bt243.1 then ((laws_toImage.f k x212000 x212001 x212002 x212003).bind fun bt246 => ((impl_PassData.f k bt246.1 bt246.2.1 bt246.2.2.1 bt246.2.2.2 x1).bind fun t252 => ((laws_eqIntS.f k t252 x6).bind fun t255 => (if t255 = true then ((laws_heldIntS.f k bt243.2 1).bind fun t256 => (if t256 < 0 then (some false) else (if t256 = bt243.1 then (some true) else (some false)))) else (some false))))) else (some false)))))
def laws_FnExactPassData.f (k : Nat) (a0_0 : Int) (a0_1 : Int) (a0_2 : Int) (l0_3 : List Int) (a1 : Int) : Option (Bool) := (laws_szImage.f a0_0 a0_1 a0_2 l0_3 1048576).bind fun t212 => (if t212 < 0 then (some true) else ((laws_toImage.f k a0_0 a0_1 a0_2 l0_3).bind fun bt213 => ((spec_PassData.f k bt213.1 bt213.2.1 bt213.2.2.1 bt213.2.2.2 a1).bind fun t219 => ((laws_toImage.f k a0_0 a0_1 a0_2 l0_3).bind fun bt222 => ((impl_PassData.f k bt222.1 bt222.2.1 bt222.2.2.1 bt222.2.2.2 a1).bind fun t229 => ((laws_eqIntS.f k t229 t219).bind fun t232 => (if t232 = true then ((laws_toImage.f k a0_0 a0_1 a0_2 l0_3).bind fun bt233 => ((laws_eqImage.f k bt222.1 bt222.2.1 bt222.2.2.1 bt222.2.2.2 bt233.1 bt233.2.1 bt233.2.2.1 bt233.2.2.2).bind fun t239 => (if t239 = true then ((laws_markImage.f k bt222.1 bt222.2.1 bt222.2.2.1 bt222.2.2.2 1).bind fun bt240 => (if bt240.1 < 0 then (laws_FnExactPassData.j0 k a1 t219 t229 true a0_0 a0_1 a0_2 l0_3) else ((laws_eqIntS.f k t229 t219).bind fun t242 => (laws_FnExactPassData.j0 k a1 t219 t229 (!t242) a0_0 a0_1 a0_2 l0_3)))) else (some false)))) else (some false))))))))
theorem laws_FnExactPassData.mono_l : ∀ k, (∀ y0 y1 y2 y3 y4 y5 y6 y7, LeO (laws_FnExactPassData.j0 k y0 y1 y2 y3 y4 y5 y6 y7) (laws_FnExactPassData.j0 (k + 1) y0 y1 y2 y3 y4 y5 y6 y7))
  | 0 => fun _ _ _ _ _ _ _ _ r h => by simp [laws_FnExactPassData.j0] at h
  | k + 1 => by
    have ih0 := laws_FnExactPassData.mono_l k
    · intro y0 y1 y2 y3 y4 y5 y6 y7
      unfold laws_FnExactPassData.j0
      repeat' first
      | (with_reducible exact ih0 _ _ _ _ _ _ _ _)
      | (with_reducible exact impl_PassData.mono _ _ _ _ _ _)
      | (with_reducible exact laws_eqImage.mono _ _ _ _ _ _ _ _ _)
      | (with_reducible exact laws_eqIntS.mono _ _ _)
      | (with_reducible exact laws_heldIntS.mono _ _ _)
      | (with_reducible exact laws_markImage.mono _ _ _ _ _ _)
      | (with_reducible exact laws_markIntS.mono _ _ _)
      | (with_reducible exact laws_toImage.mono _ _ _ _ _)
      | (with_reducible exact spec_PassData.mono _ _ _ _ _ _)
      | (with_reducible exact LeO.refl _)
      | (with_reducible exact LeO.none _)
      | (with_reducible refine LeO.ite ?_ ?_)
      | (with_reducible refine LeO.bind ?_ (fun _ => ?_))
      | exact ih0 _ _ _ _ _ _ _ _
      | exact impl_PassData.mono _ _ _ _ _ _
      | exact laws_eqImage.mono _ _ _ _ _ _ _ _ _
      | exact laws_eqIntS.mono _ _ _
      | exact laws_heldIntS.mono _ _ _
      | exact laws_markImage.mono _ _ _ _ _ _
      | exact laws_markIntS.mono _ _ _
      | exact laws_toImage.mono _ _ _ _ _
      | exact spec_PassData.mono _ _ _ _ _ _
      | exact LeO.none _
      | refine LeO.ite ?_ ?_
      | refine LeO.bind ?_ (fun _ => ?_)
theorem laws_FnExactPassData.mono : ∀ a0 a1 a2 a3 a4 k, LeO (laws_FnExactPassData.f k a0 a1 a2 a3 a4) (laws_FnExactPassData.f (k + 1) a0 a1 a2 a3 a4) := by
  intro a0 a1 a2 a3 a4 k
  have ih0 := laws_FnExactPassData.mono_l k
  unfold laws_FnExactPassData.f
  repeat' first
      | (with_reducible exact ih0 _ _ _ _ _ _ _ _)
      | (with_reducible exact impl_PassData.mono _ _ _ _ _ _)
      | (with_reducible exact laws_eqImage.mono _ _ _ _ _ _ _ _ _)
      | (with_reducible exact laws_eqIntS.mono _ _ _)
      | (with_reducible exact laws_heldIntS.mono _ _ _)
      | (with_reducible exact laws_markImage.mono _ _ _ _ _ _)
      | (with_reducible exact laws_markIntS.mono _ _ _)
      | (with_reducible exact laws_toImage.mono _ _ _ _ _)
      | (with_reducible exact spec_PassData.mono _ _ _ _ _ _)
      | (with_reducible exact LeO.refl _)
      | (with_reducible exact LeO.none _)
      | (with_reducible refine LeO.ite ?_ ?_)
      | (with_reducible refine LeO.bind ?_ (fun _ => ?_))
      | exact ih0 _ _ _ _ _ _ _ _
      | exact impl_PassData.mono _ _ _ _ _ _
      | exact laws_eqImage.mono _ _ _ _ _ _ _ _ _
      | exact laws_eqIntS.mono _ _ _
      | exact laws_heldIntS.mono _ _ _
      | exact laws_markImage.mono _ _ _ _ _ _
      | exact laws_markIntS.mono _ _ _
      | exact laws_toImage.mono _ _ _ _ _
      | exact spec_PassData.mono _ _ _ _ _ _
      | exact LeO.none _
      | refine LeO.ite ?_ ?_
      | refine LeO.bind ?_ (fun _ => ?_)
set_option maxHeartbeats 8000000 in
set_option maxRecDepth 100000 in
theorem laws_FnExactPassData.calls (k : Nat) (a0_0 : Int) (a0_1 : Int) (a0_2 : Int) (A0_3 : Option Addr) (c0_3 : Nat) (l0_3 : List Int) (a1 : Int) (r : Bool) (w : World) (hr0_3 : Kd.C (Kd.int .i64) w A0_3 l0_3.length l0_3) (hc0_3 : l0_3.length ≤ c0_3) (h : laws_FnExactPassData.f k a0_0 a0_1 a0_2 l0_3 a1 = some r) (ht_ : Aside0 (r = true)) :
    Calls Try.prog 6 #[.agg #[.int .i64 a0_0, .int .i64 a0_1, .int .i64 a0_2, .slice A0_3 l0_3.length c0_3], .int .i64 a1] w fun e w' => e = .returned (.bool r) ∧ Below w.heap.size w w' := by
  have hu41 := Try.underlying41
  have hu34 := Try.underlying34
  have HR0_3 := Aside0.mk hr0_3
  have HC0_3 := Aside0.mk hc0_3
  clear hr0_3 hc0_3
  have HB := Aside0.mk (Below.refl w.heap.size w)
  have H : ((laws_szImage.f a0_0 a0_1 a0_2 l0_3 1048576).bind fun t212 => (if t212 < 0 then (some true) else ((laws_toImage.f k a0_0 a0_1 a0_2 l0_3).bind fun bt213 => ((spec_PassData.f k bt213.1 bt213.2.1 bt213.2.2.1 bt213.2.2.2 a1).bind fun t219 => ((laws_toImage.f k a0_0 a0_1 a0_2 l0_3).bind fun bt222 => ((impl_PassData.f k bt222.1 bt222.2.1 bt222.2.2.1 bt222.2.2.2 a1).bind fun t229 => ((laws_eqIntS.f k t229 t219).bind fun t232 => (if t232 = true then ((laws_toImage.f k a0_0 a0_1 a0_2 l0_3).bind fun bt233 => ((laws_eqImage.f k bt222.1 bt222.2.1 bt222.2.2.1 bt222.2.2.2 bt233.1 bt233.2.1 bt233.2.2.1 bt233.2.2.2).bind fun t239 => (if t239 = true then ((laws_markImage.f k bt222.1 bt222.2.1 bt222.2.2.1 bt222.2.2.2 1).bind fun bt240 => (if bt240.1 < 0 then (laws_FnExactPassData.j0 k a1 t219 t229 true a0_0 a0_1 a0_2 l0_3) else ((laws_eqIntS.f k t229 t219).bind fun t242 => (laws_FnExactPassData.j0 k a1 t219 t229 (!t242) a0_0 a0_1 a0_2 l0_3)))) else (some false)))) else (some false))))))))) = some r := h
  clear h
  replace H := Option.bind_eq_some_iff.mp H
  obtain ⟨t212, A30, H⟩ := H
  replace H : (if t212 < 0 then (some true) else ((laws_toImage.f k a0_0 a0_1 a0_2 l0_3).bind fun bt213 => ((spec_PassData.f k bt213.1 bt213.2.1 bt213.2.2.1 bt213.2.2.2 a1).bind fun t219 => ((laws_toImage.f k a0_0 a0_1 a0_2 l0_3).bind fun bt222 => ((impl_PassData.f k bt222.1 bt222.2.1 bt222.2.2.1 bt222.2.2.2 a1).bind fun t229 => ((laws_eqIntS.f k t229 t219).bind fun t232 => (if t232 = true then ((laws_toImage.f k a0_0 a0_1 a0_2 l0_3).bind fun bt233 => ((laws_eqImage.f k bt222.1 bt222.2.1 bt222.2.2.1 bt222.2.2.2 bt233.1 bt233.2.1 bt233.2.2.1 bt233.2.2.2).bind fun t239 => (if t239 = true then ((laws_markImage.f k bt222.1 bt222.2.1 bt222.2.2.1 bt222.2.2.2 1).bind fun bt240 => (if bt240.1 < 0 then (laws_FnExactPassData.j0 k a1 t219 t229 true a0_0 a0_1 a0_2 l0_3) else ((laws_eqIntS.f k t229 t219).bind fun t242 => (laws_FnExactPassData.j0 k a1 t219 t229 (!t242) a0_0 a0_1 a0_2 l0_3)))) else (some false)))) else (some false)))))))) = some r := H
  have A3 := Aside0.mk A30
  clear A30
  by_cases c4 : t212 < 0
  · rw [if_pos c4] at H
    have c4b0 : decide (t212 < 0) = true := decide_eq_true c4
    clear c4
    obtain rfl := Option.some.inj H
    simp only [Option.some.injEq, Prod.mk.injEq] at H
    obtain ⟨rfl⟩ := H
    go_enter Try.func6, Try.ntmps6
    go_wp2_with (first | ((with_reducible refine gate_dst (N := 2) rfl ?_); refine box_event ?hg (N := 2) ?hd (cs := #[.int .i64 a0_0, .int .i64 a0_1, .int .i64 a0_2, .slice A0_3 l0_3.length c0_3]) (t := 41) ?hr ?_; (case hd => rfl); (case hg => rfl); (case hr => first | (go_simp; done) | (go_simp; rfl)); intro gb211 hg w5 hbox hb; have n0_ := Aside0.mk (below_step (B.bl HB) hb); have n1_ := Aside0.mk (hbox); have n2_ := Aside0.mk (B.nle hg (below_size (B.bl HB))); have n3_ := Aside0.mk (B.nle hg (below_size (B.bl HB))); clear HB; have HB := n0_; have BK211 := n1_; have GW211 := n2_; have GE211 := n3_; clear n0_ n1_ n2_ n3_; clear hb hbox hg; have hcz6_0 : w5.cell? ⟨gb211, 0, none⟩ = some (.int .i64 a0_0) := B.bc BK211 0; have hcz6_1 : w5.cell? ⟨gb211, 1, none⟩ = some (.int .i64 a0_1) := B.bc BK211 1; have hcz6_2 : w5.cell? ⟨gb211, 2, none⟩ = some (.int .i64 a0_2) := B.bc BK211 2; have hcz6_3 : w5.cell? ⟨gb211, 3, none⟩ = some (.slice A0_3 l0_3.length c0_3) := B.bc BK211 3; have hfz6_0 := blk_frozen BK211.out 0; have hfz6_1 := blk_frozen BK211.out 1; have hfz6_2 := blk_frozen BK211.out 2; have hfz6_3 := blk_frozen BK211.out 3) | ((with_reducible refine gate_callee (f := 20) rfl ?_); refine goesL_ (some 15) rfl rfl Try.func20 (by kernel_rfl) rfl #[.agg #[.int .i64 a0_0, .int .i64 a0_1, .int .i64 a0_2, .slice A0_3 l0_3.length c0_3], .int .i64 1048576] rfl B.am ?_; (with_reducible refine (laws_szImage.calls a0_0 a0_1 a0_2 _ _ l0_3 1048576 t212 _ ?side1 ?side2 A3.out).mono ?_); (case side1 => exact B.kc (Kd.C_below HR0_3.out HB.out)); (case side2 => exact HC0_3.out); rintro e w7 ⟨rfl, hb⟩; refine ⟨_, rfl, ?_⟩; have n0_ := Aside0.mk (blk_below (B.kb BK211) hb); have n1_ := Aside0.mk (below_step (B.bl HB) hb); clear BK211 HB; have BK211 := n0_; have HB := n1_; clear n0_ n1_; (try clear hb); (try clear hb2); (try clear hk); (try clear hi)))
    go_ret
    exact ⟨by first | rfl | (simp [errW_none, errW_some] <;> rfl) | (simp [*, errW_none, errW_some] <;> rfl), B.bl HB⟩
  rw [if_neg c4] at H
  have c4b0 : decide (t212 < 0) = false := decide_eq_false c4
  clear c4
  replace H := Option.bind_eq_some_iff.mp H
  obtain ⟨⟨t213, t214, t215, t216⟩, A80, H⟩ := H
  replace H : ((spec_PassData.f k t213 t214 t215 t216 a1).bind fun t219 => ((laws_toImage.f k a0_0 a0_1 a0_2 l0_3).bind fun bt222 => ((impl_PassData.f k bt222.1 bt222.2.1 bt222.2.2.1 bt222.2.2.2 a1).bind fun t229 => ((laws_eqIntS.f k t229 t219).bind fun t232 => (if t232 = true then ((laws_toImage.f k a0_0 a0_1 a0_2 l0_3).bind fun bt233 => ((laws_eqImage.f k bt222.1 bt222.2.1 bt222.2.2.1 bt222.2.2.2 bt233.1 bt233.2.1 bt233.2.2.1 bt233.2.2.2).bind fun t239 => (if t239 = true then ((laws_markImage.f k bt222.1 bt222.2.1 bt222.2.2.1 bt222.2.2.2 1).bind fun bt240 => (if bt240.1 < 0 then (laws_FnExactPassData.j0 k a1 t219 t229 true a0_0 a0_1 a0_2 l0_3) else ((laws_eqIntS.f k t229 t219).bind fun t242 => (laws_FnExactPassData.j0 k a1 t219 t229 (!t242) a0_0 a0_1 a0_2 l0_3)))) else (some false)))) else (some false)))))) = some r := H
  have A8 := Aside0.mk A80
  clear A80
  replace H := Option.bind_eq_some_iff.mp H
  obtain ⟨t219, A90, H⟩ := H
  replace H : ((laws_toImage.f k a0_0 a0_1 a0_2 l0_3).bind fun bt222 => ((impl_PassData.f k bt222.1 bt222.2.1 bt222.2.2.1 bt222.2.2.2 a1).bind fun t229 => ((laws_eqIntS.f k t229 t219).bind fun t232 => (if t232 = true then ((laws_toImage.f k a0_0 a0_1 a0_2 l0_3).bind fun bt233 => ((laws_eqImage.f k bt222.1 bt222.2.1 bt222.2.2.1 bt222.2.2.2 bt233.1 bt233.2.1 bt233.2.2.1 bt233.2.2.2).bind fun t239 => (if t239 = true then ((laws_markImage.f k bt222.1 bt222.2.1 bt222.2.2.1 bt222.2.2.2 1).bind fun bt240 => (if bt240.1 < 0 then (laws_FnExactPassData.j0 k a1 t219 t229 true a0_0 a0_1 a0_2 l0_3) else ((laws_eqIntS.f k t229 t219).bind fun t242 => (laws_FnExactPassData.j0 k a1 t219 t229 (!t242) a0_0 a0_1 a0_2 l0_3)))) else (some false)))) else (some false))))) = some r := H
  have A9 := Aside0.mk A90
  clear A90
  replace H := Option.bind_eq_some_iff.mp H
  obtain ⟨⟨t222, t223, t224, t225⟩, A100, H⟩ := H
  replace H : ((impl_PassData.f k t222 t223 t224 t225 a1).bind fun t229 => ((laws_eqIntS.f k t229 t219).bind fun t232 => (if t232 = true then ((laws_toImage.f k a0_0 a0_1 a0_2 l0_3).bind fun bt233 => ((laws_eqImage.f k t222 t223 t224 t225 bt233.1 bt233.2.1 bt233.2.2.1 bt233.2.2.2).bind fun t239 => (if t239 = true then ((laws_markImage.f k t222 t223 t224 t225 1).bind fun bt240 => (if bt240.1 < 0 then (laws_FnExactPassData.j0 k a1 t219 t229 true a0_0 a0_1 a0_2 l0_3) else ((laws_eqIntS.f k t229 t219).bind fun t242 => (laws_FnExactPassData.j0 k a1 t219 t229 (!t242) a0_0 a0_1 a0_2 l0_3)))) else (some false)))) else (some false)))) = some r := H
  have A10 := Aside0.mk A100
  clear A100
  replace H := Option.bind_eq_some_iff.mp H
  obtain ⟨t229, A110, H⟩ := H
  replace H : ((laws_eqIntS.f k t229 t219).bind fun t232 => (if t232 = true then ((laws_toImage.f k a0_0 a0_1 a0_2 l0_3).bind fun bt233 => ((laws_eqImage.f k t222 t223 t224 t225 bt233.1 bt233.2.1 bt233.2.2.1 bt233.2.2.2).bind fun t239 => (if t239 = true then ((laws_markImage.f k t222 t223 t224 t225 1).bind fun bt240 => (if bt240.1 < 0 then (laws_FnExactPassData.j0 k a1 t219 t229 true a0_0 a0_1 a0_2 l0_3) else ((laws_eqIntS.f k t229 t219).bind fun t242 => (laws_FnExactPassData.j0 k a1 t219 t229 (!t242) a0_0 a0_1 a0_2 l0_3)))) else (some false)))) else (some false))) = some r := H
  have A11 := Aside0.mk A110
  clear A110
  replace H := Option.bind_eq_some_iff.mp H
  obtain ⟨t232, A120, H⟩ := H
  replace H : (if t232 = true then ((laws_toImage.f k a0_0 a0_1 a0_2 l0_3).bind fun bt233 => ((laws_eqImage.f k t222 t223 t224 t225 bt233.1 bt233.2.1 bt233.2.2.1 bt233.2.2.2).bind fun t239 => (if t239 = true then ((laws_markImage.f k t222 t223 t224 t225 1).bind fun bt240 => (if bt240.1 < 0 then (laws_FnExactPassData.j0 k a1 t219 t229 true a0_0 a0_1 a0_2 l0_3) else ((laws_eqIntS.f k t229 t219).bind fun t242 => (laws_FnExactPassData.j0 k a1 t219 t229 (!t242) a0_0 a0_1 a0_2 l0_3)))) else (some false)))) else (some false)) = some r := H
  have A12 := Aside0.mk A120
  clear A120
  by_cases c13 : t232 = true
  · subst c13
    have H1 : ((laws_toImage.f k a0_0 a0_1 a0_2 l0_3).bind fun bt233 => ((laws_eqImage.f k t222 t223 t224 t225 bt233.1 bt233.2.1 bt233.2.2.1 bt233.2.2.2).bind fun t239 => (if t239 = true then ((laws_markImage.f k t222 t223 t224 t225 1).bind fun bt240 => (if bt240.1 < 0 then (laws_FnExactPassData.j0 k a1 t219 t229 true a0_0 a0_1 a0_2 l0_3) else ((laws_eqIntS.f k t229 t219).bind fun t242 => (laws_FnExactPassData.j0 k a1 t219 t229 (!t242) a0_0 a0_1 a0_2 l0_3)))) else (some false)))) = some r := by rw [if_pos rfl] at H; exact H
    clear H
    have H := H1
    clear H1
    replace H := Option.bind_eq_some_iff.mp H
    obtain ⟨⟨t233, t234, t235, t236⟩, A140, H⟩ := H
    replace H : ((laws_eqImage.f k t222 t223 t224 t225 t233 t234 t235 t236).bind fun t239 => (if t239 = true then ((laws_markImage.f k t222 t223 t224 t225 1).bind fun bt240 => (if bt240.1 < 0 then (laws_FnExactPassData.j0 k a1 t219 t229 true a0_0 a0_1 a0_2 l0_3) else ((laws_eqIntS.f k t229 t219).bind fun t242 => (laws_FnExactPassData.j0 k a1 t219 t229 (!t242) a0_0 a0_1 a0_2 l0_3)))) else (some false))) = some r := H
    have A14 := Aside0.mk A140
    clear A140
    replace H := Option.bind_eq_some_iff.mp H
    obtain ⟨t239, A150, H⟩ := H
    replace H : (if t239 = true then ((laws_markImage.f k t222 t223 t224 t225 1).bind fun bt240 => (if bt240.1 < 0 then (laws_FnExactPassData.j0 k a1 t219 t229 true a0_0 a0_1 a0_2 l0_3) else ((laws_eqIntS.f k t229 t219).bind fun t242 => (laws_FnExactPassData.j0 k a1 t219 t229 (!t242) a0_0 a0_1 a0_2 l0_3)))) else (some false)) = some r := H
    have A15 := Aside0.mk A150
    clear A150
    by_cases c16 : t239 = true
    · subst c16
      have H1 : ((laws_markImage.f k t222 t223 t224 t225 1).bind fun bt240 => (if bt240.1 < 0 then (laws_FnExactPassData.j0 k a1 t219 t229 true a0_0 a0_1 a0_2 l0_3) else ((laws_eqIntS.f k t229 t219).bind fun t242 => (laws_FnExactPassData.j0 k a1 t219 t229 (!t242) a0_0 a0_1 a0_2 l0_3)))) = some r := by rw [if_pos rfl] at H; exact H
      clear H
      have H := H1
      clear H1
      replace H := Option.bind_eq_some_iff.mp H
      obtain ⟨⟨t240, t241⟩, A170, H⟩ := H
      replace H : (if t240 < 0 then (laws_FnExactPassData.j0 k a1 t219 t229 true a0_0 a0_1 a0_2 l0_3) else ((laws_eqIntS.f k t229 t219).bind fun t242 => (laws_FnExactPassData.j0 k a1 t219 t229 (!t242) a0_0 a0_1 a0_2 l0_3))) = some r := H
      have A17 := Aside0.mk A170
      clear A170
      have HC18 := Aside0.mk H
      clear H
      go_enter Try.func6, Try.ntmps6
      try go_wp2_with (first | ((with_reducible refine gate_dst (N := 2) rfl ?_); refine box_event ?hg (N := 2) ?hd (cs := #[.int .i64 a0_0, .int .i64 a0_1, .int .i64 a0_2, .slice A0_3 l0_3.length c0_3]) (t := 41) ?hr ?_; (case hd => rfl); (case hg => rfl); (case hr => first | (go_simp; done) | (go_simp; rfl)); intro gb211 hg w19 hbox hb; have n0_ := Aside0.mk (below_step (B.bl HB) hb); have n1_ := Aside0.mk (hbox); have n2_ := Aside0.mk (B.nle hg (below_size (B.bl HB))); have n3_ := Aside0.mk (B.nle hg (below_size (B.bl HB))); clear HB; have HB := n0_; have BK211 := n1_; have GW211 := n2_; have GE211 := n3_; clear n0_ n1_ n2_ n3_; clear hb hbox hg; have hcz20_0 : w19.cell? ⟨gb211, 0, none⟩ = some (.int .i64 a0_0) := B.bc BK211 0; have hcz20_1 : w19.cell? ⟨gb211, 1, none⟩ = some (.int .i64 a0_1) := B.bc BK211 1; have hcz20_2 : w19.cell? ⟨gb211, 2, none⟩ = some (.int .i64 a0_2) := B.bc BK211 2; have hcz20_3 : w19.cell? ⟨gb211, 3, none⟩ = some (.slice A0_3 l0_3.length c0_3) := B.bc BK211 3; have hfz20_0 := blk_frozen BK211.out 0; have hfz20_1 := blk_frozen BK211.out 1; have hfz20_2 := blk_frozen BK211.out 2; have hfz20_3 := blk_frozen BK211.out 3) | ((with_reducible refine gate_callee (f := 20) rfl ?_); refine goesL_ (some 15) rfl rfl Try.func20 (by kernel_rfl) rfl #[.agg #[.int .i64 a0_0, .int .i64 a0_1, .int .i64 a0_2, .slice A0_3 l0_3.length c0_3], .int .i64 1048576] rfl B.am ?_; (with_reducible refine (laws_szImage.calls a0_0 a0_1 a0_2 _ _ l0_3 1048576 t212 _ ?side1 ?side2 A3.out).mono ?_); (case side1 => exact B.kc (Kd.C_below HR0_3.out HB.out)); (case side2 => exact HC0_3.out); rintro e w21 ⟨rfl, hb⟩; refine ⟨_, rfl, ?_⟩; have n0_ := Aside0.mk (blk_below (B.kb BK211) hb); have n1_ := Aside0.mk (below_step (B.bl HB) hb); clear BK211 HB; have BK211 := n0_; have HB := n1_; clear n0_ n1_; (try clear hb); (try clear hb2); (try clear hk); (try clear hi); have hcz22_0 : w21.cell? ⟨gb211, 0, none⟩ = some (.int .i64 a0_0) := B.bc BK211 0; have hcz22_1 : w21.cell? ⟨gb211, 1, none⟩ = some (.int .i64 a0_1) := B.bc BK211 1; have hcz22_2 : w21.cell? ⟨gb211, 2, none⟩ = some (.int .i64 a0_2) := B.bc BK211 2; have hcz22_3 : w21.cell? ⟨gb211, 3, none⟩ = some (.slice A0_3 l0_3.length c0_3) := B.bc BK211 3; have hfz22_0 := blk_frozen BK211.out 0; have hfz22_1 := blk_frozen BK211.out 1; have hfz22_2 := blk_frozen BK211.out 2; have hfz22_3 := blk_frozen BK211.out 3) | ((with_reducible refine gate_callee (f := 22) rfl ?_); refine goesL_ (some 19) rfl rfl Try.func22 (by kernel_rfl) rfl #[.agg #[.int .i64 a0_0, .int .i64 a0_1, .int .i64 a0_2, .slice A0_3 l0_3.length c0_3]] rfl B.am ?_; (with_reducible refine (laws_toImage.calls k a0_0 a0_1 a0_2 _ _ l0_3 t213 t214 t215 t216 _ ?side1 ?side2 A8.out).mono ?_); (case side1 => exact B.kc (Kd.C_below HR0_3.out HB.out)); (case side2 => exact HC0_3.out); rintro e w23 ⟨v217, rfl, ho0, hb⟩; refine ⟨_, rfl, ?_⟩; have n0_ := Aside0.mk (Kd.R_lower ho0 (below_size (B.bl HB))); have n1_ := Aside0.mk (blk_below (B.kb BK211) hb); have n2_ := Aside0.mk (below_step (B.bl HB) hb); clear BK211 HB; have HO218 := n0_; have BK211 := n1_; have HB := n2_; clear n0_ n1_ n2_; (try clear hb); (try clear hb2); (try clear hk); (try clear hi); (try clear ho0); obtain ⟨Ao24, co24, eo24⟩ := Kd.R_slice HO218.out; subst eo24) | ((with_reducible refine gate_callee (f := 21) rfl ?_); refine goesL_ (some 21) rfl rfl Try.func21 (by kernel_rfl) rfl #[.agg #[.int .i64 t213, .int .i64 t214, .int .i64 t215, .slice Ao24 t216.length co24], .int .i64 a1] rfl B.am ?_; (with_reducible refine (spec_PassData.calls k t213 t214 t215 _ _ t216 a1 t219 _ ?side1 ?side2 A9.out).mono ?_); (case side1 => exact B.kc ((Kd.R_reads' HO218.out).2.2)); (case side2 => exact (Kd.R_reads' HO218.out).2.1); rintro e w25 ⟨v220, rfl, ho0, hb⟩; refine ⟨_, rfl, ?_⟩; have n0_ := Aside0.mk (Kd.R_elder' (B.kr HO218) (Kd.R_base ho0) hb); have n1_ := Aside0.mk (Kd.R_lower (Kd.R_new' ho0 (Kd.R_lt (B.kr HO218))) (below_size (B.bl HB))); have n2_ := Aside0.mk (blk_below (B.kb BK211) hb); have n3_ := Aside0.mk (below_step (B.bl HB) hb); clear HO218 BK211 HB; have HO218 := n0_; have HO221 := n1_; have BK211 := n2_; have HB := n3_; clear n0_ n1_ n2_ n3_; (try clear hb); (try clear hb2); (try clear hk); (try clear hi); (try clear ho0); have hcz26_0 : w25.cell? ⟨gb211, 0, none⟩ = some (.int .i64 a0_0) := B.bc BK211 0; have hcz26_1 : w25.cell? ⟨gb211, 1, none⟩ = some (.int .i64 a0_1) := B.bc BK211 1; have hcz26_2 : w25.cell? ⟨gb211, 2, none⟩ = some (.int .i64 a0_2) := B.bc BK211 2; have hcz26_3 : w25.cell? ⟨gb211, 3, none⟩ = some (.slice A0_3 l0_3.length c0_3) := B.bc BK211 3; have hfz26_0 := blk_frozen BK211.out 0; have hfz26_1 := blk_frozen BK211.out 1; have hfz26_2 := blk_frozen BK211.out 2; have hfz26_3 := blk_frozen BK211.out 3) | ((with_reducible refine gate_callee (f := 22) rfl ?_); refine goesL_ (some 23) rfl rfl Try.func22 (by kernel_rfl) rfl #[.agg #[.int .i64 a0_0, .int .i64 a0_1, .int .i64 a0_2, .slice A0_3 l0_3.length c0_3]] rfl B.am ?_; (with_reducible refine (laws_toImage.calls k a0_0 a0_1 a0_2 _ _ l0_3 t222 t223 t224 t225 _ ?side1 ?side2 A10.out).mono ?_); (case side1 => exact B.kc (Kd.C_below HR0_3.out HB.out)); (case side2 => exact HC0_3.out); rintro e w27 ⟨v226, rfl, ho0, hb⟩; refine ⟨_, rfl, ?_⟩; have n0_ := Aside0.mk (Kd.R_elder' (B.kr HO218) (Kd.R_base ho0) hb); have n1_ := Aside0.mk (Kd.R_elder' (B.kr HO221) (Kd.R_base ho0) hb); have n2_ := Aside0.mk (Kd.R_lower (Kd.R_new' (Kd.R_new' ho0 (Kd.R_lt (B.kr HO218))) (Kd.R_lt (B.kr HO221))) (below_size (B.bl HB))); have n3_ := Aside0.mk (blk_below (B.kb BK211) hb); have n4_ := Aside0.mk (below_step (B.bl HB) hb); clear HO218 HO221 BK211 HB; have HO218 := n0_; have HO221 := n1_; have HO227 := n2_; have BK211 := n3_; have HB := n4_; clear n0_ n1_ n2_ n3_ n4_; (try clear hb); (try clear hb2); (try clear hk); (try clear hi); (try clear ho0)) | ((with_reducible refine gate_dst (N := 7) rfl ?_); refine box_event ?hg (N := 7) ?hd (cs := #[.int .i64 0, .int .i64 0, .int .i64 0, .slice none 0 0]) (t := 34) ?hr ?_; (case hd => rfl); (case hg => rfl); (case hr => first | (go_simp; done) | (go_simp; rfl)); intro gb228 hg w28 hbox hb; have n0_ := Aside0.mk (Kd.R_below (B.kr HO218) hb); have n1_ := Aside0.mk (Kd.R_below (B.kr HO221) hb); have n2_ := Aside0.mk (Kd.R_below (B.kr HO227) hb); have n3_ := Aside0.mk (blk_below (B.kb BK211) hb); have n4_ := Aside0.mk (below_step (B.bl HB) hb); have n5_ := Aside0.mk (hbox); have n6_ := Aside0.mk (B.nle hg (below_size (B.bl HB))); have n7_ := Aside0.mk (B.nle hg (below_size (B.bl HB))); have n8_ := Aside0.mk (B.nlt hg (blk_lt (B.kb BK211))); have n9_ := Aside0.mk (B.ngt hg (blk_lt (B.kb BK211))); clear HO218 HO221 HO227 BK211 HB; have HO218 := n0_; have HO221 := n1_; have HO227 := n2_; have BK211 := n3_; have HB := n4_; have BK228 := n5_; have GW228 := n6_; have GE228 := n7_; have NB211_228 := n8_; have NB228_211 := n9_; clear n0_ n1_ n2_ n3_ n4_ n5_ n6_ n7_ n8_ n9_; clear hb hbox hg; have hnb29 := NB228_211.out; have hnc29 := NB211_228.out; have hcz30_0 : w28.cell? ⟨gb228, 0, none⟩ = some (.int .i64 0) := B.bc BK228 0; have hcz30_1 : w28.cell? ⟨gb228, 1, none⟩ = some (.int .i64 0) := B.bc BK228 1; have hcz30_2 : w28.cell? ⟨gb228, 2, none⟩ = some (.int .i64 0) := B.bc BK228 2; have hcz30_3 : w28.cell? ⟨gb228, 3, none⟩ = some (.slice none 0 0) := B.bc BK228 3; have hfz30_0 := blk_frozen BK228.out 0; have hfz30_1 := blk_frozen BK228.out 1; have hfz30_2 := blk_frozen BK228.out 2; have hfz30_3 := blk_frozen BK228.out 3; obtain ⟨Ao31, co31, eo31⟩ := Kd.R_slice HO227.out; subst eo31) | ((with_reducible refine gate_callee (f := 18) rfl ?_); refine goesL_ (some 26) rfl rfl Try.func18 (by kernel_rfl) rfl #[.agg #[.int .i64 t222, .int .i64 t223, .int .i64 t224, .slice Ao31 t225.length co31], .int .i64 a1] rfl B.am ?_; (with_reducible refine (impl_PassData.calls k t222 t223 t224 _ _ t225 a1 t229 _ ?side1 ?side2 A11.out).mono ?_); (case side1 => refine (Kd.R_reads' (e := 3) (base := w.heap.size) (ok := fun k_ => ((True ∧ some k_ ≠ (.slice Ao24 t216.length co24 : Value).ownBlock) ∧ some k_ ≠ (v220 : Value).ownBlock)) (n := t225.length) (c := co31) ?_).2.2; exact (B.kr0 (B.rs4 HO227 BK228))); (case side2 => exact (Kd.R_reads' HO227.out).2.1); rintro e w32 ⟨v230, rfl, ho0, hb⟩; refine ⟨_, rfl, ?_⟩; have n0_ := Aside0.mk (Kd.R_elder' (B.kr0 (B.rs4 HO218 BK228)) (Kd.R_base ho0) hb); have n1_ := Aside0.mk (Kd.R_elder' (B.kr0 (B.rs4 HO221 BK228)) (Kd.R_base ho0) hb); have n2_ := Aside0.mk (Kd.R_elder' (B.kr0 (B.rs4 HO227 BK228)) (Kd.R_base ho0) hb); have n3_ := Aside0.mk (Kd.R_lower (Kd.R_new' (Kd.R_new' (Kd.R_new' ho0 (Kd.R_lt (B.kr0 (B.rs4 HO218 BK228)))) (Kd.R_lt (B.kr0 (B.rs4 HO221 BK228)))) (Kd.R_lt (B.kr0 (B.rs4 HO227 BK228)))) (below_size (B.bl HB))); have n4_ := Aside0.mk (blk_below (B.kb0 (B.bf4 BK211 NB211_228)) hb); have n5_ := Aside0.mk (blk_below (g := gb228) (o := .cells #[.int .i64 t222, .int .i64 t223, .int .i64 t224, .slice Ao31 t225.length co31] 34 (0, 0)) (B.kb0 (B.bp4 BK228)) hb); have n6_ := Aside0.mk (below_step (B.bl HB) hb); clear HO218 HO221 HO227 BK211 BK228 HB; have HO218 := n0_; have HO221 := n1_; have HO227 := n2_; have HO231 := n3_; have BK211 := n4_; have BK228 := n5_; have HB := n6_; clear n0_ n1_ n2_ n3_ n4_ n5_ n6_; (try clear hb); (try clear hb2); (try clear hk); (try clear hi); (try clear ho0); obtain ⟨Ao33, co33, eo33⟩ := Kd.R_slice HO231.out; subst eo33; obtain ⟨Ao34, co34, eo34⟩ := Kd.R_slice HO221.out; subst eo34) | ((with_reducible refine gate_callee (f := 23) rfl ?_); refine goesL_ (some 29) rfl rfl Try.func23 (by kernel_rfl) rfl #[.slice Ao33 t229.length co33, .slice Ao34 t219.length co34] rfl B.am ?_; (with_reducible refine (laws_eqIntS.calls k _ _ t229 _ _ t219 true _ ?side1 ?side2 ?side3 ?side4 A12.out).mono ?_); (case side1 => exact B.kc ((Kd.R_reads' HO231.out).2.2)); (case side2 => exact (Kd.R_reads' HO231.out).2.1); (case side3 => exact B.kc ((Kd.R_reads' HO221.out).2.2)); (case side4 => exact (Kd.R_reads' HO221.out).2.1); rintro e w' ⟨rfl, ⟨nd, rfl⟩⟩; refine ⟨_, rfl, ?_⟩))
      (try (rw [drewN_self w32]; generalize hq_ : World.drewN w32 _ = w32; (first | have n0_ := Aside0.mk (Kd.R_at hq_ HO218.out) | have n0_ : Aside0 (Kd.R (Kd.int .i64) 3 w32 w.heap.size (fun k_ => some k_ ≠ (.slice Ao34 t219.length co34 : Value).ownBlock ∧ some k_ ≠ (.slice Ao31 t225.length co31 : Value).ownBlock ∧ some k_ ≠ (.slice Ao33 t229.length co33 : Value).ownBlock) (.slice Ao24 t216.length co24) t216) := ⟨by rw [← hq_]; exact (B.kr0 (Kd.R_mono HO218.out (fun _ hk => ⟨hk.1.1.2, ⟨hk.1.2, hk.2⟩⟩)))⟩); (first | have n1_ := Aside0.mk (Kd.R_at hq_ HO221.out) | have n1_ : Aside0 (Kd.R (Kd.int .i64) 3 w32 w.heap.size (fun k_ => some k_ ≠ (.slice Ao24 t216.length co24 : Value).ownBlock ∧ some k_ ≠ (.slice Ao31 t225.length co31 : Value).ownBlock ∧ some k_ ≠ (.slice Ao33 t229.length co33 : Value).ownBlock) (.slice Ao34 t219.length co34) t219) := ⟨by rw [← hq_]; exact (B.kr0 (Kd.R_mono HO221.out (fun _ hk => ⟨hk.1.1.2, ⟨hk.1.2, hk.2⟩⟩)))⟩); (first | have n2_ := Aside0.mk (Kd.R_at hq_ HO227.out) | have n2_ : Aside0 (Kd.R (Kd.int .i64) 3 w32 w.heap.size (fun k_ => some k_ ≠ (.slice Ao24 t216.length co24 : Value).ownBlock ∧ some k_ ≠ (.slice Ao34 t219.length co34 : Value).ownBlock ∧ some k_ ≠ (.slice Ao33 t229.length co33 : Value).ownBlock) (.slice Ao31 t225.length co31) t225) := ⟨by rw [← hq_]; exact (B.kr0 (Kd.R_mono HO227.out (fun _ hk => ⟨hk.1.1.2, ⟨hk.1.2, hk.2⟩⟩)))⟩); (first | have n3_ := Aside0.mk (Kd.R_at hq_ HO231.out) | have n3_ : Aside0 (Kd.R (Kd.int .i64) 3 w32 w.heap.size (fun k_ => some k_ ≠ (.slice Ao24 t216.length co24 : Value).ownBlock ∧ some k_ ≠ (.slice Ao34 t219.length co34 : Value).ownBlock ∧ some k_ ≠ (.slice Ao31 t225.length co31 : Value).ownBlock) (.slice Ao33 t229.length co33) t229) := ⟨by rw [← hq_]; exact (B.kr0 (Kd.R_mono HO231.out (fun _ hk => ⟨hk.1.1.2, ⟨hk.1.2, hk.2⟩⟩)))⟩); have n4_ : Aside0 (w32.heap[gb211]? = some (.cells #[.int .i64 a0_0, .int .i64 a0_1, .int .i64 a0_2, .slice A0_3 l0_3.length c0_3] 41 (0, 0))) := ⟨by rw [← hq_]; exact (B.kb BK211)⟩; have n5_ : Aside0 (w32.heap[gb228]? = some (.cells #[.int .i64 t222, .int .i64 t223, .int .i64 t224, .slice Ao31 t225.length co31] 34 (0, 0))) := ⟨by rw [← hq_]; exact (B.kb BK228)⟩; have n6_ : Aside0 (Below w.heap.size w w32) := ⟨by rw [← hq_]; exact (B.bl HB)⟩; clear HO218 HO221 HO227 HO231 BK211 BK228 HB hq_; have HO218 := n0_; have HO221 := n1_; have HO227 := n2_; have HO231 := n3_; have BK211 := n4_; have BK228 := n5_; have HB := n6_; clear n0_ n1_ n2_ n3_ n4_ n5_ n6_))
      have n0_ := Aside0.mk (Kd.R_drew HO218.out)
      have n1_ := Aside0.mk (Kd.R_drew HO221.out)
      have n2_ := Aside0.mk (Kd.R_drew HO227.out)
      have n3_ := Aside0.mk (Kd.R_drew HO231.out)
      have n4_ := Aside0.mk (blk_drew BK211.out)
      have n5_ := Aside0.mk (blk_drew BK228.out)
      have n6_ := Aside0.mk (below_drew1 HB.out)
      clear HO218 HO221 HO227 HO231 BK211 BK228 HB
      have HO218 := n0_
      have HO221 := n1_
      have HO227 := n2_
      have HO231 := n3_
      have BK211 := n4_
      have BK228 := n5_
      have HB := n6_
      clear n0_ n1_ n2_ n3_ n4_ n5_ n6_
      refine start_ (n := 5) (S := fun w' => w'.cell? ⟨gb228, 0, none⟩ = some (.int .i64 t222) ∧ w'.cell? ⟨gb228, 1, none⟩ = some (.int .i64 t223) ∧ w'.cell? ⟨gb228, 2, none⟩ = some (.int .i64 t224) ∧ w'.cell? ⟨gb228, 3, none⟩ = some (.slice Ao31 t225.length co31) ∧ w'.cell? ⟨gb211, 0, none⟩ = some (.int .i64 a0_0) ∧ w'.cell? ⟨gb211, 1, none⟩ = some (.int .i64 a0_1) ∧ w'.cell? ⟨gb211, 2, none⟩ = some (.int .i64 a0_2) ∧ w'.cell? ⟨gb211, 3, none⟩ = some (.slice A0_3 l0_3.length c0_3)) (ds := []) #[false, false, false, false, false] (by kernel_rfl) rfl rfl ⟨B.bc BK228 0, B.bc BK228 1, B.bc BK228 2, B.bc BK228 3, B.bc BK211 0, B.bc BK211 1, B.bc BK211 2, B.bc BK211 3⟩ (fun hHeld => ?_)
      generalize w32.drew = w35 at HO218 HO221 HO227 HO231 BK211 BK228 HB hHeld ⊢
      refine take_ (i := 0) (N := some 31) (v := ?_) (a' := ?_) #[true, false, false, false, false] rfl rfl (by kernel_rfl) (fun _ _ _ h => h) (Or.inl ⟨by rfl, ?_⟩) hHeld ?_ ?_
      rotate_left
      · rintro w' ⟨s0, s1, s2, s3, s4, s5, s6, s7⟩
        go_simp
        with_reducible rfl
      rotate_left
      · simp only [Act.put, List.setIfInBounds_toArray, List.set_cons_zero, List.set_cons_succ, i64_w, i32_w]
        rfl
      refine take_ (i := 1) (N := some 32) (v := ?_) (a' := ?_) #[true, true, false, false, false] rfl rfl (by kernel_rfl) (fun _ _ _ h => h) (Or.inl ⟨by rfl, ?_⟩) hHeld ?_ ?_
      rotate_left
      · rintro w' ⟨s0, s1, s2, s3, s4, s5, s6, s7⟩
        go_simp
        with_reducible rfl
      rotate_left
      · simp only [Act.put, List.setIfInBounds_toArray, List.set_cons_zero, List.set_cons_succ, i64_w, i32_w]
        rfl
      refine one_ (i := 2) (N := some 33) #[true, true, true, false, false] rfl rfl (by kernel_rfl) (by decide) (fun K hK => ?_)
      refine goes_ Try.func22 (by kernel_rfl) rfl #[.agg #[.int .i64 a0_0, .int .i64 a0_1, .int .i64 a0_2, .slice A0_3 l0_3.length c0_3]] (by rfl) rfl rfl B.am ?_
      with_reducible refine (laws_toImage.calls k a0_0 a0_1 a0_2 _ _ l0_3 t233 t234 t235 t236 _ ?side1 ?side2 A14.out).mono ?_
      (case side1 => exact B.kc (Kd.C_below HR0_3.out HB.out))
      (case side2 => exact HC0_3.out)
      rintro e w36 ⟨v237, rfl, ho0, hb⟩
      refine ⟨_, rfl, ?_⟩
      have n0_ := Aside0.mk (Kd.R_elder' (B.kr HO218) (Kd.R_base ho0) hb)
      have n1_ := Aside0.mk (Kd.R_elder' (B.kr HO221) (Kd.R_base ho0) hb)
      have n2_ := Aside0.mk (Kd.R_elder' (B.kr HO227) (Kd.R_base ho0) hb)
      have n3_ := Aside0.mk (Kd.R_elder' (B.kr HO231) (Kd.R_base ho0) hb)
      have n4_ := Aside0.mk (Kd.R_lower (Kd.R_new' (Kd.R_new' (Kd.R_new' (Kd.R_new' ho0 (Kd.R_lt (B.kr HO218))) (Kd.R_lt (B.kr HO221))) (Kd.R_lt (B.kr HO227))) (Kd.R_lt (B.kr HO231))) (below_size (B.bl HB)))
      have n5_ := Aside0.mk (blk_below (B.kb BK211) hb)
      have n6_ := Aside0.mk (blk_below (B.kb BK228) hb)
      have n7_ := Aside0.mk (below_step (B.bl HB) hb)
      clear HO218 HO221 HO227 HO231 BK211 BK228 HB
      have HO218 := n0_
      have HO221 := n1_
      have HO227 := n2_
      have HO231 := n3_
      have HO238 := n4_
      have BK211 := n5_
      have BK228 := n6_
      have HB := n7_
      clear n0_ n1_ n2_ n3_ n4_ n5_ n6_ n7_
      (try clear hb)
      (try clear hb2)
      (try clear hk)
      (try clear hi)
      (try clear ho0)
      obtain ⟨Ao37, co37, eo37⟩ := Kd.R_slice HO238.out
      (first | subst eo37 | (injection eo37 with f1_ f2_ f3_; have f4_ := f1_.symm; have f5_ := f3_.symm; clear f1_ f2_ f3_; subst f4_; subst f5_))
      refine hK.out _ _ ⟨B.bc BK228 0, B.bc BK228 1, B.bc BK228 2, B.bc BK228 3, B.bc BK211 0, B.bc BK211 1, B.bc BK211 2, B.bc BK211 3⟩ (fun hHeld => ?_)
      clear hK K
      refine norm_ (a' := ?_) ?_ ?_
      rotate_left
      · show Act.put _ (some 33) _ = _
        simp only [Act.put, List.setIfInBounds_toArray, List.set_cons_zero, List.set_cons_succ, i64_w, i32_w]
        rfl
      refine one_ (i := 3) (N := some 34) #[true, true, true, true, false] rfl rfl (by kernel_rfl) (by decide) (fun K hK => ?_)
      refine goes_ Try.func24 (by kernel_rfl) rfl #[.agg #[.int .i64 t222, .int .i64 t223, .int .i64 t224, .slice Ao31 t225.length co31], .agg #[.int .i64 t233, .int .i64 t234, .int .i64 t235, .slice Ao37 t236.length co37]] (by rfl) rfl rfl B.am ?_
      with_reducible refine (laws_eqImage.calls k t222 t223 t224 _ _ t225 t233 t234 t235 _ _ t236 true _ ?side1 ?side2 ?side3 ?side4 A15.out).mono ?_
      (case side1 => exact B.kc ((Kd.R_reads' HO227.out).2.2))
      (case side2 => exact (Kd.R_reads' HO227.out).2.1)
      (case side3 => exact B.kc ((Kd.R_reads' HO238.out).2.2))
      (case side4 => exact (Kd.R_reads' HO238.out).2.1)
      rintro e w38 ⟨rfl, hb⟩
      refine ⟨_, rfl, ?_⟩
      have n0_ := Aside0.mk (Kd.R_below (B.kr HO218) hb)
      have n1_ := Aside0.mk (Kd.R_below (B.kr HO221) hb)
      have n2_ := Aside0.mk (Kd.R_below (B.kr HO227) hb)
      have n3_ := Aside0.mk (Kd.R_below (B.kr HO231) hb)
      have n4_ := Aside0.mk (Kd.R_below (B.kr HO238) hb)
      have n5_ := Aside0.mk (blk_below (B.kb BK211) hb)
      have n6_ := Aside0.mk (blk_below (B.kb BK228) hb)
      have n7_ := Aside0.mk (below_step (B.bl HB) hb)
      clear HO218 HO221 HO227 HO231 HO238 BK211 BK228 HB
      have HO218 := n0_
      have HO221 := n1_
      have HO227 := n2_
      have HO231 := n3_
      have HO238 := n4_
      have BK211 := n5_
      have BK228 := n6_
      have HB := n7_
      clear n0_ n1_ n2_ n3_ n4_ n5_ n6_ n7_
      (try clear hb)
      (try clear hb2)
      (try clear hk)
      (try clear hi)
      refine hK.out _ _ ⟨B.bc BK228 0, B.bc BK228 1, B.bc BK228 2, B.bc BK228 3, B.bc BK211 0, B.bc BK211 1, B.bc BK211 2, B.bc BK211 3⟩ (fun hHeld => ?_)
      clear hK K
      refine norm_ (a' := ?_) ?_ ?_
      rotate_left
      · show Act.put _ (some 34) _ = _
        simp only [Act.put, List.setIfInBounds_toArray, List.set_cons_zero, List.set_cons_succ, i64_w, i32_w]
        rfl
      refine pure_ (i := 4) (N := some 35) (v := ?_) (a' := ?_) #[true, true, true, true, true] rfl rfl (by kernel_rfl) (fun _ _ _ h => h) (Or.inl ⟨by rfl, ?_⟩) ?_ ?_
      rotate_left
      · intro w'
        go_simp
        with_reducible rfl
      rotate_left
      · simp only [Act.put, List.setIfInBounds_toArray, List.set_cons_zero, List.set_cons_succ, i64_w, i32_w]
        rfl
      refine done_ (by kernel_rfl) ?_
      have hcz39_0 : w38.cell? ⟨gb228, 0, none⟩ = some (.int .i64 t222) := B.bc BK228 0
      have hcz39_1 : w38.cell? ⟨gb228, 1, none⟩ = some (.int .i64 t223) := B.bc BK228 1
      have hcz39_2 : w38.cell? ⟨gb228, 2, none⟩ = some (.int .i64 t224) := B.bc BK228 2
      have hcz39_3 : w38.cell? ⟨gb228, 3, none⟩ = some (.slice Ao31 t225.length co31) := B.bc BK228 3
      have hfz39_0 := blk_frozen BK228.out 0
      have hfz39_1 := blk_frozen BK228.out 1
      have hfz39_2 := blk_frozen BK228.out 2
      have hfz39_3 := blk_frozen BK228.out 3
      go_upto_region 14 with (first | ((with_reducible refine gate_callee (f := 25) rfl ?_); refine goesL_ (some 38) rfl rfl Try.func25 (by kernel_rfl) rfl #[.agg #[.int .i64 t222, .int .i64 t223, .int .i64 t224, .slice Ao31 t225.length co31], .int .i64 1] rfl B.am ?_; (with_reducible refine (laws_markImage.calls k t222 t223 t224 (fun k_ => some k_ = (.slice Ao31 t225.length co31 : Value).ownBlock) (.slice Ao31 t225.length co31) t225 1 t240 t241 w _ ?side1 ?side2 A17.out).mono ?_); (case side1 => exact B.bl HB); (case side2 => exact Kd.R_tight rfl HO227.out); rintro e w40 ⟨rfl, hy0, hb, hkp⟩; refine ⟨_, rfl, ?_⟩; have n0_ := Aside0.mk (blk_kept (B.kb BK211) hkp (fun hs_ => (fun e_ => (Kd.R_ne HO227.out BK211.out (by decide)) e_) hs_)); have n1_ := Aside0.mk (Kd.R_mono (ok' := fun k_ => some k_ ≠ (.slice Ao34 t219.length co34 : Value).ownBlock ∧ some k_ ≠ (.slice Ao31 t225.length co31 : Value).ownBlock ∧ some k_ ≠ (.slice Ao33 t229.length co33 : Value).ownBlock ∧ some k_ ≠ (.slice Ao37 t236.length co37 : Value).ownBlock) (Kd.R_keptB (HO218.out) hkp (fun k_ hk_ hs_ => (hk_.1.1.2) hs_)) (fun k_ hk_ => ⟨hk_.1.1.1.1.2, hk_.1.1.1.2, hk_.1.1.2, hk_.1.2⟩)); have n2_ := Aside0.mk (Kd.R_mono (ok' := fun k_ => some k_ ≠ (.slice Ao24 t216.length co24 : Value).ownBlock ∧ some k_ ≠ (.slice Ao31 t225.length co31 : Value).ownBlock ∧ some k_ ≠ (.slice Ao33 t229.length co33 : Value).ownBlock ∧ some k_ ≠ (.slice Ao37 t236.length co37 : Value).ownBlock) (Kd.R_keptB (HO221.out) hkp (fun k_ hk_ hs_ => (hk_.1.1.2) hs_)) (fun k_ hk_ => ⟨hk_.1.1.1.1.2, hk_.1.1.1.2, hk_.1.1.2, hk_.1.2⟩)); have n3_ := Aside0.mk (Kd.R_reok rfl hy0 (fun k_ e_ => HO227.out.1 k_ e_)); have n4_ := Aside0.mk (blk_kept (B.kb BK228) hkp (fun hs_ => (fun e_ => (Kd.R_ne HO227.out BK228.out (by decide)) e_) hs_)); have n5_ := Aside0.mk (Kd.R_mono (ok' := fun k_ => some k_ ≠ (.slice Ao24 t216.length co24 : Value).ownBlock ∧ some k_ ≠ (.slice Ao34 t219.length co34 : Value).ownBlock ∧ some k_ ≠ (.slice Ao31 t225.length co31 : Value).ownBlock ∧ some k_ ≠ (.slice Ao37 t236.length co37 : Value).ownBlock) (Kd.R_keptB (HO231.out) hkp (fun k_ hk_ hs_ => (hk_.1.2) hs_)) (fun k_ hk_ => ⟨hk_.1.1.1.1.2, hk_.1.1.1.2, hk_.1.1.2, hk_.1.2⟩)); have n6_ := Aside0.mk (Kd.R_mono (ok' := fun k_ => some k_ ≠ (.slice Ao24 t216.length co24 : Value).ownBlock ∧ some k_ ≠ (.slice Ao34 t219.length co34 : Value).ownBlock ∧ some k_ ≠ (.slice Ao31 t225.length co31 : Value).ownBlock ∧ some k_ ≠ (.slice Ao33 t229.length co33 : Value).ownBlock) (Kd.R_keptB (HO238.out) hkp (fun k_ hk_ hs_ => (hk_.1.2) hs_)) (fun k_ hk_ => ⟨hk_.1.1.1.1.2, hk_.1.1.1.2, hk_.1.1.2, hk_.1.2⟩)); have n7_ := Aside0.mk (hb); clear BK211 HO218 HO221 HO227 BK228 HO231 HO238 HB; have BK211 := n0_; have HO218 := n1_; have HO221 := n2_; have HO227 := n3_; have BK228 := n4_; have HO231 := n5_; have HO238 := n6_; have HB := n7_; clear n0_ n1_ n2_ n3_ n4_ n5_ n6_ n7_; (try clear hb); (try clear hkp); (try clear hy0)))
      (try simp only [Act.put, List.setIfInBounds_toArray, List.set_cons_zero, List.set_cons_succ])
      go_cut [46] (fun v46 wc => ∃ (kq : Nat) (x46_17 : Bool), v46 = .bool x46_17 ∧ Aside0 (laws_FnExactPassData.j0 kq a1 t219 t229 x46_17 a0_0 a0_1 a0_2 l0_3 = some r) ∧ Aside0 (kq ≤ k) ∧ Aside0 (Kd.R (Kd.int .i64) 3 wc w.heap.size (fun k_ => some k_ ≠ ((.slice Ao33 t229.length co33) : Value).ownBlock ∧ some k_ ≠ ((.slice Ao31 t225.length co31) : Value).ownBlock) (.slice Ao34 t219.length co34) t219) ∧ Aside0 (Kd.R (Kd.int .i64) 3 wc w.heap.size (fun k_ => some k_ ≠ ((.slice Ao34 t219.length co34) : Value).ownBlock ∧ some k_ ≠ ((.slice Ao31 t225.length co31) : Value).ownBlock) (.slice Ao33 t229.length co33) t229) ∧ Aside0 (Kd.R (Kd.int .i64) 3 wc w.heap.size (fun k_ => some k_ ≠ ((.slice Ao34 t219.length co34) : Value).ownBlock ∧ some k_ ≠ ((.slice Ao33 t229.length co33) : Value).ownBlock) (.slice Ao31 t225.length co31) t241) ∧ Aside0 (wc.heap[gb211]? = some (.cells #[.int .i64 a0_0, .int .i64 a0_1, .int .i64 a0_2, (.slice A0_3 l0_3.length c0_3)] 41 (0, 0))) ∧ Aside0 (wc.heap[gb228]? = some (.cells #[.int .i64 t222, .int .i64 t223, .int .i64 t224, (.slice Ao31 t225.length co31)] 34 (0, 0))) ∧ Aside0 (Below w.heap.size w wc))
      case first =>
        have H := HC18.out
        clear HC18
        by_cases c41 : t240 < 0
        · rw [if_pos c41] at H
          have c41b0 : decide (t240 < 0) = true := decide_eq_true c41
          clear c41
          (first | rw [c41b0] | (simp only [i64_w, i32_w]; rw [c41b0]) | skip)
          exact absurd ht_.out (by revert H; cases k <;> intro H <;> simp [laws_FnExactPassData.j0] at H <;> (first | (subst H; decide) | simp [← H] | simp [H]))
        rw [if_neg c41] at H
        have c41b0 : decide (t240 < 0) = false := decide_eq_false c41
        clear c41
        (first | rw [c41b0] | (simp only [i64_w, i32_w]; rw [c41b0]) | skip)
        replace H := Option.bind_eq_some_iff.mp H
        obtain ⟨t242, A420, H⟩ := H
        replace H : (laws_FnExactPassData.j0 k a1 t219 t229 (!t242) a0_0 a0_1 a0_2 l0_3) = some r := H
        have A42 := Aside0.mk A420
        clear A420
        have H' := Aside0.mk H
        clear H
        go_wp2_with (first | (go_at_call 23; (with_reducible refine (laws_eqIntS.calls k _ _ t229 _ _ t219 t242 _ ?side1 ?side2 ?side3 ?side4 A42.out).mono ?_); (case side1 => exact B.kc ((Kd.R_reads' HO231.out).2.2)); (case side2 => exact (Kd.R_reads' HO231.out).2.1); (case side3 => exact B.kc ((Kd.R_reads' HO221.out).2.2)); (case side4 => exact (Kd.R_reads' HO221.out).2.1); rintro e w' ⟨rfl, ⟨nd, rfl⟩⟩))
        go_meet
        case rel => exact ⟨_, (!t242), (by first | rfl | (simp; done) | (simp [*]; done)), H', ⟨by first | omega | exact Nat.le_refl _⟩, ⟨B.kr0 (Kd.R_mono HO221.out (fun _ hk => ⟨hk.2.2.1, hk.2.1⟩))⟩, ⟨B.kr0 (Kd.R_mono HO231.out (fun _ hk => ⟨hk.2.1, hk.2.2.1⟩))⟩, ⟨B.kr0 (Kd.R_mono HO227.out (fun _ hk => ⟨hk.1.1.2, hk.1.2⟩))⟩, ⟨B.kb BK211⟩, ⟨B.kb BK228⟩, ⟨B.bl HB⟩⟩
      case rest =>
        clear HC18
        try clear c1
        try clear c2
        try clear p2
        try clear c4
        try clear c4b0
        try clear c6
        try clear c13
        try clear c16
        try clear c18
        try clear c20
        try clear c21
        try clear c22
        try clear c23
        try clear c24
        try clear c25
        try clear c29
        try clear c41
        try clear c41b0
        try clear hcz20_0
        try clear hcz20_1
        try clear hcz20_2
        try clear hcz20_3
        try clear hcz22_0
        try clear hcz22_1
        try clear hcz22_2
        try clear hcz22_3
        try clear hcz26_0
        try clear hcz26_1
        try clear hcz26_2
        try clear hcz26_3
        try clear hcz30_0
        try clear hcz30_1
        try clear hcz30_2
        try clear hcz30_3
        try clear hcz39_0
        try clear hcz39_1
        try clear hcz39_2
        try clear hcz39_3
        try clear hcz6_0
        try clear hcz6_1
        try clear hcz6_2
        try clear hcz6_3
        try clear hfz20_0
        try clear hfz20_1
        try clear hfz20_2
        try clear hfz20_3
        try clear hfz22_0
        try clear hfz22_1
        try clear hfz22_2
        try clear hfz22_3
        try clear hfz26_0
        try clear hfz26_1
        try clear hfz26_2
        try clear hfz26_3
        try clear hfz30_0
        try clear hfz30_1
        try clear hfz30_2
        try clear hfz30_3
        try clear hfz39_0
        try clear hfz39_1
        try clear hfz39_2
        try clear hfz39_3
        try clear hfz6_0
        try clear hfz6_1
        try clear hfz6_2
        try clear hfz6_3
        obtain ⟨kq, x46_17, rfl, HA, HJ17, HO_6, HO_8, HO_229003, BK211, BK228, HB⟩ := hcut
        have hl229003_17 := (Kd.R_reads' HO_229003.out).1
        rw [hl229003_17] at HO_229003
        (try simp only [hl229003_17])
        (try simp only [hl229003_17] at BK211)
        (try simp only [hl229003_17] at BK228)
        (try simp only [hl229003_17] at HO_6)
        (try simp only [hl229003_17] at HO_8)
        cases kq with
        | zero => exact absurd HA.out (by simp [laws_FnExactPassData.j0])
        | succ kj17 =>
          have H := HA.out
          clear HA
          simp only [laws_FnExactPassData.j0] at H
          by_cases c43 : x46_17 = true
          · subst c43
            have H1 : (some false) = some r := by rw [if_pos rfl] at H; exact H
            clear H
            have H := H1
            clear H1
            obtain rfl := Option.some.inj H
            exact absurd ht_.out (by decide)
          replace c43 := Bool.eq_false_iff.mpr c43
          subst c43
          have H1 : ((laws_markIntS.f kj17 t229 1).bind fun bt243 => ((laws_heldIntS.f kj17 bt243.2 1).bind fun t245 => (if t245 < 0 then (some false) else (if t245 = bt243.1 then ((laws_toImage.f kj17 a0_0 a0_1 a0_2 l0_3).bind fun bt246 => ((impl_PassData.f kj17 bt246.1 bt246.2.1 bt246.2.2.1 bt246.2.2.2 a1).bind fun t252 => ((laws_eqIntS.f kj17 t252 t219).bind fun t255 => (if t255 = true then ((laws_heldIntS.f kj17 bt243.2 1).bind fun t256 => (if t256 < 0 then (some false) else (if t256 = bt243.1 then (some true) else (some false)))) else (some false))))) else (some false))))) = some r := by rw [if_neg (show ¬ (false = true) by decide)] at H; exact H
          clear H
          have H := H1
          clear H1
          replace H := Option.bind_eq_some_iff.mp H
          obtain ⟨⟨t243, t244⟩, A440, H⟩ := H
          replace H : ((laws_heldIntS.f kj17 t244 1).bind fun t245 => (if t245 < 0 then (some false) else (if t245 = t243 then ((laws_toImage.f kj17 a0_0 a0_1 a0_2 l0_3).bind fun bt246 => ((impl_PassData.f kj17 bt246.1 bt246.2.1 bt246.2.2.1 bt246.2.2.2 a1).bind fun t252 => ((laws_eqIntS.f kj17 t252 t219).bind fun t255 => (if t255 = true then ((laws_heldIntS.f kj17 t244 1).bind fun t256 => (if t256 < 0 then (some false) else (if t256 = t243 then (some true) else (some false)))) else (some false))))) else (some false)))) = some r := H
          have A44 := Aside0.mk A440
          clear A440
          replace H := Option.bind_eq_some_iff.mp H
          obtain ⟨t245, A450, H⟩ := H
          replace H : (if t245 < 0 then (some false) else (if t245 = t243 then ((laws_toImage.f kj17 a0_0 a0_1 a0_2 l0_3).bind fun bt246 => ((impl_PassData.f kj17 bt246.1 bt246.2.1 bt246.2.2.1 bt246.2.2.2 a1).bind fun t252 => ((laws_eqIntS.f kj17 t252 t219).bind fun t255 => (if t255 = true then ((laws_heldIntS.f kj17 t244 1).bind fun t256 => (if t256 < 0 then (some false) else (if t256 = t243 then (some true) else (some false)))) else (some false))))) else (some false))) = some r := H
          have A45 := Aside0.mk A450
          clear A450
          by_cases c46 : t245 < 0
          · rw [if_pos c46] at H
            have c46b0 : decide (t245 < 0) = true := decide_eq_true c46
            clear c46
            obtain rfl := Option.some.inj H
            exact absurd ht_.out (by decide)
          rw [if_neg c46] at H
          have c46b0 : decide (t245 < 0) = false := decide_eq_false c46
          clear c46
          by_cases c47 : t245 = t243
          · rw [if_pos c47] at H
            have c47b0 : (t245 == t243) = true := beq_iff_eq.mpr c47
            have c47b1 : (t245 != t243) = false := bne_eq_false_iff_eq.mpr c47
            clear c47
            replace H := Option.bind_eq_some_iff.mp H
            obtain ⟨⟨t246, t247, t248, t249⟩, A480, H⟩ := H
            replace H : ((impl_PassData.f kj17 t246 t247 t248 t249 a1).bind fun t252 => ((laws_eqIntS.f kj17 t252 t219).bind fun t255 => (if t255 = true then ((laws_heldIntS.f kj17 t244 1).bind fun t256 => (if t256 < 0 then (some false) else (if t256 = t243 then (some true) else (some false)))) else (some false)))) = some r := H
            have A48 := Aside0.mk A480
            clear A480
            replace H := Option.bind_eq_some_iff.mp H
            obtain ⟨t252, A490, H⟩ := H
            replace H : ((laws_eqIntS.f kj17 t252 t219).bind fun t255 => (if t255 = true then ((laws_heldIntS.f kj17 t244 1).bind fun t256 => (if t256 < 0 then (some false) else (if t256 = t243 then (some true) else (some false)))) else (some false))) = some r := H
            have A49 := Aside0.mk A490
            clear A490
            replace H := Option.bind_eq_some_iff.mp H
            obtain ⟨t255, A500, H⟩ := H
            replace H : (if t255 = true then ((laws_heldIntS.f kj17 t244 1).bind fun t256 => (if t256 < 0 then (some false) else (if t256 = t243 then (some true) else (some false)))) else (some false)) = some r := H
            have A50 := Aside0.mk A500
            clear A500
            by_cases c51 : t255 = true
            · subst c51
              have H1 : ((laws_heldIntS.f kj17 t244 1).bind fun t256 => (if t256 < 0 then (some false) else (if t256 = t243 then (some true) else (some false)))) = some r := by rw [if_pos rfl] at H; exact H
              clear H
              have H := H1
              clear H1
              replace H := Option.bind_eq_some_iff.mp H
              obtain ⟨t256, A520, H⟩ := H
              replace H : (if t256 < 0 then (some false) else (if t256 = t243 then (some true) else (some false))) = some r := H
              have A52 := Aside0.mk A520
              clear A520
              by_cases c53 : t256 < 0
              · rw [if_pos c53] at H
                have c53b0 : decide (t256 < 0) = true := decide_eq_true c53
                clear c53
                obtain rfl := Option.some.inj H
                exact absurd ht_.out (by decide)
              rw [if_neg c53] at H
              have c53b0 : decide (t256 < 0) = false := decide_eq_false c53
              clear c53
              by_cases c54 : t256 = t243
              · rw [if_pos c54] at H
                have c54b0 : (t256 == t243) = true := beq_iff_eq.mpr c54
                have c54b1 : (t256 != t243) = false := bne_eq_false_iff_eq.mpr c54
                clear c54
                obtain rfl := Option.some.inj H
                simp only [Option.some.injEq, Prod.mk.injEq] at H
                obtain ⟨rfl⟩ := H
                go_wp2_with (first | ((with_reducible refine gate_callee (f := 26) rfl ?_); refine goesL_ (some 49) rfl rfl Try.func26 (by kernel_rfl) rfl #[.slice Ao33 t229.length co33, .int .i64 1] rfl B.am ?_; (with_reducible refine (laws_markIntS.calls kj17 (fun k_ => some k_ = (.slice Ao33 t229.length co33 : Value).ownBlock) (.slice Ao33 t229.length co33) t229 1 t243 t244 w _ ?side1 ?side2 A44.out).mono ?_); (case side1 => exact B.bl HB); (case side2 => exact Kd.R_tight rfl HO_8.out); rintro e w55 ⟨rfl, hy0, hb, hkp⟩; refine ⟨_, rfl, ?_⟩; have n0_ := Aside0.mk (Kd.R_mono (ok' := fun k_ => some k_ ≠ (.slice Ao33 t229.length co33 : Value).ownBlock ∧ some k_ ≠ (.slice Ao31 t241.length co31 : Value).ownBlock) (Kd.R_keptB (HO_6.out) hkp (fun k_ hk_ hs_ => (hk_.1) hs_)) (fun k_ hk_ => ⟨hk_.1.1, hk_.1.2⟩)); have n1_ := Aside0.mk (Kd.R_reok rfl hy0 (fun k_ e_ => HO_8.out.1 k_ e_)); have n2_ := Aside0.mk (Kd.R_mono (ok' := fun k_ => some k_ ≠ (.slice Ao34 t219.length co34 : Value).ownBlock ∧ some k_ ≠ (.slice Ao33 t229.length co33 : Value).ownBlock) (Kd.R_keptB (HO_229003.out) hkp (fun k_ hk_ hs_ => (hk_.2) hs_)) (fun k_ hk_ => ⟨hk_.1.1, hk_.1.2⟩)); have n3_ := Aside0.mk (blk_kept (B.kb BK211) hkp (fun hs_ => (fun e_ => (Kd.R_ne HO_8.out BK211.out (by decide)) e_) hs_)); have n4_ := Aside0.mk (blk_kept (B.kb BK228) hkp (fun hs_ => (fun e_ => (Kd.R_ne HO_8.out BK228.out (by decide)) e_) hs_)); have n5_ := Aside0.mk (hb); clear HO_6 HO_8 HO_229003 BK211 BK228 HB; have HO_6 := n0_; have HO_8 := n1_; have HO_229003 := n2_; have BK211 := n3_; have BK228 := n4_; have HB := n5_; clear n0_ n1_ n2_ n3_ n4_ n5_; (try clear hb); (try clear hkp); (try clear hy0)) | ((with_reducible refine gate_callee (f := 27) rfl ?_); refine goesL_ (some 52) rfl rfl Try.func27 (by kernel_rfl) rfl #[.slice Ao33 t244.length co33, .int .i64 1] rfl (by (try simp only [List.map_toArray, List.map_cons, List.map_nil]); first | done | (rw [show t244.length = t229.length from (Kd.R_reads' HO_8.out).1.symm] <;> rfl) | rfl | (simp only [List.length_drop, List.length_take]; rfl)) ?_; (with_reducible refine (laws_heldIntS.calls kj17 _ _ t244 1 t245 _ ?side1 ?side2 A45.out).mono ?_); (case side1 => exact B.kc ((Kd.R_reads' HO_8.out).2.2)); (case side2 => rw [show t244.length = t229.length from (Kd.R_reads' HO_8.out).1.symm]; exact (Kd.R_reads' HO_8.out).2.1); rintro e w' ⟨rfl, ⟨nd, rfl⟩⟩; refine ⟨_, rfl, ?_⟩; have hnb56 := NB211_228.out; have hnc56 := NB228_211.out; have hcz57_0 : w55.cell? ⟨gb211, 0, none⟩ = some (.int .i64 a0_0) := B.bc BK211 0; have hcz57_1 : w55.cell? ⟨gb211, 1, none⟩ = some (.int .i64 a0_1) := B.bc BK211 1; have hcz57_2 : w55.cell? ⟨gb211, 2, none⟩ = some (.int .i64 a0_2) := B.bc BK211 2; have hcz57_3 : w55.cell? ⟨gb211, 3, none⟩ = some (.slice A0_3 l0_3.length c0_3) := B.bc BK211 3; have hfz57_0 := blk_frozen BK211.out 0; have hfz57_1 := blk_frozen BK211.out 1; have hfz57_2 := blk_frozen BK211.out 2; have hfz57_3 := blk_frozen BK211.out 3) | ((with_reducible refine gate_callee (f := 22) rfl ?_); refine goesL_ (some 59) rfl rfl Try.func22 (by kernel_rfl) rfl #[.agg #[.int .i64 a0_0, .int .i64 a0_1, .int .i64 a0_2, .slice A0_3 l0_3.length c0_3]] rfl B.am ?_; (with_reducible refine (laws_toImage.calls kj17 a0_0 a0_1 a0_2 _ _ l0_3 t246 t247 t248 t249 _ ?side1 ?side2 A48.out).mono ?_); (case side1 => exact B.kc (Kd.C_below HR0_3.out (B.bl HB))); (case side2 => exact HC0_3.out); rintro e w58 ⟨v250, rfl, ho0, hb⟩; refine ⟨_, rfl, ?_⟩; have n0_ := Aside0.mk (Kd.R_elder' (B.kr HO_6) (Kd.R_base ho0) hb); have n1_ := Aside0.mk (Kd.R_elder' (B.kr HO_8) (Kd.R_base ho0) hb); have n2_ := Aside0.mk (Kd.R_elder' (B.kr HO_229003) (Kd.R_base ho0) hb); have n3_ := Aside0.mk (Kd.R_lower (Kd.R_new' (Kd.R_new' (Kd.R_new' ho0 (Kd.R_lt (B.kr HO_6))) (Kd.R_lt (B.kr HO_8))) (Kd.R_lt (B.kr HO_229003))) (below_size (B.bl HB))); have n4_ := Aside0.mk (blk_below (B.kb BK211) hb); have n5_ := Aside0.mk (blk_below (B.kb BK228) hb); have n6_ := Aside0.mk (below_step (B.bl HB) hb); clear HO_6 HO_8 HO_229003 BK211 BK228 HB; have HO_6 := n0_; have HO_8 := n1_; have HO_229003 := n2_; have HO251 := n3_; have BK211 := n4_; have BK228 := n5_; have HB := n6_; clear n0_ n1_ n2_ n3_ n4_ n5_ n6_; (try clear hb); (try clear hb2); (try clear hk); (try clear hi); (try clear ho0); obtain ⟨Ao59, co59, eo59⟩ := Kd.R_slice HO251.out; subst eo59) | ((with_reducible refine gate_callee (f := 18) rfl ?_); refine goesL_ (some 61) rfl rfl Try.func18 (by kernel_rfl) rfl #[.agg #[.int .i64 t246, .int .i64 t247, .int .i64 t248, .slice Ao59 t249.length co59], .int .i64 a1] rfl B.am ?_; (with_reducible refine (impl_PassData.calls kj17 t246 t247 t248 _ _ t249 a1 t252 _ ?side1 ?side2 A49.out).mono ?_); (case side1 => exact B.kc ((Kd.R_reads' HO251.out).2.2)); (case side2 => exact (Kd.R_reads' HO251.out).2.1); rintro e w60 ⟨v253, rfl, ho0, hb⟩; refine ⟨_, rfl, ?_⟩; have n0_ := Aside0.mk (Kd.R_elder' (B.kr HO_6) (Kd.R_base ho0) hb); have n1_ := Aside0.mk (Kd.R_elder' (B.kr HO_8) (Kd.R_base ho0) hb); have n2_ := Aside0.mk (Kd.R_elder' (B.kr HO_229003) (Kd.R_base ho0) hb); have n3_ := Aside0.mk (Kd.R_elder' (B.kr HO251) (Kd.R_base ho0) hb); have n4_ := Aside0.mk (Kd.R_lower (Kd.R_new' (Kd.R_new' (Kd.R_new' (Kd.R_new' ho0 (Kd.R_lt (B.kr HO_6))) (Kd.R_lt (B.kr HO_8))) (Kd.R_lt (B.kr HO_229003))) (Kd.R_lt (B.kr HO251))) (below_size (B.bl HB))); have n5_ := Aside0.mk (blk_below (B.kb BK211) hb); have n6_ := Aside0.mk (blk_below (B.kb BK228) hb); have n7_ := Aside0.mk (below_step (B.bl HB) hb); clear HO_6 HO_8 HO_229003 HO251 BK211 BK228 HB; have HO_6 := n0_; have HO_8 := n1_; have HO_229003 := n2_; have HO251 := n3_; have HO254 := n4_; have BK211 := n5_; have BK228 := n6_; have HB := n7_; clear n0_ n1_ n2_ n3_ n4_ n5_ n6_ n7_; (try clear hb); (try clear hb2); (try clear hk); (try clear hi); (try clear ho0); obtain ⟨Ao61, co61, eo61⟩ := Kd.R_slice HO254.out; subst eo61) | ((with_reducible refine gate_callee (f := 23) rfl ?_); refine goesL_ (some 64) rfl rfl Try.func23 (by kernel_rfl) rfl #[.slice Ao61 t252.length co61, .slice Ao34 t219.length co34] rfl B.am ?_; (with_reducible refine (laws_eqIntS.calls kj17 _ _ t252 _ _ t219 true _ ?side1 ?side2 ?side3 ?side4 A50.out).mono ?_); (case side1 => exact B.kc ((Kd.R_reads' HO254.out).2.2)); (case side2 => exact (Kd.R_reads' HO254.out).2.1); (case side3 => exact B.kc ((Kd.R_reads' HO_6.out).2.2)); (case side4 => exact (Kd.R_reads' HO_6.out).2.1); rintro e w' ⟨rfl, ⟨nd, rfl⟩⟩; refine ⟨_, rfl, ?_⟩) | ((with_reducible refine gate_callee (f := 27) rfl ?_); refine goesL_ (some 68) rfl rfl Try.func27 (by kernel_rfl) rfl #[.slice Ao33 t244.length co33, .int .i64 1] rfl (by (try simp only [List.map_toArray, List.map_cons, List.map_nil]); first | done | (rw [show t244.length = t229.length from (Kd.R_reads' HO_8.out).1.symm] <;> rfl) | rfl | (simp only [List.length_drop, List.length_take]; rfl)) ?_; (with_reducible refine (laws_heldIntS.calls kj17 _ _ t244 1 t256 _ ?side1 ?side2 A52.out).mono ?_); (case side1 => exact B.kc ((Kd.R_reads' HO_8.out).2.2)); (case side2 => rw [show t244.length = t229.length from (Kd.R_reads' HO_8.out).1.symm]; exact (Kd.R_reads' HO_8.out).2.1); rintro e w' ⟨rfl, ⟨nd, rfl⟩⟩; refine ⟨_, rfl, ?_⟩))
                go_ret
                exact ⟨by first | rfl | (simp [errW_none, errW_some] <;> rfl) | (simp [*, errW_none, errW_some] <;> rfl), B.bl HB⟩
              rw [if_neg c54] at H
              have c54b0 : (t256 == t243) = false := beq_eq_false_iff_ne.mpr c54
              have c54b1 : (t256 != t243) = true := bne_iff_ne.mpr c54
              obtain rfl := Option.some.inj H
              exact absurd ht_.out (by decide)
            replace c51 := Bool.eq_false_iff.mpr c51
            subst c51
            have H1 : (some false) = some r := by rw [if_neg (show ¬ (false = true) by decide)] at H; exact H
            clear H
            have H := H1
            clear H1
            obtain rfl := Option.some.inj H
            exact absurd ht_.out (by decide)
          rw [if_neg c47] at H
          have c47b0 : (t245 == t243) = false := beq_eq_false_iff_ne.mpr c47
          have c47b1 : (t245 != t243) = true := bne_iff_ne.mpr c47
          obtain rfl := Option.some.inj H
          exact absurd ht_.out (by decide)
    replace c16 := Bool.eq_false_iff.mpr c16
    subst c16
    have H1 : (some false) = some r := by rw [if_neg (show ¬ (false = true) by decide)] at H; exact H
    clear H
    have H := H1
    clear H1
    obtain rfl := Option.some.inj H
    exact absurd ht_.out (by decide)
  replace c13 := Bool.eq_false_iff.mpr c13
  subst c13
  have H1 : (some false) = some r := by rw [if_neg (show ¬ (false = true) by decide)] at H; exact H
  clear H
  have H := H1
  clear H1
  obtain rfl := Option.some.inj H
  exact absurd ht_.out (by decide)

end Go.Proofs.Ytpadegboplcapaa.Q
