-- Written by a program of this session (the kit's printer, with hand-proved contracts for the functions that it does not take).
import Derived.Test.YtibbkaoghbmncaaQ0
import Derived.Test.YtibbkaoghbmncaaQ8
import Derived.Test.YtibbkaoghbmncaaQ9
import Derived.Test.YtibbkaoghbmncaaQ12
namespace Go.Proofs.Ytibbkaoghbmncaa.Q
open Go.RowKit Go.Proofs.YtibbkaoghbmncaaW.PrintWords Go.Proofs.YtibbkaoghbmncaaW.PrintLast Go.Proofs.YtibbkaoghbmncaaW.PrintMore
attribute [local go_sem] max2_int min2_int max_two min_two max_three min_three max_four min_four   -- for this text's walks alone
set_option linter.unusedVariables false
set_option linter.unusedSimpArgs false

/-! ### laws_FnExactTransposeImage: function 3 -/
def laws_FnExactTransposeImage.j0 : Nat → Bool → Int → Int → Int → List Int → Int → Int → Int → List Int → Int → Int → Int → List Int → Option (Bool)
  | 0, _, _, _, _, _, _, _, _, _, _, _, _, _ => none
  | k + 1, x42, x172000, x172001, x172002, x172003, x186000, x186001, x186002, x186003, x200000, x200001, x200002, x200003 => if x42 = true then (some false) else ((laws_markImage.f k x200000 x200001 x200002 x200003 1).bind fun bt211 => ((laws_heldImage.f k x200000 x200001 x200002 bt211.2 1).bind fun t213 => (if t213 < 0 then (some false) else (if t213 = bt211.1 then ((laws_toImage.f k x172000 x172001 x172002 x172003).bind fun bt214 => ((impl_TransposeImage.f bt214.1 bt214.2.1 bt214.2.2.1 bt214.2.2.2).bind fun bt220 => ((laws_eqImage.f k bt220.1 bt220.2.1 bt220.2.2.1 bt220.2.2.2 x186000 x186001 x186002 x186003).bind fun t227 => (if t227 = true then ((laws_heldImage.f k x200000 x200001 x200002 bt211.2 1).bind fun t228 => (if t228 < 0 then (some false) else (if t228 = bt211.1 then (some true) else (some false)))) else (some false))))) else (some false)))))
def laws_FnExactTransposeImage.f (k : Nat) (a0_0 : Int) (a0_1 : Int) (a0_2 : Int) (l0_3 : List Int) : Option (Bool) := (laws_szImage.f a0_0 a0_1 a0_2 l0_3 1048576).bind fun t172 => (if t172 < 0 then (some true) else ((laws_toImage.f k a0_0 a0_1 a0_2 l0_3).bind fun bt173 => ((spec_TransposeImage.f k bt173.1 bt173.2.1 bt173.2.2.1 bt173.2.2.2).bind fun bt179 => ((laws_toImage.f k a0_0 a0_1 a0_2 l0_3).bind fun bt186 => ((impl_TransposeImage.f bt186.1 bt186.2.1 bt186.2.2.1 bt186.2.2.2).bind fun bt193 => ((laws_eqImage.f k bt193.1 bt193.2.1 bt193.2.2.1 bt193.2.2.2 bt179.1 bt179.2.1 bt179.2.2.1 bt179.2.2.2).bind fun t200 => (if t200 = true then ((laws_toImage.f k a0_0 a0_1 a0_2 l0_3).bind fun bt201 => ((laws_eqImage.f k bt186.1 bt186.2.1 bt186.2.2.1 bt186.2.2.2 bt201.1 bt201.2.1 bt201.2.2.1 bt201.2.2.2).bind fun t207 => (if t207 = true then ((laws_markImage.f k bt186.1 bt186.2.1 bt186.2.2.1 bt186.2.2.2 1).bind fun bt208 => (if bt208.1 < 0 then (laws_FnExactTransposeImage.j0 k true a0_0 a0_1 a0_2 l0_3 bt179.1 bt179.2.1 bt179.2.2.1 bt179.2.2.2 bt193.1 bt193.2.1 bt193.2.2.1 bt193.2.2.2) else ((laws_eqImage.f k bt193.1 bt193.2.1 bt193.2.2.1 bt193.2.2.2 bt179.1 bt179.2.1 bt179.2.2.1 bt179.2.2.2).bind fun t210 => (laws_FnExactTransposeImage.j0 k (!t210) a0_0 a0_1 a0_2 l0_3 bt179.1 bt179.2.1 bt179.2.2.1 bt179.2.2.2 bt193.1 bt193.2.1 bt193.2.2.1 bt193.2.2.2)))) else (some false)))) else (some false))))))))
theorem laws_FnExactTransposeImage.mono_l : ∀ k, (∀ y0 y1 y2 y3 y4 y5 y6 y7 y8 y9 y10 y11 y12, LeO (laws_FnExactTransposeImage.j0 k y0 y1 y2 y3 y4 y5 y6 y7 y8 y9 y10 y11 y12) (laws_FnExactTransposeImage.j0 (k + 1) y0 y1 y2 y3 y4 y5 y6 y7 y8 y9 y10 y11 y12))
  | 0 => fun _ _ _ _ _ _ _ _ _ _ _ _ _ r h => by simp [laws_FnExactTransposeImage.j0] at h
  | k + 1 => by
    have ih0 := laws_FnExactTransposeImage.mono_l k
    · intro y0 y1 y2 y3 y4 y5 y6 y7 y8 y9 y10 y11 y12
      unfold laws_FnExactTransposeImage.j0
      repeat' first
      | (with_reducible exact ih0 _ _ _ _ _ _ _ _ _ _ _ _ _)
      | (with_reducible exact laws_eqImage.mono _ _ _ _ _ _ _ _ _)
      | (with_reducible exact laws_heldImage.mono _ _ _ _ _ _)
      | (with_reducible exact laws_markImage.mono _ _ _ _ _ _)
      | (with_reducible exact laws_toImage.mono _ _ _ _ _)
      | (with_reducible exact spec_TransposeImage.mono _ _ _ _ _)
      | (with_reducible exact LeO.refl _)
      | (with_reducible exact LeO.none _)
      | (with_reducible refine LeO.ite ?_ ?_)
      | (with_reducible refine LeO.bind ?_ (fun _ => ?_))
      | exact ih0 _ _ _ _ _ _ _ _ _ _ _ _ _
      | exact laws_eqImage.mono _ _ _ _ _ _ _ _ _
      | exact laws_heldImage.mono _ _ _ _ _ _
      | exact laws_markImage.mono _ _ _ _ _ _
      | exact laws_toImage.mono _ _ _ _ _
      | exact spec_TransposeImage.mono _ _ _ _ _
      | exact LeO.none _
      | refine LeO.ite ?_ ?_
      | refine LeO.bind ?_ (fun _ => ?_)
theorem laws_FnExactTransposeImage.mono : ∀ a0 a1 a2 a3 k, LeO (laws_FnExactTransposeImage.f k a0 a1 a2 a3) (laws_FnExactTransposeImage.f (k + 1) a0 a1 a2 a3) := by
  intro a0 a1 a2 a3 k
  have ih0 := laws_FnExactTransposeImage.mono_l k
  unfold laws_FnExactTransposeImage.f
  repeat' first
      | (with_reducible exact ih0 _ _ _ _ _ _ _ _ _ _ _ _ _)
      | (with_reducible exact laws_eqImage.mono _ _ _ _ _ _ _ _ _)
      | (with_reducible exact laws_heldImage.mono _ _ _ _ _ _)
      | (with_reducible exact laws_markImage.mono _ _ _ _ _ _)
      | (with_reducible exact laws_toImage.mono _ _ _ _ _)
      | (with_reducible exact spec_TransposeImage.mono _ _ _ _ _)
      | (with_reducible exact LeO.refl _)
      | (with_reducible exact LeO.none _)
      | (with_reducible refine LeO.ite ?_ ?_)
      | (with_reducible refine LeO.bind ?_ (fun _ => ?_))
      | exact ih0 _ _ _ _ _ _ _ _ _ _ _ _ _
      | exact laws_eqImage.mono _ _ _ _ _ _ _ _ _
      | exact laws_heldImage.mono _ _ _ _ _ _
      | exact laws_markImage.mono _ _ _ _ _ _
      | exact laws_toImage.mono _ _ _ _ _
      | exact spec_TransposeImage.mono _ _ _ _ _
      | exact LeO.none _
      | refine LeO.ite ?_ ?_
      | refine LeO.bind ?_ (fun _ => ?_)
set_option maxHeartbeats 8000000 in
set_option maxRecDepth 100000 in
theorem laws_FnExactTransposeImage.calls (k : Nat) (a0_0 : Int) (a0_1 : Int) (a0_2 : Int) (A0_3 : Option Addr) (c0_3 : Nat) (l0_3 : List Int) (r : Bool) (w : World) (hr0_3 : Kd.C (Kd.int .i64) w A0_3 l0_3.length l0_3) (hc0_3 : l0_3.length ≤ c0_3) (h : laws_FnExactTransposeImage.f k a0_0 a0_1 a0_2 l0_3 = some r) (ht_ : Aside0 (r = true)) :
    Calls Try.prog 3 #[.agg #[.int .i64 a0_0, .int .i64 a0_1, .int .i64 a0_2, .slice A0_3 l0_3.length c0_3]] w fun e w' => e = .returned (.bool r) ∧ Below w.heap.size w w' := by
  have hu24 := Try.underlying24
  have hu26 := Try.underlying26
  have HR0_3 := Aside0.mk hr0_3
  have HC0_3 := Aside0.mk hc0_3
  clear hr0_3 hc0_3
  have HB := Aside0.mk (Below.refl w.heap.size w)
  have H : ((laws_szImage.f a0_0 a0_1 a0_2 l0_3 1048576).bind fun t172 => (if t172 < 0 then (some true) else ((laws_toImage.f k a0_0 a0_1 a0_2 l0_3).bind fun bt173 => ((spec_TransposeImage.f k bt173.1 bt173.2.1 bt173.2.2.1 bt173.2.2.2).bind fun bt179 => ((laws_toImage.f k a0_0 a0_1 a0_2 l0_3).bind fun bt186 => ((impl_TransposeImage.f bt186.1 bt186.2.1 bt186.2.2.1 bt186.2.2.2).bind fun bt193 => ((laws_eqImage.f k bt193.1 bt193.2.1 bt193.2.2.1 bt193.2.2.2 bt179.1 bt179.2.1 bt179.2.2.1 bt179.2.2.2).bind fun t200 => (if t200 = true then ((laws_toImage.f k a0_0 a0_1 a0_2 l0_3).bind fun bt201 => ((laws_eqImage.f k bt186.1 bt186.2.1 bt186.2.2.1 bt186.2.2.2 bt201.1 bt201.2.1 bt201.2.2.1 bt201.2.2.2).bind fun t207 => (if t207 = true then ((laws_markImage.f k bt186.1 bt186.2.1 bt186.2.2.1 bt186.2.2.2 1).bind fun bt208 => (if bt208.1 < 0 then (laws_FnExactTransposeImage.j0 k true a0_0 a0_1 a0_2 l0_3 bt179.1 bt179.2.1 bt179.2.2.1 bt179.2.2.2 bt193.1 bt193.2.1 bt193.2.2.1 bt193.2.2.2) else ((laws_eqImage.f k bt193.1 bt193.2.1 bt193.2.2.1 bt193.2.2.2 bt179.1 bt179.2.1 bt179.2.2.1 bt179.2.2.2).bind fun t210 => (laws_FnExactTransposeImage.j0 k (!t210) a0_0 a0_1 a0_2 l0_3 bt179.1 bt179.2.1 bt179.2.2.1 bt179.2.2.2 bt193.1 bt193.2.1 bt193.2.2.1 bt193.2.2.2)))) else (some false)))) else (some false))))))))) = some r := h
  clear h
  replace H := Option.bind_eq_some_iff.mp H
  obtain ⟨t172, A20, H⟩ := H
  replace H : (if t172 < 0 then (some true) else ((laws_toImage.f k a0_0 a0_1 a0_2 l0_3).bind fun bt173 => ((spec_TransposeImage.f k bt173.1 bt173.2.1 bt173.2.2.1 bt173.2.2.2).bind fun bt179 => ((laws_toImage.f k a0_0 a0_1 a0_2 l0_3).bind fun bt186 => ((impl_TransposeImage.f bt186.1 bt186.2.1 bt186.2.2.1 bt186.2.2.2).bind fun bt193 => ((laws_eqImage.f k bt193.1 bt193.2.1 bt193.2.2.1 bt193.2.2.2 bt179.1 bt179.2.1 bt179.2.2.1 bt179.2.2.2).bind fun t200 => (if t200 = true then ((laws_toImage.f k a0_0 a0_1 a0_2 l0_3).bind fun bt201 => ((laws_eqImage.f k bt186.1 bt186.2.1 bt186.2.2.1 bt186.2.2.2 bt201.1 bt201.2.1 bt201.2.2.1 bt201.2.2.2).bind fun t207 => (if t207 = true then ((laws_markImage.f k bt186.1 bt186.2.1 bt186.2.2.1 bt186.2.2.2 1).bind fun bt208 => (if bt208.1 < 0 then (laws_FnExactTransposeImage.j0 k true a0_0 a0_1 a0_2 l0_3 bt179.1 bt179.2.1 bt179.2.2.1 bt179.2.2.2 bt193.1 bt193.2.1 bt193.2.2.1 bt193.2.2.2) else ((laws_eqImage.f k bt193.1 bt193.2.1 bt193.2.2.1 bt193.2.2.2 bt179.1 bt179.2.1 bt179.2.2.1 bt179.2.2.2).bind fun t210 => (laws_FnExactTransposeImage.j0 k (!t210) a0_0 a0_1 a0_2 l0_3 bt179.1 bt179.2.1 bt179.2.2.1 bt179.2.2.2 bt193.1 bt193.2.1 bt193.2.2.1 bt193.2.2.2)))) else (some false)))) else (some false)))))))) = some r := H
  have A2 := Aside0.mk A20
  clear A20
  by_cases c3 : t172 < 0
  · rw [if_pos c3] at H
    have c3b0 : decide (t172 < 0) = true := decide_eq_true c3
    clear c3
    obtain rfl := Option.some.inj H
    simp only [Option.some.injEq, Prod.mk.injEq] at H
    obtain ⟨rfl⟩ := H
    go_enter Try.func3, Try.ntmps3
    go_wp2_with (first | ((with_reducible refine gate_dst (N := 1) rfl ?_); refine box_event ?hg (N := 1) ?hd (cs := #[.int .i64 a0_0, .int .i64 a0_1, .int .i64 a0_2, .slice A0_3 l0_3.length c0_3]) (t := 24) ?hr ?_; (case hd => rfl); (case hg => rfl); (case hr => first | (go_simp; done) | (go_simp; rfl)); intro gb171 hg w4 hbox hb; have n0_ := Aside0.mk (below_step (B.bl HB) hb); have n1_ := Aside0.mk (hbox); have n2_ := Aside0.mk (B.nle hg (below_size (B.bl HB))); have n3_ := Aside0.mk (B.nle hg (below_size (B.bl HB))); clear HB; have HB := n0_; have BK171 := n1_; have GW171 := n2_; have GE171 := n3_; clear n0_ n1_ n2_ n3_; clear hb hbox hg; have hcz5_0 : w4.cell? ⟨gb171, 0, none⟩ = some (.int .i64 a0_0) := B.bc BK171 0; have hcz5_1 : w4.cell? ⟨gb171, 1, none⟩ = some (.int .i64 a0_1) := B.bc BK171 1; have hcz5_2 : w4.cell? ⟨gb171, 2, none⟩ = some (.int .i64 a0_2) := B.bc BK171 2; have hcz5_3 : w4.cell? ⟨gb171, 3, none⟩ = some (.slice A0_3 l0_3.length c0_3) := B.bc BK171 3; have hfz5_0 := blk_frozen BK171.out 0; have hfz5_1 := blk_frozen BK171.out 1; have hfz5_2 := blk_frozen BK171.out 2; have hfz5_3 := blk_frozen BK171.out 3) | ((with_reducible refine gate_callee (f := 12) rfl ?_); refine goesL_ (some 13) rfl rfl Try.func12 (by kernel_rfl) rfl #[.agg #[.int .i64 a0_0, .int .i64 a0_1, .int .i64 a0_2, .slice A0_3 l0_3.length c0_3], .int .i64 1048576] rfl B.am ?_; (with_reducible refine (laws_szImage.calls a0_0 a0_1 a0_2 _ _ l0_3 1048576 t172 _ ?side1 ?side2 A2.out).mono ?_); (case side1 => exact B.kc (Kd.C_below HR0_3.out HB.out)); (case side2 => exact HC0_3.out); rintro e w6 ⟨rfl, hb⟩; refine ⟨_, rfl, ?_⟩; have n0_ := Aside0.mk (blk_below (B.kb BK171) hb); have n1_ := Aside0.mk (below_step (B.bl HB) hb); clear BK171 HB; have BK171 := n0_; have HB := n1_; clear n0_ n1_; (try clear hb); (try clear hb2); (try clear hk); (try clear hi)))
    go_ret
    exact ⟨by first | rfl | (simp [errW_none, errW_some] <;> rfl) | (simp [*, errW_none, errW_some] <;> rfl), B.bl HB⟩
  rw [if_neg c3] at H
  have c3b0 : decide (t172 < 0) = false := decide_eq_false c3
  clear c3
  replace H := Option.bind_eq_some_iff.mp H
  obtain ⟨⟨t173, t174, t175, t176⟩, A70, H⟩ := H
  replace H : ((spec_TransposeImage.f k t173 t174 t175 t176).bind fun bt179 => ((laws_toImage.f k a0_0 a0_1 a0_2 l0_3).bind fun bt186 => ((impl_TransposeImage.f bt186.1 bt186.2.1 bt186.2.2.1 bt186.2.2.2).bind fun bt193 => ((laws_eqImage.f k bt193.1 bt193.2.1 bt193.2.2.1 bt193.2.2.2 bt179.1 bt179.2.1 bt179.2.2.1 bt179.2.2.2).bind fun t200 => (if t200 = true then ((laws_toImage.f k a0_0 a0_1 a0_2 l0_3).bind fun bt201 => ((laws_eqImage.f k bt186.1 bt186.2.1 bt186.2.2.1 bt186.2.2.2 bt201.1 bt201.2.1 bt201.2.2.1 bt201.2.2.2).bind fun t207 => (if t207 = true then ((laws_markImage.f k bt186.1 bt186.2.1 bt186.2.2.1 bt186.2.2.2 1).bind fun bt208 => (if bt208.1 < 0 then (laws_FnExactTransposeImage.j0 k true a0_0 a0_1 a0_2 l0_3 bt179.1 bt179.2.1 bt179.2.2.1 bt179.2.2.2 bt193.1 bt193.2.1 bt193.2.2.1 bt193.2.2.2) else ((laws_eqImage.f k bt193.1 bt193.2.1 bt193.2.2.1 bt193.2.2.2 bt179.1 bt179.2.1 bt179.2.2.1 bt179.2.2.2).bind fun t210 => (laws_FnExactTransposeImage.j0 k (!t210) a0_0 a0_1 a0_2 l0_3 bt179.1 bt179.2.1 bt179.2.2.1 bt179.2.2.2 bt193.1 bt193.2.1 bt193.2.2.1 bt193.2.2.2)))) else (some false)))) else (some false)))))) = some r := H
  have A7 := Aside0.mk A70
  clear A70
  replace H := Option.bind_eq_some_iff.mp H
  obtain ⟨⟨t179, t180, t181, t182⟩, A80, H⟩ := H
  replace H : ((laws_toImage.f k a0_0 a0_1 a0_2 l0_3).bind fun bt186 => ((impl_TransposeImage.f bt186.1 bt186.2.1 bt186.2.2.1 bt186.2.2.2).bind fun bt193 => ((laws_eqImage.f k bt193.1 bt193.2.1 bt193.2.2.1 bt193.2.2.2 t179 t180 t181 t182).bind fun t200 => (if t200 = true then ((laws_toImage.f k a0_0 a0_1 a0_2 l0_3).bind fun bt201 => ((laws_eqImage.f k bt186.1 bt186.2.1 bt186.2.2.1 bt186.2.2.2 bt201.1 bt201.2.1 bt201.2.2.1 bt201.2.2.2).bind fun t207 => (if t207 = true then ((laws_markImage.f k bt186.1 bt186.2.1 bt186.2.2.1 bt186.2.2.2 1).bind fun bt208 => (if bt208.1 < 0 then (laws_FnExactTransposeImage.j0 k true a0_0 a0_1 a0_2 l0_3 t179 t180 t181 t182 bt193.1 bt193.2.1 bt193.2.2.1 bt193.2.2.2) else ((laws_eqImage.f k bt193.1 bt193.2.1 bt193.2.2.1 bt193.2.2.2 t179 t180 t181 t182).bind fun t210 => (laws_FnExactTransposeImage.j0 k (!t210) a0_0 a0_1 a0_2 l0_3 t179 t180 t181 t182 bt193.1 bt193.2.1 bt193.2.2.1 bt193.2.2.2)))) else (some false)))) else (some false))))) = some r := H
  have A8 := Aside0.mk A80
  clear A80
  replace H := Option.bind_eq_some_iff.mp H
  obtain ⟨⟨t186, t187, t188, t189⟩, A90, H⟩ := H
  replace H : ((impl_TransposeImage.f t186 t187 t188 t189).bind fun bt193 => ((laws_eqImage.f k bt193.1 bt193.2.1 bt193.2.2.1 bt193.2.2.2 t179 t180 t181 t182).bind fun t200 => (if t200 = true then ((laws_toImage.f k a0_0 a0_1 a0_2 l0_3).bind fun bt201 => ((laws_eqImage.f k t186 t187 t188 t189 bt201.1 bt201.2.1 bt201.2.2.1 bt201.2.2.2).bind fun t207 => (if t207 = true then ((laws_markImage.f k t186 t187 t188 t189 1).bind fun bt208 => (if bt208.1 < 0 then (laws_FnExactTransposeImage.j0 k true a0_0 a0_1 a0_2 l0_3 t179 t180 t181 t182 bt193.1 bt193.2.1 bt193.2.2.1 bt193.2.2.2) else ((laws_eqImage.f k bt193.1 bt193.2.1 bt193.2.2.1 bt193.2.2.2 t179 t180 t181 t182).bind fun t210 => (laws_FnExactTransposeImage.j0 k (!t210) a0_0 a0_1 a0_2 l0_3 t179 t180 t181 t182 bt193.1 bt193.2.1 bt193.2.2.1 bt193.2.2.2)))) else (some false)))) else (some false)))) = some r := H
  have A9 := Aside0.mk A90
  clear A90
  replace H := Option.bind_eq_some_iff.mp H
  obtain ⟨⟨t193, t194, t195, t196⟩, A100, H⟩ := H
  replace H : ((laws_eqImage.f k t193 t194 t195 t196 t179 t180 t181 t182).bind fun t200 => (if t200 = true then ((laws_toImage.f k a0_0 a0_1 a0_2 l0_3).bind fun bt201 => ((laws_eqImage.f k t186 t187 t188 t189 bt201.1 bt201.2.1 bt201.2.2.1 bt201.2.2.2).bind fun t207 => (if t207 = true then ((laws_markImage.f k t186 t187 t188 t189 1).bind fun bt208 => (if bt208.1 < 0 then (laws_FnExactTransposeImage.j0 k true a0_0 a0_1 a0_2 l0_3 t179 t180 t181 t182 t193 t194 t195 t196) else ((laws_eqImage.f k t193 t194 t195 t196 t179 t180 t181 t182).bind fun t210 => (laws_FnExactTransposeImage.j0 k (!t210) a0_0 a0_1 a0_2 l0_3 t179 t180 t181 t182 t193 t194 t195 t196)))) else (some false)))) else (some false))) = some r := H
  have A10 := Aside0.mk A100
  clear A100
  replace H := Option.bind_eq_some_iff.mp H
  obtain ⟨t200, A110, H⟩ := H
  replace H : (if t200 = true then ((laws_toImage.f k a0_0 a0_1 a0_2 l0_3).bind fun bt201 => ((laws_eqImage.f k t186 t187 t188 t189 bt201.1 bt201.2.1 bt201.2.2.1 bt201.2.2.2).bind fun t207 => (if t207 = true then ((laws_markImage.f k t186 t187 t188 t189 1).bind fun bt208 => (if bt208.1 < 0 then (laws_FnExactTransposeImage.j0 k true a0_0 a0_1 a0_2 l0_3 t179 t180 t181 t182 t193 t194 t195 t196) else ((laws_eqImage.f k t193 t194 t195 t196 t179 t180 t181 t182).bind fun t210 => (laws_FnExactTransposeImage.j0 k (!t210) a0_0 a0_1 a0_2 l0_3 t179 t180 t181 t182 t193 t194 t195 t196)))) else (some false)))) else (some false)) = some r := H
  have A11 := Aside0.mk A110
  clear A110
  by_cases c12 : t200 = true
  · subst c12
    have H1 : ((laws_toImage.f k a0_0 a0_1 a0_2 l0_3).bind fun bt201 => ((laws_eqImage.f k t186 t187 t188 t189 bt201.1 bt201.2.1 bt201.2.2.1 bt201.2.2.2).bind fun t207 => (if t207 = true then ((laws_markImage.f k t186 t187 t188 t189 1).bind fun bt208 => (if bt208.1 < 0 then (laws_FnExactTransposeImage.j0 k true a0_0 a0_1 a0_2 l0_3 t179 t180 t181 t182 t193 t194 t195 t196) else ((laws_eqImage.f k t193 t194 t195 t196 t179 t180 t181 t182).bind fun t210 => (laws_FnExactTransposeImage.j0 k (!t210) a0_0 a0_1 a0_2 l0_3 t179 t180 t181 t182 t193 t194 t195 t196)))) else (some false)))) = some r := by rw [if_pos rfl] at H; exact H
    clear H
    have H := H1
    clear H1
    replace H := Option.bind_eq_some_iff.mp H
    obtain ⟨⟨t201, t202, t203, t204⟩, A130, H⟩ := H
    replace H : ((laws_eqImage.f k t186 t187 t188 t189 t201 t202 t203 t204).bind fun t207 => (if t207 = true then ((laws_markImage.f k t186 t187 t188 t189 1).bind fun bt208 => (if bt208.1 < 0 then (laws_FnExactTransposeImage.j0 k true a0_0 a0_1 a0_2 l0_3 t179 t180 t181 t182 t193 t194 t195 t196) else ((laws_eqImage.f k t193 t194 t195 t196 t179 t180 t181 t182).bind fun t210 => (laws_FnExactTransposeImage.j0 k (!t210) a0_0 a0_1 a0_2 l0_3 t179 t180 t181 t182 t193 t194 t195 t196)))) else (some false))) = some r := H
    have A13 := Aside0.mk A130
    clear A130
    replace H := Option.bind_eq_some_iff.mp H
    obtain ⟨t207, A140, H⟩ := H
    replace H : (if t207 = true then ((laws_markImage.f k t186 t187 t188 t189 1).bind fun bt208 => (if bt208.1 < 0 then (laws_FnExactTransposeImage.j0 k true a0_0 a0_1 a0_2 l0_3 t179 t180 t181 t182 t193 t194 t195 t196) else ((laws_eqImage.f k t193 t194 t195 t196 t179 t180 t181 t182).bind fun t210 => (laws_FnExactTransposeImage.j0 k (!t210) a0_0 a0_1 a0_2 l0_3 t179 t180 t181 t182 t193 t194 t195 t196)))) else (some false)) = some r := H
    have A14 := Aside0.mk A140
    clear A140
    by_cases c15 : t207 = true
    · subst c15
      have H1 : ((laws_markImage.f k t186 t187 t188 t189 1).bind fun bt208 => (if bt208.1 < 0 then (laws_FnExactTransposeImage.j0 k true a0_0 a0_1 a0_2 l0_3 t179 t180 t181 t182 t193 t194 t195 t196) else ((laws_eqImage.f k t193 t194 t195 t196 t179 t180 t181 t182).bind fun t210 => (laws_FnExactTransposeImage.j0 k (!t210) a0_0 a0_1 a0_2 l0_3 t179 t180 t181 t182 t193 t194 t195 t196)))) = some r := by rw [if_pos rfl] at H; exact H
      clear H
      have H := H1
      clear H1
      replace H := Option.bind_eq_some_iff.mp H
      obtain ⟨⟨t208, t209⟩, A160, H⟩ := H
      replace H : (if t208 < 0 then (laws_FnExactTransposeImage.j0 k true a0_0 a0_1 a0_2 l0_3 t179 t180 t181 t182 t193 t194 t195 t196) else ((laws_eqImage.f k t193 t194 t195 t196 t179 t180 t181 t182).bind fun t210 => (laws_FnExactTransposeImage.j0 k (!t210) a0_0 a0_1 a0_2 l0_3 t179 t180 t181 t182 t193 t194 t195 t196))) = some r := H
      have A16 := Aside0.mk A160
      clear A160
      have HC17 := Aside0.mk H
      clear H
      go_enter Try.func3, Try.ntmps3
      try go_wp2_with (first | ((with_reducible refine gate_dst (N := 1) rfl ?_); refine box_event ?hg (N := 1) ?hd (cs := #[.int .i64 a0_0, .int .i64 a0_1, .int .i64 a0_2, .slice A0_3 l0_3.length c0_3]) (t := 24) ?hr ?_; (case hd => rfl); (case hg => rfl); (case hr => first | (go_simp; done) | (go_simp; rfl)); intro gb171 hg w18 hbox hb; have n0_ := Aside0.mk (below_step (B.bl HB) hb); have n1_ := Aside0.mk (hbox); have n2_ := Aside0.mk (B.nle hg (below_size (B.bl HB))); have n3_ := Aside0.mk (B.nle hg (below_size (B.bl HB))); clear HB; have HB := n0_; have BK171 := n1_; have GW171 := n2_; have GE171 := n3_; clear n0_ n1_ n2_ n3_; clear hb hbox hg; have hcz19_0 : w18.cell? ⟨gb171, 0, none⟩ = some (.int .i64 a0_0) := B.bc BK171 0; have hcz19_1 : w18.cell? ⟨gb171, 1, none⟩ = some (.int .i64 a0_1) := B.bc BK171 1; have hcz19_2 : w18.cell? ⟨gb171, 2, none⟩ = some (.int .i64 a0_2) := B.bc BK171 2; have hcz19_3 : w18.cell? ⟨gb171, 3, none⟩ = some (.slice A0_3 l0_3.length c0_3) := B.bc BK171 3; have hfz19_0 := blk_frozen BK171.out 0; have hfz19_1 := blk_frozen BK171.out 1; have hfz19_2 := blk_frozen BK171.out 2; have hfz19_3 := blk_frozen BK171.out 3) | ((with_reducible refine gate_callee (f := 12) rfl ?_); refine goesL_ (some 13) rfl rfl Try.func12 (by kernel_rfl) rfl #[.agg #[.int .i64 a0_0, .int .i64 a0_1, .int .i64 a0_2, .slice A0_3 l0_3.length c0_3], .int .i64 1048576] rfl B.am ?_; (with_reducible refine (laws_szImage.calls a0_0 a0_1 a0_2 _ _ l0_3 1048576 t172 _ ?side1 ?side2 A2.out).mono ?_); (case side1 => exact B.kc (Kd.C_below HR0_3.out HB.out)); (case side2 => exact HC0_3.out); rintro e w20 ⟨rfl, hb⟩; refine ⟨_, rfl, ?_⟩; have n0_ := Aside0.mk (blk_below (B.kb BK171) hb); have n1_ := Aside0.mk (below_step (B.bl HB) hb); clear BK171 HB; have BK171 := n0_; have HB := n1_; clear n0_ n1_; (try clear hb); (try clear hb2); (try clear hk); (try clear hi); have hcz21_0 : w20.cell? ⟨gb171, 0, none⟩ = some (.int .i64 a0_0) := B.bc BK171 0; have hcz21_1 : w20.cell? ⟨gb171, 1, none⟩ = some (.int .i64 a0_1) := B.bc BK171 1; have hcz21_2 : w20.cell? ⟨gb171, 2, none⟩ = some (.int .i64 a0_2) := B.bc BK171 2; have hcz21_3 : w20.cell? ⟨gb171, 3, none⟩ = some (.slice A0_3 l0_3.length c0_3) := B.bc BK171 3; have hfz21_0 := blk_frozen BK171.out 0; have hfz21_1 := blk_frozen BK171.out 1; have hfz21_2 := blk_frozen BK171.out 2; have hfz21_3 := blk_frozen BK171.out 3) | ((with_reducible refine gate_callee (f := 14) rfl ?_); refine goesL_ (some 17) rfl rfl Try.func14 (by kernel_rfl) rfl #[.agg #[.int .i64 a0_0, .int .i64 a0_1, .int .i64 a0_2, .slice A0_3 l0_3.length c0_3]] rfl B.am ?_; (with_reducible refine (laws_toImage.calls k a0_0 a0_1 a0_2 _ _ l0_3 t173 t174 t175 t176 _ ?side1 ?side2 A7.out).mono ?_); (case side1 => exact B.kc (Kd.C_below HR0_3.out HB.out)); (case side2 => exact HC0_3.out); rintro e w22 ⟨v177, rfl, ho0, hb⟩; refine ⟨_, rfl, ?_⟩; have n0_ := Aside0.mk (Kd.R_lower ho0 (below_size (B.bl HB))); have n1_ := Aside0.mk (blk_below (B.kb BK171) hb); have n2_ := Aside0.mk (below_step (B.bl HB) hb); clear BK171 HB; have HO178 := n0_; have BK171 := n1_; have HB := n2_; clear n0_ n1_ n2_; (try clear hb); (try clear hb2); (try clear hk); (try clear hi); (try clear ho0); obtain ⟨Ao23, co23, eo23⟩ := Kd.R_slice HO178.out; subst eo23) | ((with_reducible refine gate_callee (f := 13) rfl ?_); refine goesL_ (some 18) rfl rfl Try.func13 (by kernel_rfl) rfl #[.agg #[.int .i64 t173, .int .i64 t174, .int .i64 t175, .slice Ao23 t176.length co23]] rfl B.am ?_; (with_reducible refine (spec_TransposeImage.calls k t173 t174 t175 _ _ t176 t179 t180 t181 t182 _ ?side1 ?side2 A8.out).mono ?_); (case side1 => exact B.kc ((Kd.R_reads' HO178.out).2.2)); (case side2 => exact (Kd.R_reads' HO178.out).2.1); rintro e w24 ⟨v183, rfl, ho0, hb⟩; refine ⟨_, rfl, ?_⟩; have n0_ := Aside0.mk (Kd.R_elder' (B.kr HO178) (Kd.R_base ho0) hb); have n1_ := Aside0.mk (Kd.R_lower (Kd.R_new' ho0 (Kd.R_lt (B.kr HO178))) (below_size (B.bl HB))); have n2_ := Aside0.mk (blk_below (B.kb BK171) hb); have n3_ := Aside0.mk (below_step (B.bl HB) hb); clear HO178 BK171 HB; have HO178 := n0_; have HO184 := n1_; have BK171 := n2_; have HB := n3_; clear n0_ n1_ n2_ n3_; (try clear hb); (try clear hb2); (try clear hk); (try clear hi); (try clear ho0)) | ((with_reducible refine gate_dst (N := 4) rfl ?_); refine box_event ?hg (N := 4) ?hd (cs := #[.int .i64 0, .int .i64 0, .int .i64 0, .slice none 0 0]) (t := 26) ?hr ?_; (case hd => rfl); (case hg => rfl); (case hr => first | (go_simp; done) | (go_simp; rfl)); intro gb185 hg w25 hbox hb; have n0_ := Aside0.mk (Kd.R_below (B.kr HO178) hb); have n1_ := Aside0.mk (Kd.R_below (B.kr HO184) hb); have n2_ := Aside0.mk (blk_below (B.kb BK171) hb); have n3_ := Aside0.mk (below_step (B.bl HB) hb); have n4_ := Aside0.mk (hbox); have n5_ := Aside0.mk (B.nle hg (below_size (B.bl HB))); have n6_ := Aside0.mk (B.nle hg (below_size (B.bl HB))); have n7_ := Aside0.mk (B.nlt hg (blk_lt (B.kb BK171))); have n8_ := Aside0.mk (B.ngt hg (blk_lt (B.kb BK171))); clear HO178 HO184 BK171 HB; have HO178 := n0_; have HO184 := n1_; have BK171 := n2_; have HB := n3_; have BK185 := n4_; have GW185 := n5_; have GE185 := n6_; have NB171_185 := n7_; have NB185_171 := n8_; clear n0_ n1_ n2_ n3_ n4_ n5_ n6_ n7_ n8_; clear hb hbox hg; have hnb26 := NB185_171.out; have hnc26 := NB171_185.out; have hcz27_0 : w25.cell? ⟨gb185, 0, none⟩ = some (.int .i64 0) := B.bc BK185 0; have hcz27_1 : w25.cell? ⟨gb185, 1, none⟩ = some (.int .i64 0) := B.bc BK185 1; have hcz27_2 : w25.cell? ⟨gb185, 2, none⟩ = some (.int .i64 0) := B.bc BK185 2; have hcz27_3 : w25.cell? ⟨gb185, 3, none⟩ = some (.slice none 0 0) := B.bc BK185 3; have hfz27_0 := blk_frozen BK185.out 0; have hfz27_1 := blk_frozen BK185.out 1; have hfz27_2 := blk_frozen BK185.out 2; have hfz27_3 := blk_frozen BK185.out 3; obtain ⟨Ao28, co28, eo28⟩ := Kd.R_slice HO184.out; subst eo28; have hcz29_0 : w25.cell? ⟨gb171, 0, none⟩ = some (.int .i64 a0_0) := B.bc BK171 0; have hcz29_1 : w25.cell? ⟨gb171, 1, none⟩ = some (.int .i64 a0_1) := B.bc BK171 1; have hcz29_2 : w25.cell? ⟨gb171, 2, none⟩ = some (.int .i64 a0_2) := B.bc BK171 2; have hcz29_3 : w25.cell? ⟨gb171, 3, none⟩ = some (.slice A0_3 l0_3.length c0_3) := B.bc BK171 3; have hfz29_0 := blk_frozen BK171.out 0; have hfz29_1 := blk_frozen BK171.out 1; have hfz29_2 := blk_frozen BK171.out 2; have hfz29_3 := blk_frozen BK171.out 3) | ((with_reducible refine gate_callee (f := 14) rfl ?_); refine goesL_ (some 20) rfl rfl Try.func14 (by kernel_rfl) rfl #[.agg #[.int .i64 a0_0, .int .i64 a0_1, .int .i64 a0_2, .slice A0_3 l0_3.length c0_3]] rfl B.am ?_; (with_reducible refine (laws_toImage.calls k a0_0 a0_1 a0_2 _ _ l0_3 t186 t187 t188 t189 _ ?side1 ?side2 A9.out).mono ?_); (case side1 => exact Kd.C_below HR0_3.out (B.bl HB)); (case side2 => exact HC0_3.out); rintro e w30 ⟨v190, rfl, ho0, hb⟩; refine ⟨_, rfl, ?_⟩; have n0_ := Aside0.mk (Kd.R_elder' (B.kr0 (B.rs4 HO178 BK185)) (Kd.R_base ho0) hb); have n1_ := Aside0.mk (Kd.R_elder' (B.kr0 (B.rs4 HO184 BK185)) (Kd.R_base ho0) hb); have n2_ := Aside0.mk (Kd.R_lower (Kd.R_new' (Kd.R_new' ho0 (Kd.R_lt (B.kr0 (B.rs4 HO178 BK185)))) (Kd.R_lt (B.kr0 (B.rs4 HO184 BK185)))) (below_size (B.bl HB))); have n3_ := Aside0.mk (blk_below (B.kb0 (B.bf4 BK171 NB171_185)) hb); have n4_ := Aside0.mk (blk_below (g := gb185) (o := .cells #[.int .i64 t179, .int .i64 t180, .int .i64 t181, .slice Ao28 t182.length co28] 26 (0, 0)) (B.kb0 (B.bp4 BK185)) hb); have n5_ := Aside0.mk (below_step (B.bl HB) hb); clear HO178 HO184 BK171 BK185 HB; have HO178 := n0_; have HO184 := n1_; have HO191 := n2_; have BK171 := n3_; have BK185 := n4_; have HB := n5_; clear n0_ n1_ n2_ n3_ n4_ n5_; (try clear hb); (try clear hb2); (try clear hk); (try clear hi); (try clear ho0)) | ((with_reducible refine gate_dst (N := 5) rfl ?_); refine box_event ?hg (N := 5) ?hd (cs := #[.int .i64 0, .int .i64 0, .int .i64 0, .slice none 0 0]) (t := 26) ?hr ?_; (case hd => rfl); (case hg => rfl); (case hr => first | (go_simp; done) | (go_simp; rfl)); intro gb192 hg w31 hbox hb; have n0_ := Aside0.mk (Kd.R_below (B.kr HO178) hb); have n1_ := Aside0.mk (Kd.R_below (B.kr HO184) hb); have n2_ := Aside0.mk (Kd.R_below (B.kr HO191) hb); have n3_ := Aside0.mk (blk_below (B.kb BK171) hb); have n4_ := Aside0.mk (blk_below (B.kb BK185) hb); have n5_ := Aside0.mk (below_step (B.bl HB) hb); have n6_ := Aside0.mk (hbox); have n7_ := Aside0.mk (B.nle hg (below_size (B.bl HB))); have n8_ := Aside0.mk (B.nle hg (below_size (B.bl HB))); have n9_ := Aside0.mk (B.nlt hg (blk_lt (B.kb BK171))); have n10_ := Aside0.mk (B.ngt hg (blk_lt (B.kb BK171))); have n11_ := Aside0.mk (B.nlt hg (blk_lt (B.kb BK185))); have n12_ := Aside0.mk (B.ngt hg (blk_lt (B.kb BK185))); clear HO178 HO184 HO191 BK171 BK185 HB; have HO178 := n0_; have HO184 := n1_; have HO191 := n2_; have BK171 := n3_; have BK185 := n4_; have HB := n5_; have BK192 := n6_; have GW192 := n7_; have GE192 := n8_; have NB171_192 := n9_; have NB192_171 := n10_; have NB185_192 := n11_; have NB192_185 := n12_; clear n0_ n1_ n2_ n3_ n4_ n5_ n6_ n7_ n8_ n9_ n10_ n11_ n12_; clear hb hbox hg; have hnb32 := NB192_171.out; have hnc32 := NB171_192.out; have hnb33 := NB192_185.out; have hnc33 := NB185_192.out; have hcz34_0 : w31.cell? ⟨gb192, 0, none⟩ = some (.int .i64 0) := B.bc BK192 0; have hcz34_1 : w31.cell? ⟨gb192, 1, none⟩ = some (.int .i64 0) := B.bc BK192 1; have hcz34_2 : w31.cell? ⟨gb192, 2, none⟩ = some (.int .i64 0) := B.bc BK192 2; have hcz34_3 : w31.cell? ⟨gb192, 3, none⟩ = some (.slice none 0 0) := B.bc BK192 3; have hfz34_0 := blk_frozen BK192.out 0; have hfz34_1 := blk_frozen BK192.out 1; have hfz34_2 := blk_frozen BK192.out 2; have hfz34_3 := blk_frozen BK192.out 3; obtain ⟨Ao35, co35, eo35⟩ := Kd.R_slice HO191.out; subst eo35) | ((with_reducible refine gate_callee (f := 15) rfl ?_); refine goesL_ (some 22) rfl rfl Try.func15 (by kernel_rfl) rfl #[.agg #[.int .i64 t186, .int .i64 t187, .int .i64 t188, .slice Ao35 t189.length co35]] rfl B.am ?_; (with_reducible refine (impl_TransposeImage.calls t186 t187 t188 _ _ t189 t193 t194 t195 t196 _ ?side1 ?side2 A10.out).mono ?_); (case side1 => refine (Kd.R_reads' (e := 3) (base := w.heap.size) (ok := fun k_ => ((True ∧ some k_ ≠ (.slice Ao23 t176.length co23 : Value).ownBlock) ∧ some k_ ≠ (.slice Ao28 t182.length co28 : Value).ownBlock)) (n := t189.length) (c := co35) ?_).2.2; exact (B.kr0 (B.rs4 HO191 BK192))); (case side2 => exact (Kd.R_reads' HO191.out).2.1); rintro e w36 ⟨v197, rfl, ho0, hb⟩; refine ⟨_, rfl, ?_⟩; have n0_ := Aside0.mk (Kd.R_elder' (B.kr0 (B.rs4 HO178 BK192)) (Kd.R_base ho0) hb); have n1_ := Aside0.mk (Kd.R_elder' (B.kr0 (B.rs4 HO184 BK192)) (Kd.R_base ho0) hb); have n2_ := Aside0.mk (Kd.R_elder' (B.kr0 (B.rs4 HO191 BK192)) (Kd.R_base ho0) hb); have n3_ := Aside0.mk (Kd.R_lower (Kd.R_new' (Kd.R_new' (Kd.R_new' ho0 (Kd.R_lt (B.kr0 (B.rs4 HO178 BK192)))) (Kd.R_lt (B.kr0 (B.rs4 HO184 BK192)))) (Kd.R_lt (B.kr0 (B.rs4 HO191 BK192)))) (below_size (B.bl HB))); have n4_ := Aside0.mk (blk_below (B.kb0 (B.bf4 BK171 NB171_192)) hb); have n5_ := Aside0.mk (blk_below (B.kb0 (B.bf4 BK185 NB185_192)) hb); have n6_ := Aside0.mk (blk_below (g := gb192) (o := .cells #[.int .i64 t186, .int .i64 t187, .int .i64 t188, .slice Ao35 t189.length co35] 26 (0, 0)) (B.kb0 (B.bp4 BK192)) hb); have n7_ := Aside0.mk (below_step (B.bl HB) hb); clear HO178 HO184 HO191 BK171 BK185 BK192 HB; have HO178 := n0_; have HO184 := n1_; have HO191 := n2_; have HO198 := n3_; have BK171 := n4_; have BK185 := n5_; have BK192 := n6_; have HB := n7_; clear n0_ n1_ n2_ n3_ n4_ n5_ n6_ n7_; (try clear hb); (try clear hb2); (try clear hk); (try clear hi); (try clear ho0)) | ((with_reducible refine gate_dst (N := 6) rfl ?_); refine box_event ?hg (N := 6) ?hd (cs := #[.int .i64 0, .int .i64 0, .int .i64 0, .slice none 0 0]) (t := 26) ?hr ?_; (case hd => rfl); (case hg => rfl); (case hr => first | (go_simp; done) | (go_simp; rfl)); intro gb199 hg w37 hbox hb; have n0_ := Aside0.mk (Kd.R_below (B.kr HO178) hb); have n1_ := Aside0.mk (Kd.R_below (B.kr HO184) hb); have n2_ := Aside0.mk (Kd.R_below (B.kr HO191) hb); have n3_ := Aside0.mk (Kd.R_below (B.kr HO198) hb); have n4_ := Aside0.mk (blk_below (B.kb BK171) hb); have n5_ := Aside0.mk (blk_below (B.kb BK185) hb); have n6_ := Aside0.mk (blk_below (B.kb BK192) hb); have n7_ := Aside0.mk (below_step (B.bl HB) hb); have n8_ := Aside0.mk (hbox); have n9_ := Aside0.mk (B.nle hg (below_size (B.bl HB))); have n10_ := Aside0.mk (B.nle hg (below_size (B.bl HB))); have n11_ := Aside0.mk (B.nlt hg (blk_lt (B.kb BK171))); have n12_ := Aside0.mk (B.ngt hg (blk_lt (B.kb BK171))); have n13_ := Aside0.mk (B.nlt hg (blk_lt (B.kb BK185))); have n14_ := Aside0.mk (B.ngt hg (blk_lt (B.kb BK185))); have n15_ := Aside0.mk (B.nlt hg (blk_lt (B.kb BK192))); have n16_ := Aside0.mk (B.ngt hg (blk_lt (B.kb BK192))); clear HO178 HO184 HO191 HO198 BK171 BK185 BK192 HB; have HO178 := n0_; have HO184 := n1_; have HO191 := n2_; have HO198 := n3_; have BK171 := n4_; have BK185 := n5_; have BK192 := n6_; have HB := n7_; have BK199 := n8_; have GW199 := n9_; have GE199 := n10_; have NB171_199 := n11_; have NB199_171 := n12_; have NB185_199 := n13_; have NB199_185 := n14_; have NB192_199 := n15_; have NB199_192 := n16_; clear n0_ n1_ n2_ n3_ n4_ n5_ n6_ n7_ n8_ n9_ n10_ n11_ n12_ n13_ n14_ n15_ n16_; clear hb hbox hg; have hnb38 := NB199_171.out; have hnc38 := NB171_199.out; have hnb39 := NB199_185.out; have hnc39 := NB185_199.out; have hnb40 := NB199_192.out; have hnc40 := NB192_199.out; have hcz41_0 : w37.cell? ⟨gb199, 0, none⟩ = some (.int .i64 0) := B.bc BK199 0; have hcz41_1 : w37.cell? ⟨gb199, 1, none⟩ = some (.int .i64 0) := B.bc BK199 1; have hcz41_2 : w37.cell? ⟨gb199, 2, none⟩ = some (.int .i64 0) := B.bc BK199 2; have hcz41_3 : w37.cell? ⟨gb199, 3, none⟩ = some (.slice none 0 0) := B.bc BK199 3; have hfz41_0 := blk_frozen BK199.out 0; have hfz41_1 := blk_frozen BK199.out 1; have hfz41_2 := blk_frozen BK199.out 2; have hfz41_3 := blk_frozen BK199.out 3; obtain ⟨Ao42, co42, eo42⟩ := Kd.R_slice HO198.out; subst eo42; have hcz43_0 : w37.cell? ⟨gb185, 0, none⟩ = some (.int .i64 t179) := B.bc BK185 0; have hcz43_1 : w37.cell? ⟨gb185, 1, none⟩ = some (.int .i64 t180) := B.bc BK185 1; have hcz43_2 : w37.cell? ⟨gb185, 2, none⟩ = some (.int .i64 t181) := B.bc BK185 2; have hcz43_3 : w37.cell? ⟨gb185, 3, none⟩ = some (.slice Ao28 t182.length co28) := B.bc BK185 3; have hfz43_0 := blk_frozen BK185.out 0; have hfz43_1 := blk_frozen BK185.out 1; have hfz43_2 := blk_frozen BK185.out 2; have hfz43_3 := blk_frozen BK185.out 3) | ((with_reducible refine gate_callee (f := 16) rfl ?_); refine goesL_ (some 25) rfl rfl Try.func16 (by kernel_rfl) rfl #[.agg #[.int .i64 t193, .int .i64 t194, .int .i64 t195, .slice Ao42 t196.length co42], .agg #[.int .i64 t179, .int .i64 t180, .int .i64 t181, .slice Ao28 t182.length co28]] rfl B.am ?_; (with_reducible refine (laws_eqImage.calls k t193 t194 t195 _ _ t196 t179 t180 t181 _ _ t182 true _ ?side1 ?side2 ?side3 ?side4 A11.out).mono ?_); (case side1 => refine (Kd.R_reads' (e := 3) (base := w.heap.size) (ok := fun k_ => (((True ∧ some k_ ≠ (.slice Ao23 t176.length co23 : Value).ownBlock) ∧ some k_ ≠ (.slice Ao28 t182.length co28 : Value).ownBlock) ∧ some k_ ≠ (.slice Ao35 t189.length co35 : Value).ownBlock)) (n := t196.length) (c := co42) ?_).2.2; exact (B.kr0 (B.rs4 HO198 BK199))); (case side2 => exact (Kd.R_reads' HO198.out).2.1); (case side3 => refine (Kd.R_reads' (e := 3) (base := w.heap.size) (ok := fun k_ => (((True ∧ some k_ ≠ (.slice Ao23 t176.length co23 : Value).ownBlock) ∧ some k_ ≠ (.slice Ao35 t189.length co35 : Value).ownBlock) ∧ some k_ ≠ (.slice Ao42 t196.length co42 : Value).ownBlock)) (n := t182.length) (c := co28) ?_).2.2; exact (B.kr0 (B.rs4 HO184 BK199))); (case side4 => exact (Kd.R_reads' HO184.out).2.1); rintro e w44 ⟨rfl, hb⟩; refine ⟨_, rfl, ?_⟩; have n0_ := Aside0.mk (Kd.R_below (B.kr0 (B.rs4 HO178 BK199)) hb); have n1_ := Aside0.mk (Kd.R_below (B.kr0 (B.rs4 HO184 BK199)) hb); have n2_ := Aside0.mk (Kd.R_below (B.kr0 (B.rs4 HO191 BK199)) hb); have n3_ := Aside0.mk (Kd.R_below (B.kr0 (B.rs4 HO198 BK199)) hb); have n4_ := Aside0.mk (blk_below (B.kb0 (B.bf4 BK171 NB171_199)) hb); have n5_ := Aside0.mk (blk_below (B.kb0 (B.bf4 BK185 NB185_199)) hb); have n6_ := Aside0.mk (blk_below (B.kb0 (B.bf4 BK192 NB192_199)) hb); have n7_ := Aside0.mk (blk_below (g := gb199) (o := .cells #[.int .i64 t193, .int .i64 t194, .int .i64 t195, .slice Ao42 t196.length co42] 26 (0, 0)) (B.kb0 (B.bp4 BK199)) hb); have n8_ := Aside0.mk (below_step (B.bl HB) hb); clear HO178 HO184 HO191 HO198 BK171 BK185 BK192 BK199 HB; have HO178 := n0_; have HO184 := n1_; have HO191 := n2_; have HO198 := n3_; have BK171 := n4_; have BK185 := n5_; have BK192 := n6_; have BK199 := n7_; have HB := n8_; clear n0_ n1_ n2_ n3_ n4_ n5_ n6_ n7_ n8_; (try clear hb); (try clear hb2); (try clear hk); (try clear hi)))
      have n0_ := Aside0.mk (Kd.R_drew HO178.out)
      have n1_ := Aside0.mk (Kd.R_drew HO184.out)
      have n2_ := Aside0.mk (Kd.R_drew HO191.out)
      have n3_ := Aside0.mk (Kd.R_drew HO198.out)
      have n4_ := Aside0.mk (blk_drew BK171.out)
      have n5_ := Aside0.mk (blk_drew BK185.out)
      have n6_ := Aside0.mk (blk_drew BK192.out)
      have n7_ := Aside0.mk (blk_drew BK199.out)
      have n8_ := Aside0.mk (below_drew1 HB.out)
      clear HO178 HO184 HO191 HO198 BK171 BK185 BK192 BK199 HB
      have HO178 := n0_
      have HO184 := n1_
      have HO191 := n2_
      have HO198 := n3_
      have BK171 := n4_
      have BK185 := n5_
      have BK192 := n6_
      have BK199 := n7_
      have HB := n8_
      clear n0_ n1_ n2_ n3_ n4_ n5_ n6_ n7_ n8_
      refine start_ (n := 5) (S := fun w' => w'.cell? ⟨gb192, 0, none⟩ = some (.int .i64 t186) ∧ w'.cell? ⟨gb192, 1, none⟩ = some (.int .i64 t187) ∧ w'.cell? ⟨gb192, 2, none⟩ = some (.int .i64 t188) ∧ w'.cell? ⟨gb192, 3, none⟩ = some (.slice Ao35 t189.length co35) ∧ w'.cell? ⟨gb171, 0, none⟩ = some (.int .i64 a0_0) ∧ w'.cell? ⟨gb171, 1, none⟩ = some (.int .i64 a0_1) ∧ w'.cell? ⟨gb171, 2, none⟩ = some (.int .i64 a0_2) ∧ w'.cell? ⟨gb171, 3, none⟩ = some (.slice A0_3 l0_3.length c0_3)) (ds := []) #[false, false, false, false, false] (by kernel_rfl) rfl rfl ⟨B.bc BK192 0, B.bc BK192 1, B.bc BK192 2, B.bc BK192 3, B.bc BK171 0, B.bc BK171 1, B.bc BK171 2, B.bc BK171 3⟩ (fun hHeld => ?_)
      generalize w44.drew = w45 at HO178 HO184 HO191 HO198 BK171 BK185 BK192 BK199 HB hHeld ⊢
      refine take_ (i := 0) (N := some 27) (v := ?_) (a' := ?_) #[true, false, false, false, false] rfl rfl (by kernel_rfl) (fun _ _ _ h => h) (Or.inl ⟨by rfl, ?_⟩) hHeld ?_ ?_
      rotate_left
      · rintro w' ⟨s0, s1, s2, s3, s4, s5, s6, s7⟩
        go_simp
        with_reducible rfl
      rotate_left
      · simp only [Act.put, List.setIfInBounds_toArray, List.set_cons_zero, List.set_cons_succ, i64_w, i32_w]
        rfl
      refine take_ (i := 1) (N := some 28) (v := ?_) (a' := ?_) #[true, true, false, false, false] rfl rfl (by kernel_rfl) (fun _ _ _ h => h) (Or.inl ⟨by rfl, ?_⟩) hHeld ?_ ?_
      rotate_left
      · rintro w' ⟨s0, s1, s2, s3, s4, s5, s6, s7⟩
        go_simp
        with_reducible rfl
      rotate_left
      · simp only [Act.put, List.setIfInBounds_toArray, List.set_cons_zero, List.set_cons_succ, i64_w, i32_w]
        rfl
      refine one_ (i := 2) (N := some 29) #[true, true, true, false, false] rfl rfl (by kernel_rfl) (by decide) (fun K hK => ?_)
      refine goes_ Try.func14 (by kernel_rfl) rfl #[.agg #[.int .i64 a0_0, .int .i64 a0_1, .int .i64 a0_2, .slice A0_3 l0_3.length c0_3]] (by rfl) rfl rfl B.am ?_
      with_reducible refine (laws_toImage.calls k a0_0 a0_1 a0_2 _ _ l0_3 t201 t202 t203 t204 _ ?side1 ?side2 A13.out).mono ?_
      (case side1 => exact B.kc (Kd.C_below HR0_3.out HB.out))
      (case side2 => exact HC0_3.out)
      rintro e w46 ⟨v205, rfl, ho0, hb⟩
      refine ⟨_, rfl, ?_⟩
      have n0_ := Aside0.mk (Kd.R_elder' (B.kr HO178) (Kd.R_base ho0) hb)
      have n1_ := Aside0.mk (Kd.R_elder' (B.kr HO184) (Kd.R_base ho0) hb)
      have n2_ := Aside0.mk (Kd.R_elder' (B.kr HO191) (Kd.R_base ho0) hb)
      have n3_ := Aside0.mk (Kd.R_elder' (B.kr HO198) (Kd.R_base ho0) hb)
      have n4_ := Aside0.mk (Kd.R_lower (Kd.R_new' (Kd.R_new' (Kd.R_new' (Kd.R_new' ho0 (Kd.R_lt (B.kr HO178))) (Kd.R_lt (B.kr HO184))) (Kd.R_lt (B.kr HO191))) (Kd.R_lt (B.kr HO198))) (below_size (B.bl HB)))
      have n5_ := Aside0.mk (blk_below (B.kb BK171) hb)
      have n6_ := Aside0.mk (blk_below (B.kb BK185) hb)
      have n7_ := Aside0.mk (blk_below (B.kb BK192) hb)
      have n8_ := Aside0.mk (blk_below (B.kb BK199) hb)
      have n9_ := Aside0.mk (below_step (B.bl HB) hb)
      clear HO178 HO184 HO191 HO198 BK171 BK185 BK192 BK199 HB
      have HO178 := n0_
      have HO184 := n1_
      have HO191 := n2_
      have HO198 := n3_
      have HO206 := n4_
      have BK171 := n5_
      have BK185 := n6_
      have BK192 := n7_
      have BK199 := n8_
      have HB := n9_
      clear n0_ n1_ n2_ n3_ n4_ n5_ n6_ n7_ n8_ n9_
      (try clear hb)
      (try clear hb2)
      (try clear hk)
      (try clear hi)
      (try clear ho0)
      obtain ⟨Ao47, co47, eo47⟩ := Kd.R_slice HO206.out
      (first | subst eo47 | (injection eo47 with f1_ f2_ f3_; have f4_ := f1_.symm; have f5_ := f3_.symm; clear f1_ f2_ f3_; subst f4_; subst f5_))
      refine hK.out _ _ ⟨B.bc BK192 0, B.bc BK192 1, B.bc BK192 2, B.bc BK192 3, B.bc BK171 0, B.bc BK171 1, B.bc BK171 2, B.bc BK171 3⟩ (fun hHeld => ?_)
      clear hK K
      refine norm_ (a' := ?_) ?_ ?_
      rotate_left
      · show Act.put _ (some 29) _ = _
        simp only [Act.put, List.setIfInBounds_toArray, List.set_cons_zero, List.set_cons_succ, i64_w, i32_w]
        rfl
      refine one_ (i := 3) (N := some 30) #[true, true, true, true, false] rfl rfl (by kernel_rfl) (by decide) (fun K hK => ?_)
      refine goes_ Try.func16 (by kernel_rfl) rfl #[.agg #[.int .i64 t186, .int .i64 t187, .int .i64 t188, .slice Ao35 t189.length co35], .agg #[.int .i64 t201, .int .i64 t202, .int .i64 t203, .slice Ao47 t204.length co47]] (by rfl) rfl rfl B.am ?_
      with_reducible refine (laws_eqImage.calls k t186 t187 t188 _ _ t189 t201 t202 t203 _ _ t204 true _ ?side1 ?side2 ?side3 ?side4 A14.out).mono ?_
      (case side1 => exact B.kc ((Kd.R_reads' HO191.out).2.2))
      (case side2 => exact (Kd.R_reads' HO191.out).2.1)
      (case side3 => exact B.kc ((Kd.R_reads' HO206.out).2.2))
      (case side4 => exact (Kd.R_reads' HO206.out).2.1)
      rintro e w48 ⟨rfl, hb⟩
      refine ⟨_, rfl, ?_⟩
      have n0_ := Aside0.mk (Kd.R_below (B.kr HO178) hb)
      have n1_ := Aside0.mk (Kd.R_below (B.kr HO184) hb)
      have n2_ := Aside0.mk (Kd.R_below (B.kr HO191) hb)
      have n3_ := Aside0.mk (Kd.R_below (B.kr HO198) hb)
      have n4_ := Aside0.mk (Kd.R_below (B.kr HO206) hb)
      have n5_ := Aside0.mk (blk_below (B.kb BK171) hb)
      have n6_ := Aside0.mk (blk_below (B.kb BK185) hb)
      have n7_ := Aside0.mk (blk_below (B.kb BK192) hb)
      have n8_ := Aside0.mk (blk_below (B.kb BK199) hb)
      have n9_ := Aside0.mk (below_step (B.bl HB) hb)
      clear HO178 HO184 HO191 HO198 HO206 BK171 BK185 BK192 BK199 HB
      have HO178 := n0_
      have HO184 := n1_
      have HO191 := n2_
      have HO198 := n3_
      have HO206 := n4_
      have BK171 := n5_
      have BK185 := n6_
      have BK192 := n7_
      have BK199 := n8_
      have HB := n9_
      clear n0_ n1_ n2_ n3_ n4_ n5_ n6_ n7_ n8_ n9_
      (try clear hb)
      (try clear hb2)
      (try clear hk)
      (try clear hi)
      refine hK.out _ _ ⟨B.bc BK192 0, B.bc BK192 1, B.bc BK192 2, B.bc BK192 3, B.bc BK171 0, B.bc BK171 1, B.bc BK171 2, B.bc BK171 3⟩ (fun hHeld => ?_)
      clear hK K
      refine norm_ (a' := ?_) ?_ ?_
      rotate_left
      · show Act.put _ (some 30) _ = _
        simp only [Act.put, List.setIfInBounds_toArray, List.set_cons_zero, List.set_cons_succ, i64_w, i32_w]
        rfl
      refine pure_ (i := 4) (N := some 31) (v := ?_) (a' := ?_) #[true, true, true, true, true] rfl rfl (by kernel_rfl) (fun _ _ _ h => h) (Or.inl ⟨by rfl, ?_⟩) ?_ ?_
      rotate_left
      · intro w'
        go_simp
        with_reducible rfl
      rotate_left
      · simp only [Act.put, List.setIfInBounds_toArray, List.set_cons_zero, List.set_cons_succ, i64_w, i32_w]
        rfl
      refine done_ (by kernel_rfl) ?_
      have hcz49_0 : w48.cell? ⟨gb192, 0, none⟩ = some (.int .i64 t186) := B.bc BK192 0
      have hcz49_1 : w48.cell? ⟨gb192, 1, none⟩ = some (.int .i64 t187) := B.bc BK192 1
      have hcz49_2 : w48.cell? ⟨gb192, 2, none⟩ = some (.int .i64 t188) := B.bc BK192 2
      have hcz49_3 : w48.cell? ⟨gb192, 3, none⟩ = some (.slice Ao35 t189.length co35) := B.bc BK192 3
      have hfz49_0 := blk_frozen BK192.out 0
      have hfz49_1 := blk_frozen BK192.out 1
      have hfz49_2 := blk_frozen BK192.out 2
      have hfz49_3 := blk_frozen BK192.out 3
      go_upto_region 14 with (first | ((with_reducible refine gate_callee (f := 17) rfl ?_); refine goesL_ (some 34) rfl rfl Try.func17 (by kernel_rfl) rfl #[.agg #[.int .i64 t186, .int .i64 t187, .int .i64 t188, .slice Ao35 t189.length co35], .int .i64 1] rfl B.am ?_; (with_reducible refine (laws_markImage.calls k t186 t187 t188 (fun k_ => some k_ = (.slice Ao35 t189.length co35 : Value).ownBlock) (.slice Ao35 t189.length co35) t189 1 t208 t209 w _ ?side1 ?side2 A16.out).mono ?_); (case side1 => exact B.bl HB); (case side2 => exact Kd.R_tight rfl HO191.out); rintro e w50 ⟨rfl, hy0, hb, hkp⟩; refine ⟨_, rfl, ?_⟩; have n0_ := Aside0.mk (blk_kept (B.kb BK171) hkp (fun hs_ => (fun e_ => (Kd.R_ne HO191.out BK171.out (by decide)) e_) hs_)); have n1_ := Aside0.mk (Kd.R_mono (ok' := fun k_ => some k_ ≠ (.slice Ao28 t182.length co28 : Value).ownBlock ∧ some k_ ≠ (.slice Ao35 t189.length co35 : Value).ownBlock ∧ some k_ ≠ (.slice Ao42 t196.length co42 : Value).ownBlock ∧ some k_ ≠ (.slice Ao47 t204.length co47 : Value).ownBlock) (Kd.R_keptB (HO178.out) hkp (fun k_ hk_ hs_ => (hk_.1.1.2) hs_)) (fun k_ hk_ => ⟨hk_.1.1.1.1.2, hk_.1.1.1.2, hk_.1.1.2, hk_.1.2⟩)); have n2_ := Aside0.mk (Kd.R_mono (ok' := fun k_ => some k_ ≠ (.slice Ao23 t176.length co23 : Value).ownBlock ∧ some k_ ≠ (.slice Ao35 t189.length co35 : Value).ownBlock ∧ some k_ ≠ (.slice Ao42 t196.length co42 : Value).ownBlock ∧ some k_ ≠ (.slice Ao47 t204.length co47 : Value).ownBlock) (Kd.R_keptB (HO184.out) hkp (fun k_ hk_ hs_ => (hk_.1.1.2) hs_)) (fun k_ hk_ => ⟨hk_.1.1.1.1.2, hk_.1.1.1.2, hk_.1.1.2, hk_.1.2⟩)); have n3_ := Aside0.mk (blk_kept (B.kb BK185) hkp (fun hs_ => (fun e_ => (Kd.R_ne HO191.out BK185.out (by decide)) e_) hs_)); have n4_ := Aside0.mk (Kd.R_reok rfl hy0 (fun k_ e_ => HO191.out.1 k_ e_)); have n5_ := Aside0.mk (blk_kept (B.kb BK192) hkp (fun hs_ => (fun e_ => (Kd.R_ne HO191.out BK192.out (by decide)) e_) hs_)); have n6_ := Aside0.mk (Kd.R_mono (ok' := fun k_ => some k_ ≠ (.slice Ao23 t176.length co23 : Value).ownBlock ∧ some k_ ≠ (.slice Ao28 t182.length co28 : Value).ownBlock ∧ some k_ ≠ (.slice Ao35 t189.length co35 : Value).ownBlock ∧ some k_ ≠ (.slice Ao47 t204.length co47 : Value).ownBlock) (Kd.R_keptB (HO198.out) hkp (fun k_ hk_ hs_ => (hk_.1.2) hs_)) (fun k_ hk_ => ⟨hk_.1.1.1.1.2, hk_.1.1.1.2, hk_.1.1.2, hk_.1.2⟩)); have n7_ := Aside0.mk (blk_kept (B.kb BK199) hkp (fun hs_ => (fun e_ => (Kd.R_ne HO191.out BK199.out (by decide)) e_) hs_)); have n8_ := Aside0.mk (Kd.R_mono (ok' := fun k_ => some k_ ≠ (.slice Ao23 t176.length co23 : Value).ownBlock ∧ some k_ ≠ (.slice Ao28 t182.length co28 : Value).ownBlock ∧ some k_ ≠ (.slice Ao35 t189.length co35 : Value).ownBlock ∧ some k_ ≠ (.slice Ao42 t196.length co42 : Value).ownBlock) (Kd.R_keptB (HO206.out) hkp (fun k_ hk_ hs_ => (hk_.1.2) hs_)) (fun k_ hk_ => ⟨hk_.1.1.1.1.2, hk_.1.1.1.2, hk_.1.1.2, hk_.1.2⟩)); have n9_ := Aside0.mk (hb); clear BK171 HO178 HO184 BK185 HO191 BK192 HO198 BK199 HO206 HB; have BK171 := n0_; have HO178 := n1_; have HO184 := n2_; have BK185 := n3_; have HO191 := n4_; have BK192 := n5_; have HO198 := n6_; have BK199 := n7_; have HO206 := n8_; have HB := n9_; clear n0_ n1_ n2_ n3_ n4_ n5_ n6_ n7_ n8_ n9_; (try clear hb); (try clear hkp); (try clear hy0)))
      (try simp only [Act.put, List.setIfInBounds_toArray, List.set_cons_zero, List.set_cons_succ])
      go_cut [42] (fun v42 wc => ∃ (kq : Nat) (x42_16 : Bool), v42 = .bool x42_16 ∧ Aside0 (laws_FnExactTransposeImage.j0 kq x42_16 a0_0 a0_1 a0_2 l0_3 t179 t180 t181 t182 t193 t194 t195 t196 = some r) ∧ Aside0 (kq ≤ k) ∧ Aside0 (Kd.R (Kd.int .i64) 3 wc w.heap.size (fun k_ => some k_ ≠ ((.slice Ao35 t189.length co35) : Value).ownBlock ∧ some k_ ≠ ((.slice Ao42 t196.length co42) : Value).ownBlock) (.slice Ao28 t182.length co28) t182) ∧ Aside0 (Kd.R (Kd.int .i64) 3 wc w.heap.size (fun k_ => some k_ ≠ ((.slice Ao28 t182.length co28) : Value).ownBlock ∧ some k_ ≠ ((.slice Ao42 t196.length co42) : Value).ownBlock) (.slice Ao35 t189.length co35) t209) ∧ Aside0 (Kd.R (Kd.int .i64) 3 wc w.heap.size (fun k_ => some k_ ≠ ((.slice Ao28 t182.length co28) : Value).ownBlock ∧ some k_ ≠ ((.slice Ao35 t189.length co35) : Value).ownBlock) (.slice Ao42 t196.length co42) t196) ∧ Aside0 (wc.heap[gb171]? = some (.cells #[.int .i64 a0_0, .int .i64 a0_1, .int .i64 a0_2, (.slice A0_3 l0_3.length c0_3)] 24 (0, 0))) ∧ Aside0 (wc.heap[gb185]? = some (.cells #[.int .i64 t179, .int .i64 t180, .int .i64 t181, (.slice Ao28 t182.length co28)] 26 (0, 0))) ∧ Aside0 (wc.heap[gb192]? = some (.cells #[.int .i64 t186, .int .i64 t187, .int .i64 t188, (.slice Ao35 t189.length co35)] 26 (0, 0))) ∧ Aside0 (wc.heap[gb199]? = some (.cells #[.int .i64 t193, .int .i64 t194, .int .i64 t195, (.slice Ao42 t196.length co42)] 26 (0, 0))) ∧ Aside0 (Below w.heap.size w wc))
      case first =>
        have H := HC17.out
        clear HC17
        by_cases c51 : t208 < 0
        · rw [if_pos c51] at H
          have c51b0 : decide (t208 < 0) = true := decide_eq_true c51
          clear c51
          (first | rw [c51b0] | (simp only [i64_w, i32_w]; rw [c51b0]) | skip)
          exact absurd ht_.out (by revert H; cases k <;> intro H <;> simp [laws_FnExactTransposeImage.j0] at H <;> (first | (subst H; decide) | simp [← H] | simp [H]))
        rw [if_neg c51] at H
        have c51b0 : decide (t208 < 0) = false := decide_eq_false c51
        clear c51
        (first | rw [c51b0] | (simp only [i64_w, i32_w]; rw [c51b0]) | skip)
        replace H := Option.bind_eq_some_iff.mp H
        obtain ⟨t210, A520, H⟩ := H
        replace H : (laws_FnExactTransposeImage.j0 k (!t210) a0_0 a0_1 a0_2 l0_3 t179 t180 t181 t182 t193 t194 t195 t196) = some r := H
        have A52 := Aside0.mk A520
        clear A520
        have H' := Aside0.mk H
        clear H
        have hnb53 := NB199_171.out
        have hnc53 := NB171_199.out
        have hnb54 := NB199_185.out
        have hnc54 := NB185_199.out
        have hnb55 := NB199_192.out
        have hnc55 := NB192_199.out
        have hcz56_0 : w50.cell? ⟨gb199, 0, none⟩ = some (.int .i64 t193) := B.bc BK199 0
        have hcz56_1 : w50.cell? ⟨gb199, 1, none⟩ = some (.int .i64 t194) := B.bc BK199 1
        have hcz56_2 : w50.cell? ⟨gb199, 2, none⟩ = some (.int .i64 t195) := B.bc BK199 2
        have hcz56_3 : w50.cell? ⟨gb199, 3, none⟩ = some (.slice Ao42 t196.length co42) := B.bc BK199 3
        have hfz56_0 := blk_frozen BK199.out 0
        have hfz56_1 := blk_frozen BK199.out 1
        have hfz56_2 := blk_frozen BK199.out 2
        have hfz56_3 := blk_frozen BK199.out 3
        have hnb57 := NB185_171.out
        have hnc57 := NB171_185.out
        have hnb58 := NB185_192.out
        have hnc58 := NB192_185.out
        have hcz59_0 : w50.cell? ⟨gb185, 0, none⟩ = some (.int .i64 t179) := B.bc BK185 0
        have hcz59_1 : w50.cell? ⟨gb185, 1, none⟩ = some (.int .i64 t180) := B.bc BK185 1
        have hcz59_2 : w50.cell? ⟨gb185, 2, none⟩ = some (.int .i64 t181) := B.bc BK185 2
        have hcz59_3 : w50.cell? ⟨gb185, 3, none⟩ = some (.slice Ao28 t182.length co28) := B.bc BK185 3
        have hfz59_0 := blk_frozen BK185.out 0
        have hfz59_1 := blk_frozen BK185.out 1
        have hfz59_2 := blk_frozen BK185.out 2
        have hfz59_3 := blk_frozen BK185.out 3
        go_wp2_with (first | (go_at_call 16; (with_reducible refine (laws_eqImage.calls k t193 t194 t195 _ _ t196 t179 t180 t181 _ _ t182 t210 _ ?side1 ?side2 ?side3 ?side4 A52.out).mono ?_); (case side1 => exact B.kc ((Kd.R_reads' HO198.out).2.2)); (case side2 => exact (Kd.R_reads' HO198.out).2.1); (case side3 => exact B.kc ((Kd.R_reads' HO184.out).2.2)); (case side4 => exact (Kd.R_reads' HO184.out).2.1); rintro e w60 ⟨rfl, hb⟩; have n0_ := Aside0.mk (Kd.R_below (B.kr HO178) hb); have n1_ := Aside0.mk (Kd.R_below (B.kr HO184) hb); have n2_ := Aside0.mk (Kd.R_below (B.kr HO191) hb); have n3_ := Aside0.mk (Kd.R_below (B.kr HO198) hb); have n4_ := Aside0.mk (Kd.R_below (B.kr HO206) hb); have n5_ := Aside0.mk (blk_below (B.kb BK171) hb); have n6_ := Aside0.mk (blk_below (B.kb BK185) hb); have n7_ := Aside0.mk (blk_below (B.kb BK192) hb); have n8_ := Aside0.mk (blk_below (B.kb BK199) hb); have n9_ := Aside0.mk (below_step (B.bl HB) hb); clear HO178 HO184 HO191 HO198 HO206 BK171 BK185 BK192 BK199 HB; have HO178 := n0_; have HO184 := n1_; have HO191 := n2_; have HO198 := n3_; have HO206 := n4_; have BK171 := n5_; have BK185 := n6_; have BK192 := n7_; have BK199 := n8_; have HB := n9_; clear n0_ n1_ n2_ n3_ n4_ n5_ n6_ n7_ n8_ n9_; (try clear hb); (try clear hb2); (try clear hk); (try clear hi)))
        go_meet
        case rel => exact ⟨_, (!t210), (by first | rfl | (simp; done) | (simp [*]; done)), H', ⟨by first | omega | exact Nat.le_refl _⟩, ⟨B.kr0 (Kd.R_mono HO184.out (fun _ hk => ⟨hk.2.1, hk.2.2.1⟩))⟩, ⟨B.kr0 (Kd.R_mono HO191.out (fun _ hk => ⟨hk.1.1.2, hk.1.2⟩))⟩, ⟨B.kr0 (Kd.R_mono HO198.out (fun _ hk => ⟨hk.2.1, hk.2.2.1⟩))⟩, ⟨B.kb BK171⟩, ⟨B.kb BK185⟩, ⟨B.kb BK192⟩, ⟨B.kb BK199⟩, ⟨B.bl HB⟩⟩
      case rest =>
        clear HC17
        try clear c1
        try clear c2
        try clear p2
        try clear c3
        try clear c3b0
        try clear c4
        try clear c5
        try clear c12
        try clear c13
        try clear c14
        try clear c15
        try clear c16
        try clear c17
        try clear c26
        try clear c32
        try clear c33
        try clear c38
        try clear c39
        try clear c40
        try clear c51
        try clear c51b0
        try clear c53
        try clear c54
        try clear c55
        try clear c57
        try clear c58
        try clear hcz19_0
        try clear hcz19_1
        try clear hcz19_2
        try clear hcz19_3
        try clear hcz21_0
        try clear hcz21_1
        try clear hcz21_2
        try clear hcz21_3
        try clear hcz27_0
        try clear hcz27_1
        try clear hcz27_2
        try clear hcz27_3
        try clear hcz29_0
        try clear hcz29_1
        try clear hcz29_2
        try clear hcz29_3
        try clear hcz34_0
        try clear hcz34_1
        try clear hcz34_2
        try clear hcz34_3
        try clear hcz41_0
        try clear hcz41_1
        try clear hcz41_2
        try clear hcz41_3
        try clear hcz43_0
        try clear hcz43_1
        try clear hcz43_2
        try clear hcz43_3
        try clear hcz49_0
        try clear hcz49_1
        try clear hcz49_2
        try clear hcz49_3
        try clear hcz56_0
        try clear hcz56_1
        try clear hcz56_2
        try clear hcz56_3
        try clear hcz59_0
        try clear hcz59_1
        try clear hcz59_2
        try clear hcz59_3
        try clear hcz5_0
        try clear hcz5_1
        try clear hcz5_2
        try clear hcz5_3
        try clear hfz19_0
        try clear hfz19_1
        try clear hfz19_2
        try clear hfz19_3
        try clear hfz21_0
        try clear hfz21_1
        try clear hfz21_2
        try clear hfz21_3
        try clear hfz27_0
        try clear hfz27_1
        try clear hfz27_2
        try clear hfz27_3
        try clear hfz29_0
        try clear hfz29_1
        try clear hfz29_2
        try clear hfz29_3
        try clear hfz34_0
        try clear hfz34_1
        try clear hfz34_2
        try clear hfz34_3
        try clear hfz41_0
        try clear hfz41_1
        try clear hfz41_2
        try clear hfz41_3
        try clear hfz43_0
        try clear hfz43_1
        try clear hfz43_2
        try clear hfz43_3
        try clear hfz49_0
        try clear hfz49_1
        try clear hfz49_2
        try clear hfz49_3
        try clear hfz56_0
        try clear hfz56_1
        try clear hfz56_2
        try clear hfz56_3
        try clear hfz59_0
        try clear hfz59_1
        try clear hfz59_2
        try clear hfz59_3
        try clear hfz5_0
        try clear hfz5_1
        try clear hfz5_2
        try clear hfz5_3
        obtain ⟨kq, x42_16, rfl, HA, HJ16, HO_186003, HO_193003, HO_200003, BK171, BK185, BK192, BK199, HB⟩ := hcut
        have hl193003_16 := (Kd.R_reads' HO_193003.out).1
        rw [hl193003_16] at HO_193003
        (try simp only [hl193003_16])
        (try simp only [hl193003_16] at BK171)
        (try simp only [hl193003_16] at BK185)
        (try simp only [hl193003_16] at BK192)
        (try simp only [hl193003_16] at BK199)
        (try simp only [hl193003_16] at HO_186003)
        (try simp only [hl193003_16] at HO_200003)
        cases kq with
        | zero => exact absurd HA.out (by simp [laws_FnExactTransposeImage.j0])
        | succ kj16 =>
          have H := HA.out
          clear HA
          simp only [laws_FnExactTransposeImage.j0] at H
          by_cases c61 : x42_16 = true
          · subst c61
            have H1 : (some false) = some r := by rw [if_pos rfl] at H; exact H
            clear H
            have H := H1
            clear H1
            obtain rfl := Option.some.inj H
            exact absurd ht_.out (by decide)
          replace c61 := Bool.eq_false_iff.mpr c61
          subst c61
          have H1 : ((laws_markImage.f kj16 t193 t194 t195 t196 1).bind fun bt211 => ((laws_heldImage.f kj16 t193 t194 t195 bt211.2 1).bind fun t213 => (if t213 < 0 then (some false) else (if t213 = bt211.1 then ((laws_toImage.f kj16 a0_0 a0_1 a0_2 l0_3).bind fun bt214 => ((impl_TransposeImage.f bt214.1 bt214.2.1 bt214.2.2.1 bt214.2.2.2).bind fun bt220 => ((laws_eqImage.f kj16 bt220.1 bt220.2.1 bt220.2.2.1 bt220.2.2.2 t179 t180 t181 t182).bind fun t227 => (if t227 = true then ((laws_heldImage.f kj16 t193 t194 t195 bt211.2 1).bind fun t228 => (if t228 < 0 then (some false) else (if t228 = bt211.1 then (some true) else (some false)))) else (some false))))) else (some false))))) = some r := by rw [if_neg (show ¬ (false = true) by decide)] at H; exact H
          clear H
          have H := H1
          clear H1
          replace H := Option.bind_eq_some_iff.mp H
          obtain ⟨⟨t211, t212⟩, A620, H⟩ := H
          replace H : ((laws_heldImage.f kj16 t193 t194 t195 t212 1).bind fun t213 => (if t213 < 0 then (some false) else (if t213 = t211 then ((laws_toImage.f kj16 a0_0 a0_1 a0_2 l0_3).bind fun bt214 => ((impl_TransposeImage.f bt214.1 bt214.2.1 bt214.2.2.1 bt214.2.2.2).bind fun bt220 => ((laws_eqImage.f kj16 bt220.1 bt220.2.1 bt220.2.2.1 bt220.2.2.2 t179 t180 t181 t182).bind fun t227 => (if t227 = true then ((laws_heldImage.f kj16 t193 t194 t195 t212 1).bind fun t228 => (if t228 < 0 then (some false) else (if t228 = t211 then (some true) else (some false)))) else (some false))))) else (some false)))) = some r := H
          have A62 := Aside0.mk A620
          clear A620
          replace H := Option.bind_eq_some_iff.mp H
          obtain ⟨t213, A630, H⟩ := H
          replace H : (if t213 < 0 then (some false) else (if t213 = t211 then ((laws_toImage.f kj16 a0_0 a0_1 a0_2 l0_3).bind fun bt214 => ((impl_TransposeImage.f bt214.1 bt214.2.1 bt214.2.2.1 bt214.2.2.2).bind fun bt220 => ((laws_eqImage.f kj16 bt220.1 bt220.2.1 bt220.2.2.1 bt220.2.2.2 t179 t180 t181 t182).bind fun t227 => (if t227 = true then ((laws_heldImage.f kj16 t193 t194 t195 t212 1).bind fun t228 => (if t228 < 0 then (some false) else (if t228 = t211 then (some true) else (some false)))) else (some false))))) else (some false))) = some r := H
          have A63 := Aside0.mk A630
          clear A630
          by_cases c64 : t213 < 0
          · rw [if_pos c64] at H
            have c64b0 : decide (t213 < 0) = true := decide_eq_true c64
            clear c64
            obtain rfl := Option.some.inj H
            exact absurd ht_.out (by decide)
          rw [if_neg c64] at H
          have c64b0 : decide (t213 < 0) = false := decide_eq_false c64
          clear c64
          by_cases c65 : t213 = t211
          · rw [if_pos c65] at H
            have c65b0 : (t213 == t211) = true := beq_iff_eq.mpr c65
            have c65b1 : (t213 != t211) = false := bne_eq_false_iff_eq.mpr c65
            clear c65
            replace H := Option.bind_eq_some_iff.mp H
            obtain ⟨⟨t214, t215, t216, t217⟩, A660, H⟩ := H
            replace H : ((impl_TransposeImage.f t214 t215 t216 t217).bind fun bt220 => ((laws_eqImage.f kj16 bt220.1 bt220.2.1 bt220.2.2.1 bt220.2.2.2 t179 t180 t181 t182).bind fun t227 => (if t227 = true then ((laws_heldImage.f kj16 t193 t194 t195 t212 1).bind fun t228 => (if t228 < 0 then (some false) else (if t228 = t211 then (some true) else (some false)))) else (some false)))) = some r := H
            have A66 := Aside0.mk A660
            clear A660
            replace H := Option.bind_eq_some_iff.mp H
            obtain ⟨⟨t220, t221, t222, t223⟩, A670, H⟩ := H
            replace H : ((laws_eqImage.f kj16 t220 t221 t222 t223 t179 t180 t181 t182).bind fun t227 => (if t227 = true then ((laws_heldImage.f kj16 t193 t194 t195 t212 1).bind fun t228 => (if t228 < 0 then (some false) else (if t228 = t211 then (some true) else (some false)))) else (some false))) = some r := H
            have A67 := Aside0.mk A670
            clear A670
            replace H := Option.bind_eq_some_iff.mp H
            obtain ⟨t227, A680, H⟩ := H
            replace H : (if t227 = true then ((laws_heldImage.f kj16 t193 t194 t195 t212 1).bind fun t228 => (if t228 < 0 then (some false) else (if t228 = t211 then (some true) else (some false)))) else (some false)) = some r := H
            have A68 := Aside0.mk A680
            clear A680
            by_cases c69 : t227 = true
            · subst c69
              have H1 : ((laws_heldImage.f kj16 t193 t194 t195 t212 1).bind fun t228 => (if t228 < 0 then (some false) else (if t228 = t211 then (some true) else (some false)))) = some r := by rw [if_pos rfl] at H; exact H
              clear H
              have H := H1
              clear H1
              replace H := Option.bind_eq_some_iff.mp H
              obtain ⟨t228, A700, H⟩ := H
              replace H : (if t228 < 0 then (some false) else (if t228 = t211 then (some true) else (some false))) = some r := H
              have A70 := Aside0.mk A700
              clear A700
              by_cases c71 : t228 < 0
              · rw [if_pos c71] at H
                have c71b0 : decide (t228 < 0) = true := decide_eq_true c71
                clear c71
                obtain rfl := Option.some.inj H
                exact absurd ht_.out (by decide)
              rw [if_neg c71] at H
              have c71b0 : decide (t228 < 0) = false := decide_eq_false c71
              clear c71
              by_cases c72 : t228 = t211
              · rw [if_pos c72] at H
                have c72b0 : (t228 == t211) = true := beq_iff_eq.mpr c72
                have c72b1 : (t228 != t211) = false := bne_eq_false_iff_eq.mpr c72
                clear c72
                obtain rfl := Option.some.inj H
                simp only [Option.some.injEq, Prod.mk.injEq] at H
                obtain ⟨rfl⟩ := H
                have hnb73 := NB199_171.out
                have hnc73 := NB171_199.out
                have hnb74 := NB199_185.out
                have hnc74 := NB185_199.out
                have hnb75 := NB199_192.out
                have hnc75 := NB192_199.out
                have hcz76_0 : wc.cell? ⟨gb199, 0, none⟩ = some (.int .i64 t193) := B.bc BK199 0
                have hcz76_1 : wc.cell? ⟨gb199, 1, none⟩ = some (.int .i64 t194) := B.bc BK199 1
                have hcz76_2 : wc.cell? ⟨gb199, 2, none⟩ = some (.int .i64 t195) := B.bc BK199 2
                have hcz76_3 : wc.cell? ⟨gb199, 3, none⟩ = some (.slice Ao42 t196.length co42) := B.bc BK199 3
                have hfz76_0 := blk_frozen BK199.out 0
                have hfz76_1 := blk_frozen BK199.out 1
                have hfz76_2 := blk_frozen BK199.out 2
                have hfz76_3 := blk_frozen BK199.out 3
                go_wp2_with (first | ((with_reducible refine gate_callee (f := 17) rfl ?_); refine goesL_ (some 45) rfl rfl Try.func17 (by kernel_rfl) rfl #[.agg #[.int .i64 t193, .int .i64 t194, .int .i64 t195, .slice Ao42 t196.length co42], .int .i64 1] rfl B.am ?_; (with_reducible refine (laws_markImage.calls kj16 t193 t194 t195 (fun k_ => some k_ = (.slice Ao42 t196.length co42 : Value).ownBlock) (.slice Ao42 t196.length co42) t196 1 t211 t212 w _ ?side1 ?side2 A62.out).mono ?_); (case side1 => exact B.bl HB); (case side2 => exact Kd.R_tight rfl HO_200003.out); rintro e w77 ⟨rfl, hy0, hb, hkp⟩; refine ⟨_, rfl, ?_⟩; have n0_ := Aside0.mk (Kd.R_mono (ok' := fun k_ => some k_ ≠ (.slice Ao35 t209.length co35 : Value).ownBlock ∧ some k_ ≠ (.slice Ao42 t196.length co42 : Value).ownBlock) (Kd.R_keptB (HO_186003.out) hkp (fun k_ hk_ hs_ => (hk_.2) hs_)) (fun k_ hk_ => ⟨hk_.1.1, hk_.1.2⟩)); have n1_ := Aside0.mk (Kd.R_mono (ok' := fun k_ => some k_ ≠ (.slice Ao28 t182.length co28 : Value).ownBlock ∧ some k_ ≠ (.slice Ao42 t196.length co42 : Value).ownBlock) (Kd.R_keptB (HO_193003.out) hkp (fun k_ hk_ hs_ => (hk_.2) hs_)) (fun k_ hk_ => ⟨hk_.1.1, hk_.1.2⟩)); have n2_ := Aside0.mk (Kd.R_reok rfl hy0 (fun k_ e_ => HO_200003.out.1 k_ e_)); have n3_ := Aside0.mk (blk_kept (B.kb BK171) hkp (fun hs_ => (fun e_ => (Kd.R_ne HO_200003.out BK171.out (by decide)) e_) hs_)); have n4_ := Aside0.mk (blk_kept (B.kb BK185) hkp (fun hs_ => (fun e_ => (Kd.R_ne HO_200003.out BK185.out (by decide)) e_) hs_)); have n5_ := Aside0.mk (blk_kept (B.kb BK192) hkp (fun hs_ => (fun e_ => (Kd.R_ne HO_200003.out BK192.out (by decide)) e_) hs_)); have n6_ := Aside0.mk (blk_kept (B.kb BK199) hkp (fun hs_ => (fun e_ => (Kd.R_ne HO_200003.out BK199.out (by decide)) e_) hs_)); have n7_ := Aside0.mk (hb); clear HO_186003 HO_193003 HO_200003 BK171 BK185 BK192 BK199 HB; have HO_186003 := n0_; have HO_193003 := n1_; have HO_200003 := n2_; have BK171 := n3_; have BK185 := n4_; have BK192 := n5_; have BK199 := n6_; have HB := n7_; clear n0_ n1_ n2_ n3_ n4_ n5_ n6_ n7_; (try clear hb); (try clear hkp); (try clear hy0); have hcz78_0 : w77.cell? ⟨gb199, 0, none⟩ = some (.int .i64 t193) := B.bc BK199 0; have hcz78_1 : w77.cell? ⟨gb199, 1, none⟩ = some (.int .i64 t194) := B.bc BK199 1; have hcz78_2 : w77.cell? ⟨gb199, 2, none⟩ = some (.int .i64 t195) := B.bc BK199 2; have hcz78_3 : w77.cell? ⟨gb199, 3, none⟩ = some (.slice Ao42 t196.length co42) := B.bc BK199 3; have hfz78_0 := blk_frozen BK199.out 0; have hfz78_1 := blk_frozen BK199.out 1; have hfz78_2 := blk_frozen BK199.out 2; have hfz78_3 := blk_frozen BK199.out 3) | ((with_reducible refine gate_callee (f := 18) rfl ?_); refine goesL_ (some 48) rfl rfl Try.func18 (by kernel_rfl) rfl #[.agg #[.int .i64 t193, .int .i64 t194, .int .i64 t195, .slice Ao42 t212.length co42], .int .i64 1] rfl (by (try simp only [List.map_toArray, List.map_cons, List.map_nil]); first | done | (rw [show t212.length = t196.length from (Kd.R_reads' HO_200003.out).1.symm] <;> rfl) | rfl | (simp only [List.length_drop, List.length_take]; rfl)) ?_; (with_reducible refine (laws_heldImage.calls kj16 t193 t194 t195 _ _ t212 1 t213 _ ?side1 ?side2 A63.out).mono ?_); (case side1 => exact B.kc ((Kd.R_reads' HO_200003.out).2.2)); (case side2 => rw [show t212.length = t196.length from (Kd.R_reads' HO_200003.out).1.symm]; exact (Kd.R_reads' HO_200003.out).2.1); rintro e w79 ⟨rfl, hb⟩; refine ⟨_, rfl, ?_⟩; have n0_ := Aside0.mk (Kd.R_below (B.kr HO_186003) hb); have n1_ := Aside0.mk (Kd.R_below (B.kr HO_193003) hb); have n2_ := Aside0.mk (Kd.R_below (B.kr HO_200003) hb); have n3_ := Aside0.mk (blk_below (B.kb BK171) hb); have n4_ := Aside0.mk (blk_below (B.kb BK185) hb); have n5_ := Aside0.mk (blk_below (B.kb BK192) hb); have n6_ := Aside0.mk (blk_below (B.kb BK199) hb); have n7_ := Aside0.mk (below_step (B.bl HB) hb); clear HO_186003 HO_193003 HO_200003 BK171 BK185 BK192 BK199 HB; have HO_186003 := n0_; have HO_193003 := n1_; have HO_200003 := n2_; have BK171 := n3_; have BK185 := n4_; have BK192 := n5_; have BK199 := n6_; have HB := n7_; clear n0_ n1_ n2_ n3_ n4_ n5_ n6_ n7_; (try clear hb); (try clear hb2); (try clear hk); (try clear hi); have hnb80 := NB171_185.out; have hnc80 := NB185_171.out; have hnb81 := NB171_192.out; have hnc81 := NB192_171.out; have hcz82_0 : w79.cell? ⟨gb171, 0, none⟩ = some (.int .i64 a0_0) := B.bc BK171 0; have hcz82_1 : w79.cell? ⟨gb171, 1, none⟩ = some (.int .i64 a0_1) := B.bc BK171 1; have hcz82_2 : w79.cell? ⟨gb171, 2, none⟩ = some (.int .i64 a0_2) := B.bc BK171 2; have hcz82_3 : w79.cell? ⟨gb171, 3, none⟩ = some (.slice A0_3 l0_3.length c0_3) := B.bc BK171 3; have hfz82_0 := blk_frozen BK171.out 0; have hfz82_1 := blk_frozen BK171.out 1; have hfz82_2 := blk_frozen BK171.out 2; have hfz82_3 := blk_frozen BK171.out 3) | ((with_reducible refine gate_callee (f := 14) rfl ?_); refine goesL_ (some 55) rfl rfl Try.func14 (by kernel_rfl) rfl #[.agg #[.int .i64 a0_0, .int .i64 a0_1, .int .i64 a0_2, .slice A0_3 l0_3.length c0_3]] rfl B.am ?_; (with_reducible refine (laws_toImage.calls kj16 a0_0 a0_1 a0_2 _ _ l0_3 t214 t215 t216 t217 _ ?side1 ?side2 A66.out).mono ?_); (case side1 => exact B.kc (Kd.C_below HR0_3.out HB.out)); (case side2 => exact HC0_3.out); rintro e w83 ⟨v218, rfl, ho0, hb⟩; refine ⟨_, rfl, ?_⟩; have n0_ := Aside0.mk (Kd.R_elder' (B.kr HO_186003) (Kd.R_base ho0) hb); have n1_ := Aside0.mk (Kd.R_elder' (B.kr HO_193003) (Kd.R_base ho0) hb); have n2_ := Aside0.mk (Kd.R_elder' (B.kr HO_200003) (Kd.R_base ho0) hb); have n3_ := Aside0.mk (Kd.R_lower (Kd.R_new' (Kd.R_new' (Kd.R_new' ho0 (Kd.R_lt (B.kr HO_186003))) (Kd.R_lt (B.kr HO_193003))) (Kd.R_lt (B.kr HO_200003))) (below_size (B.bl HB))); have n4_ := Aside0.mk (blk_below (B.kb BK171) hb); have n5_ := Aside0.mk (blk_below (B.kb BK185) hb); have n6_ := Aside0.mk (blk_below (B.kb BK192) hb); have n7_ := Aside0.mk (blk_below (B.kb BK199) hb); have n8_ := Aside0.mk (below_step (B.bl HB) hb); clear HO_186003 HO_193003 HO_200003 BK171 BK185 BK192 BK199 HB; have HO_186003 := n0_; have HO_193003 := n1_; have HO_200003 := n2_; have HO219 := n3_; have BK171 := n4_; have BK185 := n5_; have BK192 := n6_; have BK199 := n7_; have HB := n8_; clear n0_ n1_ n2_ n3_ n4_ n5_ n6_ n7_ n8_; (try clear hb); (try clear hb2); (try clear hk); (try clear hi); (try clear ho0); obtain ⟨Ao84, co84, eo84⟩ := Kd.R_slice HO219.out; subst eo84) | ((with_reducible refine gate_callee (f := 15) rfl ?_); refine goesL_ (some 56) rfl rfl Try.func15 (by kernel_rfl) rfl #[.agg #[.int .i64 t214, .int .i64 t215, .int .i64 t216, .slice Ao84 t217.length co84]] rfl B.am ?_; (with_reducible refine (impl_TransposeImage.calls t214 t215 t216 _ _ t217 t220 t221 t222 t223 _ ?side1 ?side2 A67.out).mono ?_); (case side1 => exact B.kc ((Kd.R_reads' HO219.out).2.2)); (case side2 => exact (Kd.R_reads' HO219.out).2.1); rintro e w85 ⟨v224, rfl, ho0, hb⟩; refine ⟨_, rfl, ?_⟩; have n0_ := Aside0.mk (Kd.R_elder' (B.kr HO_186003) (Kd.R_base ho0) hb); have n1_ := Aside0.mk (Kd.R_elder' (B.kr HO_193003) (Kd.R_base ho0) hb); have n2_ := Aside0.mk (Kd.R_elder' (B.kr HO_200003) (Kd.R_base ho0) hb); have n3_ := Aside0.mk (Kd.R_elder' (B.kr HO219) (Kd.R_base ho0) hb); have n4_ := Aside0.mk (Kd.R_lower (Kd.R_new' (Kd.R_new' (Kd.R_new' (Kd.R_new' ho0 (Kd.R_lt (B.kr HO_186003))) (Kd.R_lt (B.kr HO_193003))) (Kd.R_lt (B.kr HO_200003))) (Kd.R_lt (B.kr HO219))) (below_size (B.bl HB))); have n5_ := Aside0.mk (blk_below (B.kb BK171) hb); have n6_ := Aside0.mk (blk_below (B.kb BK185) hb); have n7_ := Aside0.mk (blk_below (B.kb BK192) hb); have n8_ := Aside0.mk (blk_below (B.kb BK199) hb); have n9_ := Aside0.mk (below_step (B.bl HB) hb); clear HO_186003 HO_193003 HO_200003 HO219 BK171 BK185 BK192 BK199 HB; have HO_186003 := n0_; have HO_193003 := n1_; have HO_200003 := n2_; have HO219 := n3_; have HO225 := n4_; have BK171 := n5_; have BK185 := n6_; have BK192 := n7_; have BK199 := n8_; have HB := n9_; clear n0_ n1_ n2_ n3_ n4_ n5_ n6_ n7_ n8_ n9_; (try clear hb); (try clear hb2); (try clear hk); (try clear hi); (try clear ho0)) | ((with_reducible refine gate_dst (N := 10) rfl ?_); refine box_event ?hg (N := 10) ?hd (cs := #[.int .i64 0, .int .i64 0, .int .i64 0, .slice none 0 0]) (t := 26) ?hr ?_; (case hd => rfl); (case hg => rfl); (case hr => first | (go_simp; done) | (go_simp; rfl)); intro gb226 hg w86 hbox hb; have n0_ := Aside0.mk (Kd.R_below (B.kr HO_186003) hb); have n1_ := Aside0.mk (Kd.R_below (B.kr HO_193003) hb); have n2_ := Aside0.mk (Kd.R_below (B.kr HO_200003) hb); have n3_ := Aside0.mk (Kd.R_below (B.kr HO219) hb); have n4_ := Aside0.mk (Kd.R_below (B.kr HO225) hb); have n5_ := Aside0.mk (blk_below (B.kb BK171) hb); have n6_ := Aside0.mk (blk_below (B.kb BK185) hb); have n7_ := Aside0.mk (blk_below (B.kb BK192) hb); have n8_ := Aside0.mk (blk_below (B.kb BK199) hb); have n9_ := Aside0.mk (below_step (B.bl HB) hb); have n10_ := Aside0.mk (hbox); have n11_ := Aside0.mk (B.nle hg (below_size (B.bl HB))); have n12_ := Aside0.mk (B.nle hg (below_size (B.bl HB))); have n13_ := Aside0.mk (B.nlt hg (blk_lt (B.kb BK171))); have n14_ := Aside0.mk (B.ngt hg (blk_lt (B.kb BK171))); have n15_ := Aside0.mk (B.nlt hg (blk_lt (B.kb BK185))); have n16_ := Aside0.mk (B.ngt hg (blk_lt (B.kb BK185))); have n17_ := Aside0.mk (B.nlt hg (blk_lt (B.kb BK192))); have n18_ := Aside0.mk (B.ngt hg (blk_lt (B.kb BK192))); have n19_ := Aside0.mk (B.nlt hg (blk_lt (B.kb BK199))); have n20_ := Aside0.mk (B.ngt hg (blk_lt (B.kb BK199))); clear HO_186003 HO_193003 HO_200003 HO219 HO225 BK171 BK185 BK192 BK199 HB; have HO_186003 := n0_; have HO_193003 := n1_; have HO_200003 := n2_; have HO219 := n3_; have HO225 := n4_; have BK171 := n5_; have BK185 := n6_; have BK192 := n7_; have BK199 := n8_; have HB := n9_; have BK226 := n10_; have GW226 := n11_; have GE226 := n12_; have NB171_226 := n13_; have NB226_171 := n14_; have NB185_226 := n15_; have NB226_185 := n16_; have NB192_226 := n17_; have NB226_192 := n18_; have NB199_226 := n19_; have NB226_199 := n20_; clear n0_ n1_ n2_ n3_ n4_ n5_ n6_ n7_ n8_ n9_ n10_ n11_ n12_ n13_ n14_ n15_ n16_ n17_ n18_ n19_ n20_; clear hb hbox hg; have hnb87 := NB226_171.out; have hnc87 := NB171_226.out; have hnb88 := NB226_185.out; have hnc88 := NB185_226.out; have hnb89 := NB226_192.out; have hnc89 := NB192_226.out; have hnb90 := NB226_199.out; have hnc90 := NB199_226.out; have hcz91_0 : w86.cell? ⟨gb226, 0, none⟩ = some (.int .i64 0) := B.bc BK226 0; have hcz91_1 : w86.cell? ⟨gb226, 1, none⟩ = some (.int .i64 0) := B.bc BK226 1; have hcz91_2 : w86.cell? ⟨gb226, 2, none⟩ = some (.int .i64 0) := B.bc BK226 2; have hcz91_3 : w86.cell? ⟨gb226, 3, none⟩ = some (.slice none 0 0) := B.bc BK226 3; have hfz91_0 := blk_frozen BK226.out 0; have hfz91_1 := blk_frozen BK226.out 1; have hfz91_2 := blk_frozen BK226.out 2; have hfz91_3 := blk_frozen BK226.out 3; obtain ⟨Ao92, co92, eo92⟩ := Kd.R_slice HO225.out; subst eo92; have hnb93 := NB185_192.out; have hnc93 := NB192_185.out; have hcz94_0 : w86.cell? ⟨gb185, 0, none⟩ = some (.int .i64 t179) := B.bc BK185 0; have hcz94_1 : w86.cell? ⟨gb185, 1, none⟩ = some (.int .i64 t180) := B.bc BK185 1; have hcz94_2 : w86.cell? ⟨gb185, 2, none⟩ = some (.int .i64 t181) := B.bc BK185 2; have hcz94_3 : w86.cell? ⟨gb185, 3, none⟩ = some (.slice Ao28 t182.length co28) := B.bc BK185 3; have hfz94_0 := blk_frozen BK185.out 0; have hfz94_1 := blk_frozen BK185.out 1; have hfz94_2 := blk_frozen BK185.out 2; have hfz94_3 := blk_frozen BK185.out 3) | ((with_reducible refine gate_callee (f := 16) rfl ?_); refine goesL_ (some 59) rfl rfl Try.func16 (by kernel_rfl) rfl #[.agg #[.int .i64 t220, .int .i64 t221, .int .i64 t222, .slice Ao92 t223.length co92], .agg #[.int .i64 t179, .int .i64 t180, .int .i64 t181, .slice Ao28 t182.length co28]] rfl B.am ?_; (with_reducible refine (laws_eqImage.calls kj16 t220 t221 t222 _ _ t223 t179 t180 t181 _ _ t182 true _ ?side1 ?side2 ?side3 ?side4 A68.out).mono ?_); (case side1 => refine (Kd.R_reads' (e := 3) (base := w.heap.size) (ok := fun k_ => ((((True ∧ some k_ ≠ (.slice Ao28 t182.length co28 : Value).ownBlock) ∧ some k_ ≠ (.slice Ao35 t209.length co35 : Value).ownBlock) ∧ some k_ ≠ (.slice Ao42 t196.length co42 : Value).ownBlock) ∧ some k_ ≠ (.slice Ao84 t217.length co84 : Value).ownBlock)) (n := t223.length) (c := co92) ?_).2.2; exact (B.kr0 (B.rs4 HO225 BK226))); (case side2 => exact (Kd.R_reads' HO225.out).2.1); (case side3 => refine (Kd.R_reads' (e := 3) (base := w.heap.size) (ok := fun k_ => (((some k_ ≠ (.slice Ao35 t209.length co35 : Value).ownBlock ∧ some k_ ≠ (.slice Ao42 t196.length co42 : Value).ownBlock) ∧ some k_ ≠ (.slice Ao84 t217.length co84 : Value).ownBlock) ∧ some k_ ≠ (.slice Ao92 t223.length co92 : Value).ownBlock)) (n := t182.length) (c := co28) ?_).2.2; exact (B.kr0 (B.rs4 HO_186003 BK226))); (case side4 => exact (Kd.R_reads' HO_186003.out).2.1); rintro e w95 ⟨rfl, hb⟩; refine ⟨_, rfl, ?_⟩; have n0_ := Aside0.mk (Kd.R_below (B.kr0 (B.rs4 HO_186003 BK226)) hb); have n1_ := Aside0.mk (Kd.R_below (B.kr0 (B.rs4 HO_193003 BK226)) hb); have n2_ := Aside0.mk (Kd.R_below (B.kr0 (B.rs4 HO_200003 BK226)) hb); have n3_ := Aside0.mk (Kd.R_below (B.kr0 (B.rs4 HO219 BK226)) hb); have n4_ := Aside0.mk (Kd.R_below (B.kr0 (B.rs4 HO225 BK226)) hb); have n5_ := Aside0.mk (blk_below (B.kb0 (B.bf4 BK171 NB171_226)) hb); have n6_ := Aside0.mk (blk_below (B.kb0 (B.bf4 BK185 NB185_226)) hb); have n7_ := Aside0.mk (blk_below (B.kb0 (B.bf4 BK192 NB192_226)) hb); have n8_ := Aside0.mk (blk_below (B.kb0 (B.bf4 BK199 NB199_226)) hb); have n9_ := Aside0.mk (blk_below (g := gb226) (o := .cells #[.int .i64 t220, .int .i64 t221, .int .i64 t222, .slice Ao92 t223.length co92] 26 (0, 0)) (B.kb0 (B.bp4 BK226)) hb); have n10_ := Aside0.mk (below_step (B.bl HB) hb); clear HO_186003 HO_193003 HO_200003 HO219 HO225 BK171 BK185 BK192 BK199 BK226 HB; have HO_186003 := n0_; have HO_193003 := n1_; have HO_200003 := n2_; have HO219 := n3_; have HO225 := n4_; have BK171 := n5_; have BK185 := n6_; have BK192 := n7_; have BK199 := n8_; have BK226 := n9_; have HB := n10_; clear n0_ n1_ n2_ n3_ n4_ n5_ n6_ n7_ n8_ n9_ n10_; (try clear hb); (try clear hb2); (try clear hk); (try clear hi); have hcz96_0 : w95.cell? ⟨gb199, 0, none⟩ = some (.int .i64 t193) := B.bc BK199 0; have hcz96_1 : w95.cell? ⟨gb199, 1, none⟩ = some (.int .i64 t194) := B.bc BK199 1; have hcz96_2 : w95.cell? ⟨gb199, 2, none⟩ = some (.int .i64 t195) := B.bc BK199 2; have hcz96_3 : w95.cell? ⟨gb199, 3, none⟩ = some (.slice Ao42 t196.length co42) := B.bc BK199 3; have hfz96_0 := blk_frozen BK199.out 0; have hfz96_1 := blk_frozen BK199.out 1; have hfz96_2 := blk_frozen BK199.out 2; have hfz96_3 := blk_frozen BK199.out 3) | ((with_reducible refine gate_callee (f := 18) rfl ?_); refine goesL_ (some 63) rfl rfl Try.func18 (by kernel_rfl) rfl #[.agg #[.int .i64 t193, .int .i64 t194, .int .i64 t195, .slice Ao42 t212.length co42], .int .i64 1] rfl (by (try simp only [List.map_toArray, List.map_cons, List.map_nil]); first | done | (rw [show t212.length = t196.length from (Kd.R_reads' HO_200003.out).1.symm] <;> rfl) | rfl | (simp only [List.length_drop, List.length_take]; rfl)) ?_; (with_reducible refine (laws_heldImage.calls kj16 t193 t194 t195 _ _ t212 1 t228 _ ?side1 ?side2 A70.out).mono ?_); (case side1 => exact B.kc ((Kd.R_reads' HO_200003.out).2.2)); (case side2 => rw [show t212.length = t196.length from (Kd.R_reads' HO_200003.out).1.symm]; exact (Kd.R_reads' HO_200003.out).2.1); rintro e w97 ⟨rfl, hb⟩; refine ⟨_, rfl, ?_⟩; have n0_ := Aside0.mk (Kd.R_below (B.kr HO_186003) hb); have n1_ := Aside0.mk (Kd.R_below (B.kr HO_193003) hb); have n2_ := Aside0.mk (Kd.R_below (B.kr HO_200003) hb); have n3_ := Aside0.mk (Kd.R_below (B.kr HO219) hb); have n4_ := Aside0.mk (Kd.R_below (B.kr HO225) hb); have n5_ := Aside0.mk (blk_below (B.kb BK171) hb); have n6_ := Aside0.mk (blk_below (B.kb BK185) hb); have n7_ := Aside0.mk (blk_below (B.kb BK192) hb); have n8_ := Aside0.mk (blk_below (B.kb BK199) hb); have n9_ := Aside0.mk (blk_below (B.kb BK226) hb); have n10_ := Aside0.mk (below_step (B.bl HB) hb); clear HO_186003 HO_193003 HO_200003 HO219 HO225 BK171 BK185 BK192 BK199 BK226 HB; have HO_186003 := n0_; have HO_193003 := n1_; have HO_200003 := n2_; have HO219 := n3_; have HO225 := n4_; have BK171 := n5_; have BK185 := n6_; have BK192 := n7_; have BK199 := n8_; have BK226 := n9_; have HB := n10_; clear n0_ n1_ n2_ n3_ n4_ n5_ n6_ n7_ n8_ n9_ n10_; (try clear hb); (try clear hb2); (try clear hk); (try clear hi)))
                go_ret
                exact ⟨by first | rfl | (simp [errW_none, errW_some] <;> rfl) | (simp [*, errW_none, errW_some] <;> rfl), B.bl HB⟩
              rw [if_neg c72] at H
              have c72b0 : (t228 == t211) = false := beq_eq_false_iff_ne.mpr c72
              have c72b1 : (t228 != t211) = true := bne_iff_ne.mpr c72
              obtain rfl := Option.some.inj H
              exact absurd ht_.out (by decide)
            replace c69 := Bool.eq_false_iff.mpr c69
            subst c69
            have H1 : (some false) = some r := by rw [if_neg (show ¬ (false = true) by decide)] at H; exact H
            clear H
            have H := H1
            clear H1
            obtain rfl := Option.some.inj H
            exact absurd ht_.out (by decide)
          rw [if_neg c65] at H
          have c65b0 : (t213 == t211) = false := beq_eq_false_iff_ne.mpr c65
          have c65b1 : (t213 != t211) = true := bne_iff_ne.mpr c65
          obtain rfl := Option.some.inj H
          exact absurd ht_.out (by decide)
    replace c15 := Bool.eq_false_iff.mpr c15
    subst c15
    have H1 : (some false) = some r := by rw [if_neg (show ¬ (false = true) by decide)] at H; exact H
    clear H
    have H := H1
    clear H1
    obtain rfl := Option.some.inj H
    exact absurd ht_.out (by decide)
  replace c12 := Bool.eq_false_iff.mpr c12
  subst c12
  have H1 : (some false) = some r := by rw [if_neg (show ¬ (false = true) by decide)] at H; exact H
  clear H
  have H := H1
  clear H1
  obtain rfl := Option.some.inj H
  exact absurd ht_.out (by decide)

end Go.Proofs.Ytibbkaoghbmncaa.Q
