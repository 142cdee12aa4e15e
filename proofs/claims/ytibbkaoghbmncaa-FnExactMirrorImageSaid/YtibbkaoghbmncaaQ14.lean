-- Written by a program of this session (the kit's printer, with hand-proved contracts for the functions that it does not take).
import Derived.Test.YtibbkaoghbmncaaQ0
import Derived.Test.YtibbkaoghbmncaaQ3
import Derived.Test.YtibbkaoghbmncaaQ8
import Derived.Test.YtibbkaoghbmncaaQ11
namespace Go.Proofs.Ytibbkaoghbmncaa.Q
open Go.RowKit Go.Proofs.YtibbkaoghbmncaaW.PrintWords Go.Proofs.YtibbkaoghbmncaaW.PrintLast Go.Proofs.YtibbkaoghbmncaaW.PrintMore
attribute [local go_sem] max2_int min2_int max_two min_two max_three min_three max_four min_four   -- for this text's walks alone
set_option linter.unusedVariables false
set_option linter.unusedSimpArgs false

/-! ### laws_FnExactMirrorImage: function 10 -/
def laws_FnExactMirrorImage.j0 : Nat → Bool → Int → Int → Int → List Int → Int → Int → Int → List Int → Int → Int → Int → List Int → Option (Bool)
  | 0, _, _, _, _, _, _, _, _, _, _, _, _, _ => none
  | k + 1, x42, x813000, x813001, x813002, x813003, x827000, x827001, x827002, x827003, x841000, x841001, x841002, x841003 => if x42 = true then (some false) else ((laws_markImage.f k x841000 x841001 x841002 x841003 1).bind fun bt852 => ((laws_heldImage.f k x841000 x841001 x841002 bt852.2 1).bind fun t854 => (if t854 < 0 then (some false) else (if t854 = bt852.1 then ((laws_toImage.f k x813000 x813001 x813002 x813003).bind fun bt855 => ((impl_MirrorImage.f bt855.1 bt855.2.1 bt855.2.2.1 bt855.2.2.2).bind fun bt861 => ((laws_eqImage.f k bt861.1 bt861.2.1 bt861.2.2.1 bt861.2.2.2 x827000 x827001 x827002 x827003).bind fun t868 => (if t868 = true then ((laws_heldImage.f k x841000 x841001 x841002 bt852.2 1).bind fun t869 => (if t869 < 0 then (some false) else (if t869 = bt852.1 then (some true) else (some false)))) else (some false))))) else (some false)))))
def laws_FnExactMirrorImage.f (k : Nat) (a0_0 : Int) (a0_1 : Int) (a0_2 : Int) (l0_3 : List Int) : Option (Bool) := (laws_szImage.f a0_0 a0_1 a0_2 l0_3 1048576).bind fun t813 => (if t813 < 0 then (some true) else ((laws_toImage.f k a0_0 a0_1 a0_2 l0_3).bind fun bt814 => ((spec_MirrorImage.f k bt814.1 bt814.2.1 bt814.2.2.1 bt814.2.2.2).bind fun bt820 => ((laws_toImage.f k a0_0 a0_1 a0_2 l0_3).bind fun bt827 => ((impl_MirrorImage.f bt827.1 bt827.2.1 bt827.2.2.1 bt827.2.2.2).bind fun bt834 => ((laws_eqImage.f k bt834.1 bt834.2.1 bt834.2.2.1 bt834.2.2.2 bt820.1 bt820.2.1 bt820.2.2.1 bt820.2.2.2).bind fun t841 => (if t841 = true then ((laws_toImage.f k a0_0 a0_1 a0_2 l0_3).bind fun bt842 => ((laws_eqImage.f k bt827.1 bt827.2.1 bt827.2.2.1 bt827.2.2.2 bt842.1 bt842.2.1 bt842.2.2.1 bt842.2.2.2).bind fun t848 => (if t848 = true then ((laws_markImage.f k bt827.1 bt827.2.1 bt827.2.2.1 bt827.2.2.2 1).bind fun bt849 => (if bt849.1 < 0 then (laws_FnExactMirrorImage.j0 k true a0_0 a0_1 a0_2 l0_3 bt820.1 bt820.2.1 bt820.2.2.1 bt820.2.2.2 bt834.1 bt834.2.1 bt834.2.2.1 bt834.2.2.2) else ((laws_eqImage.f k bt834.1 bt834.2.1 bt834.2.2.1 bt834.2.2.2 bt820.1 bt820.2.1 bt820.2.2.1 bt820.2.2.2).bind fun t851 => (laws_FnExactMirrorImage.j0 k (!t851) a0_0 a0_1 a0_2 l0_3 bt820.1 bt820.2.1 bt820.2.2.1 bt820.2.2.2 bt834.1 bt834.2.1 bt834.2.2.1 bt834.2.2.2)))) else (some false)))) else (some false))))))))
theorem laws_FnExactMirrorImage.mono_l : ∀ k, (∀ y0 y1 y2 y3 y4 y5 y6 y7 y8 y9 y10 y11 y12, LeO (laws_FnExactMirrorImage.j0 k y0 y1 y2 y3 y4 y5 y6 y7 y8 y9 y10 y11 y12) (laws_FnExactMirrorImage.j0 (k + 1) y0 y1 y2 y3 y4 y5 y6 y7 y8 y9 y10 y11 y12))
  | 0 => fun _ _ _ _ _ _ _ _ _ _ _ _ _ r h => by simp [laws_FnExactMirrorImage.j0] at h
  | k + 1 => by
    have ih0 := laws_FnExactMirrorImage.mono_l k
    · intro y0 y1 y2 y3 y4 y5 y6 y7 y8 y9 y10 y11 y12
      unfold laws_FnExactMirrorImage.j0
      repeat' first
      | (with_reducible exact ih0 _ _ _ _ _ _ _ _ _ _ _ _ _)
      | (with_reducible exact laws_eqImage.mono _ _ _ _ _ _ _ _ _)
      | (with_reducible exact laws_heldImage.mono _ _ _ _ _ _)
      | (with_reducible exact laws_markImage.mono _ _ _ _ _ _)
      | (with_reducible exact laws_toImage.mono _ _ _ _ _)
      | (with_reducible exact spec_MirrorImage.mono _ _ _ _ _)
      | (with_reducible exact LeO.refl _)
      | (with_reducible exact LeO.none _)
      | (with_reducible refine LeO.ite ?_ ?_)
      | (with_reducible refine LeO.bind ?_ (fun _ => ?_))
      | exact ih0 _ _ _ _ _ _ _ _ _ _ _ _ _
      | exact laws_eqImage.mono _ _ _ _ _ _ _ _ _
      | exact laws_heldImage.mono _ _ _ _ _ _
      | exact laws_markImage.mono _ _ _ _ _ _
      | exact laws_toImage.mono _ _ _ _ _
      | exact spec_MirrorImage.mono _ _ _ _ _
      | exact LeO.none _
      | refine LeO.ite ?_ ?_
      | refine LeO.bind ?_ (fun _ => ?_)
theorem laws_FnExactMirrorImage.mono : ∀ a0 a1 a2 a3 k, LeO (laws_FnExactMirrorImage.f k a0 a1 a2 a3) (laws_FnExactMirrorImage.f (k + 1) a0 a1 a2 a3) := by
  intro a0 a1 a2 a3 k
  have ih0 := laws_FnExactMirrorImage.mono_l k
  unfold laws_FnExactMirrorImage.f
  repeat' first
      | (with_reducible exact ih0 _ _ _ _ _ _ _ _ _ _ _ _ _)
      | (with_reducible exact laws_eqImage.mono _ _ _ _ _ _ _ _ _)
      | (with_reducible exact laws_heldImage.mono _ _ _ _ _ _)
      | (with_reducible exact laws_markImage.mono _ _ _ _ _ _)
      | (with_reducible exact laws_toImage.mono _ _ _ _ _)
      | (with_reducible exact spec_MirrorImage.mono _ _ _ _ _)
      | (with_reducible exact LeO.refl _)
      | (with_reducible exact LeO.none _)
      | (with_reducible refine LeO.ite ?_ ?_)
      | (with_reducible refine LeO.bind ?_ (fun _ => ?_))
      | exact ih0 _ _ _ _ _ _ _ _ _ _ _ _ _
      | exact laws_eqImage.mono _ _ _ _ _ _ _ _ _
      | exact laws_heldImage.mono _ _ _ _ _ _
      | exact laws_markImage.mono _ _ _ _ _ _
      | exact laws_toImage.mono _ _ _ _ _
      | exact spec_MirrorImage.mono _ _ _ _ _
      | exact LeO.none _
      | refine LeO.ite ?_ ?_
      | refine LeO.bind ?_ (fun _ => ?_)
set_option maxHeartbeats 8000000 in
set_option maxRecDepth 100000 in
theorem laws_FnExactMirrorImage.calls (k : Nat) (a0_0 : Int) (a0_1 : Int) (a0_2 : Int) (A0_3 : Option Addr) (c0_3 : Nat) (l0_3 : List Int) (r : Bool) (w : World) (hr0_3 : Kd.C (Kd.int .i64) w A0_3 l0_3.length l0_3) (hc0_3 : l0_3.length ≤ c0_3) (h : laws_FnExactMirrorImage.f k a0_0 a0_1 a0_2 l0_3 = some r) (ht_ : Aside0 (r = true)) :
    Calls Try.prog 10 #[.agg #[.int .i64 a0_0, .int .i64 a0_1, .int .i64 a0_2, .slice A0_3 l0_3.length c0_3]] w fun e w' => e = .returned (.bool r) ∧ Below w.heap.size w w' := by
  have hu24 := Try.underlying24
  have hu26 := Try.underlying26
  have HR0_3 := Aside0.mk hr0_3
  have HC0_3 := Aside0.mk hc0_3
  clear hr0_3 hc0_3
  have HB := Aside0.mk (Below.refl w.heap.size w)
  have H : ((laws_szImage.f a0_0 a0_1 a0_2 l0_3 1048576).bind fun t813 => (if t813 < 0 then (some true) else ((laws_toImage.f k a0_0 a0_1 a0_2 l0_3).bind fun bt814 => ((spec_MirrorImage.f k bt814.1 bt814.2.1 bt814.2.2.1 bt814.2.2.2).bind fun bt820 => ((laws_toImage.f k a0_0 a0_1 a0_2 l0_3).bind fun bt827 => ((impl_MirrorImage.f bt827.1 bt827.2.1 bt827.2.2.1 bt827.2.2.2).bind fun bt834 => ((laws_eqImage.f k bt834.1 bt834.2.1 bt834.2.2.1 bt834.2.2.2 bt820.1 bt820.2.1 bt820.2.2.1 bt820.2.2.2).bind fun t841 => (if t841 = true then ((laws_toImage.f k a0_0 a0_1 a0_2 l0_3).bind fun bt842 => ((laws_eqImage.f k bt827.1 bt827.2.1 bt827.2.2.1 bt827.2.2.2 bt842.1 bt842.2.1 bt842.2.2.1 bt842.2.2.2).bind fun t848 => (if t848 = true then ((laws_markImage.f k bt827.1 bt827.2.1 bt827.2.2.1 bt827.2.2.2 1).bind fun bt849 => (if bt849.1 < 0 then (laws_FnExactMirrorImage.j0 k true a0_0 a0_1 a0_2 l0_3 bt820.1 bt820.2.1 bt820.2.2.1 bt820.2.2.2 bt834.1 bt834.2.1 bt834.2.2.1 bt834.2.2.2) else ((laws_eqImage.f k bt834.1 bt834.2.1 bt834.2.2.1 bt834.2.2.2 bt820.1 bt820.2.1 bt820.2.2.1 bt820.2.2.2).bind fun t851 => (laws_FnExactMirrorImage.j0 k (!t851) a0_0 a0_1 a0_2 l0_3 bt820.1 bt820.2.1 bt820.2.2.1 bt820.2.2.2 bt834.1 bt834.2.1 bt834.2.2.1 bt834.2.2.2)))) else (some false)))) else (some false))))))))) = some r := h
  clear h
  replace H := Option.bind_eq_some_iff.mp H
  obtain ⟨t813, A20, H⟩ := H
  replace H : (if t813 < 0 then (some true) else ((laws_toImage.f k a0_0 a0_1 a0_2 l0_3).bind fun bt814 => ((spec_MirrorImage.f k bt814.1 bt814.2.1 bt814.2.2.1 bt814.2.2.2).bind fun bt820 => ((laws_toImage.f k a0_0 a0_1 a0_2 l0_3).bind fun bt827 => ((impl_MirrorImage.f bt827.1 bt827.2.1 bt827.2.2.1 bt827.2.2.2).bind fun bt834 => ((laws_eqImage.f k bt834.1 bt834.2.1 bt834.2.2.1 bt834.2.2.2 bt820.1 bt820.2.1 bt820.2.2.1 bt820.2.2.2).bind fun t841 => (if t841 = true then ((laws_toImage.f k a0_0 a0_1 a0_2 l0_3).bind fun bt842 => ((laws_eqImage.f k bt827.1 bt827.2.1 bt827.2.2.1 bt827.2.2.2 bt842.1 bt842.2.1 bt842.2.2.1 bt842.2.2.2).bind fun t848 => (if t848 = true then ((laws_markImage.f k bt827.1 bt827.2.1 bt827.2.2.1 bt827.2.2.2 1).bind fun bt849 => (if bt849.1 < 0 then (laws_FnExactMirrorImage.j0 k true a0_0 a0_1 a0_2 l0_3 bt820.1 bt820.2.1 bt820.2.2.1 bt820.2.2.2 bt834.1 bt834.2.1 bt834.2.2.1 bt834.2.2.2) else ((laws_eqImage.f k bt834.1 bt834.2.1 bt834.2.2.1 bt834.2.2.2 bt820.1 bt820.2.1 bt820.2.2.1 bt820.2.2.2).bind fun t851 => (laws_FnExactMirrorImage.j0 k (!t851) a0_0 a0_1 a0_2 l0_3 bt820.1 bt820.2.1 bt820.2.2.1 bt820.2.2.2 bt834.1 bt834.2.1 bt834.2.2.1 bt834.2.2.2)))) else (some false)))) else (some false)))))))) = some r := H
  have A2 := Aside0.mk A20
  clear A20
  by_cases c3 : t813 < 0
  · rw [if_pos c3] at H
    have c3b0 : decide (t813 < 0) = true := decide_eq_true c3
    clear c3
    obtain rfl := Option.some.inj H
    simp only [Option.some.injEq, Prod.mk.injEq] at H
    obtain ⟨rfl⟩ := H
    go_enter Try.func10, Try.ntmps10
    go_wp2_with (first | ((with_reducible refine gate_dst (N := 1) rfl ?_); refine box_event ?hg (N := 1) ?hd (cs := #[.int .i64 a0_0, .int .i64 a0_1, .int .i64 a0_2, .slice A0_3 l0_3.length c0_3]) (t := 24) ?hr ?_; (case hd => rfl); (case hg => rfl); (case hr => first | (go_simp; done) | (go_simp; rfl)); intro gb812 hg w4 hbox hb; have n0_ := Aside0.mk (below_step (B.bl HB) hb); have n1_ := Aside0.mk (hbox); have n2_ := Aside0.mk (B.nle hg (below_size (B.bl HB))); have n3_ := Aside0.mk (B.nle hg (below_size (B.bl HB))); clear HB; have HB := n0_; have BK812 := n1_; have GW812 := n2_; have GE812 := n3_; clear n0_ n1_ n2_ n3_; clear hb hbox hg; have hcz5_0 : w4.cell? ⟨gb812, 0, none⟩ = some (.int .i64 a0_0) := B.bc BK812 0; have hcz5_1 : w4.cell? ⟨gb812, 1, none⟩ = some (.int .i64 a0_1) := B.bc BK812 1; have hcz5_2 : w4.cell? ⟨gb812, 2, none⟩ = some (.int .i64 a0_2) := B.bc BK812 2; have hcz5_3 : w4.cell? ⟨gb812, 3, none⟩ = some (.slice A0_3 l0_3.length c0_3) := B.bc BK812 3; have hfz5_0 := blk_frozen BK812.out 0; have hfz5_1 := blk_frozen BK812.out 1; have hfz5_2 := blk_frozen BK812.out 2; have hfz5_3 := blk_frozen BK812.out 3) | ((with_reducible refine gate_callee (f := 12) rfl ?_); refine goesL_ (some 13) rfl rfl Try.func12 (by kernel_rfl) rfl #[.agg #[.int .i64 a0_0, .int .i64 a0_1, .int .i64 a0_2, .slice A0_3 l0_3.length c0_3], .int .i64 1048576] rfl B.am ?_; (with_reducible refine (laws_szImage.calls a0_0 a0_1 a0_2 _ _ l0_3 1048576 t813 _ ?side1 ?side2 A2.out).mono ?_); (case side1 => exact B.kc (Kd.C_below HR0_3.out HB.out)); (case side2 => exact HC0_3.out); rintro e w6 ⟨rfl, hb⟩; refine ⟨_, rfl, ?_⟩; have n0_ := Aside0.mk (blk_below (B.kb BK812) hb); have n1_ := Aside0.mk (below_step (B.bl HB) hb); clear BK812 HB; have BK812 := n0_; have HB := n1_; clear n0_ n1_; (try clear hb); (try clear hb2); (try clear hk); (try clear hi)))
    go_ret
    exact ⟨by first | rfl | (simp [errW_none, errW_some] <;> rfl) | (simp [*, errW_none, errW_some] <;> rfl), B.bl HB⟩
  rw [if_neg c3] at H
  have c3b0 : decide (t813 < 0) = false := decide_eq_false c3
  clear c3
  replace H := Option.bind_eq_some_iff.mp H
  obtain ⟨⟨t814, t815, t816, t817⟩, A70, H⟩ := H
  replace H : ((spec_MirrorImage.f k t814 t815 t816 t817).bind fun bt820 => ((laws_toImage.f k a0_0 a0_1 a0_2 l0_3).bind fun bt827 => ((impl_MirrorImage.f bt827.1 bt827.2.1 bt827.2.2.1 bt827.2.2.2).bind fun bt834 => ((laws_eqImage.f k bt834.1 bt834.2.1 bt834.2.2.1 bt834.2.2.2 bt820.1 bt820.2.1 bt820.2.2.1 bt820.2.2.2).bind fun t841 => (if t841 = true then ((laws_toImage.f k a0_0 a0_1 a0_2 l0_3).bind fun bt842 => ((laws_eqImage.f k bt827.1 bt827.2.1 bt827.2.2.1 bt827.2.2.2 bt842.1 bt842.2.1 bt842.2.2.1 bt842.2.2.2).bind fun t848 => (if t848 = true then ((laws_markImage.f k bt827.1 bt827.2.1 bt827.2.2.1 bt827.2.2.2 1).bind fun bt849 => (if bt849.1 < 0 then (laws_FnExactMirrorImage.j0 k true a0_0 a0_1 a0_2 l0_3 bt820.1 bt820.2.1 bt820.2.2.1 bt820.2.2.2 bt834.1 bt834.2.1 bt834.2.2.1 bt834.2.2.2) else ((laws_eqImage.f k bt834.1 bt834.2.1 bt834.2.2.1 bt834.2.2.2 bt820.1 bt820.2.1 bt820.2.2.1 bt820.2.2.2).bind fun t851 => (laws_FnExactMirrorImage.j0 k (!t851) a0_0 a0_1 a0_2 l0_3 bt820.1 bt820.2.1 bt820.2.2.1 bt820.2.2.2 bt834.1 bt834.2.1 bt834.2.2.1 bt834.2.2.2)))) else (some false)))) else (some false)))))) = some r := H
  have A7 := Aside0.mk A70
  clear A70
  replace H := Option.bind_eq_some_iff.mp H
  obtain ⟨⟨t820, t821, t822, t823⟩, A80, H⟩ := H
  replace H : ((laws_toImage.f k a0_0 a0_1 a0_2 l0_3).bind fun bt827 => ((impl_MirrorImage.f bt827.1 bt827.2.1 bt827.2.2.1 bt827.2.2.2).bind fun bt834 => ((laws_eqImage.f k bt834.1 bt834.2.1 bt834.2.2.1 bt834.2.2.2 t820 t821 t822 t823).bind fun t841 => (if t841 = true then ((laws_toImage.f k a0_0 a0_1 a0_2 l0_3).bind fun bt842 => ((laws_eqImage.f k bt827.1 bt827.2.1 bt827.2.2.1 bt827.2.2.2 bt842.1 bt842.2.1 bt842.2.2.1 bt842.2.2.2).bind fun t848 => (if t848 = true then ((laws_markImage.f k bt827.1 bt827.2.1 bt827.2.2.1 bt827.2.2.2 1).bind fun bt849 => (if bt849.1 < 0 then (laws_FnExactMirrorImage.j0 k true a0_0 a0_1 a0_2 l0_3 t820 t821 t822 t823 bt834.1 bt834.2.1 bt834.2.2.1 bt834.2.2.2) else ((laws_eqImage.f k bt834.1 bt834.2.1 bt834.2.2.1 bt834.2.2.2 t820 t821 t822 t823).bind fun t851 => (laws_FnExactMirrorImage.j0 k (!t851) a0_0 a0_1 a0_2 l0_3 t820 t821 t822 t823 bt834.1 bt834.2.1 bt834.2.2.1 bt834.2.2.2)))) else (some false)))) else (some false))))) = some r := H
  have A8 := Aside0.mk A80
  clear A80
  replace H := Option.bind_eq_some_iff.mp H
  obtain ⟨⟨t827, t828, t829, t830⟩, A90, H⟩ := H
  replace H : ((impl_MirrorImage.f t827 t828 t829 t830).bind fun bt834 => ((laws_eqImage.f k bt834.1 bt834.2.1 bt834.2.2.1 bt834.2.2.2 t820 t821 t822 t823).bind fun t841 => (if t841 = true then ((laws_toImage.f k a0_0 a0_1 a0_2 l0_3).bind fun bt842 => ((laws_eqImage.f k t827 t828 t829 t830 bt842.1 bt842.2.1 bt842.2.2.1 bt842.2.2.2).bind fun t848 => (if t848 = true then ((laws_markImage.f k t827 t828 t829 t830 1).bind fun bt849 => (if bt849.1 < 0 then (laws_FnExactMirrorImage.j0 k true a0_0 a0_1 a0_2 l0_3 t820 t821 t822 t823 bt834.1 bt834.2.1 bt834.2.2.1 bt834.2.2.2) else ((laws_eqImage.f k bt834.1 bt834.2.1 bt834.2.2.1 bt834.2.2.2 t820 t821 t822 t823).bind fun t851 => (laws_FnExactMirrorImage.j0 k (!t851) a0_0 a0_1 a0_2 l0_3 t820 t821 t822 t823 bt834.1 bt834.2.1 bt834.2.2.1 bt834.2.2.2)))) else (some false)))) else (some false)))) = some r := H
  have A9 := Aside0.mk A90
  clear A90
  replace H := Option.bind_eq_some_iff.mp H
  obtain ⟨⟨t834, t835, t836, t837⟩, A100, H⟩ := H
  replace H : ((laws_eqImage.f k t834 t835 t836 t837 t820 t821 t822 t823).bind fun t841 => (if t841 = true then ((laws_toImage.f k a0_0 a0_1 a0_2 l0_3).bind fun bt842 => ((laws_eqImage.f k t827 t828 t829 t830 bt842.1 bt842.2.1 bt842.2.2.1 bt842.2.2.2).bind fun t848 => (if t848 = true then ((laws_markImage.f k t827 t828 t829 t830 1).bind fun bt849 => (if bt849.1 < 0 then (laws_FnExactMirrorImage.j0 k true a0_0 a0_1 a0_2 l0_3 t820 t821 t822 t823 t834 t835 t836 t837) else ((laws_eqImage.f k t834 t835 t836 t837 t820 t821 t822 t823).bind fun t851 => (laws_FnExactMirrorImage.j0 k (!t851) a0_0 a0_1 a0_2 l0_3 t820 t821 t822 t823 t834 t835 t836 t837)))) else (some false)))) else (some false))) = some r := H
  have A10 := Aside0.mk A100
  clear A100
  replace H := Option.bind_eq_some_iff.mp H
  obtain ⟨t841, A110, H⟩ := H
  replace H : (if t841 = true then ((laws_toImage.f k a0_0 a0_1 a0_2 l0_3).bind fun bt842 => ((laws_eqImage.f k t827 t828 t829 t830 bt842.1 bt842.2.1 bt842.2.2.1 bt842.2.2.2).bind fun t848 => (if t848 = true then ((laws_markImage.f k t827 t828 t829 t830 1).bind fun bt849 => (if bt849.1 < 0 then (laws_FnExactMirrorImage.j0 k true a0_0 a0_1 a0_2 l0_3 t820 t821 t822 t823 t834 t835 t836 t837) else ((laws_eqImage.f k t834 t835 t836 t837 t820 t821 t822 t823).bind fun t851 => (laws_FnExactMirrorImage.j0 k (!t851) a0_0 a0_1 a0_2 l0_3 t820 t821 t822 t823 t834 t835 t836 t837)))) else (some false)))) else (some false)) = some r := H
  have A11 := Aside0.mk A110
  clear A110
  by_cases c12 : t841 = true
  · subst c12
    have H1 : ((laws_toImage.f k a0_0 a0_1 a0_2 l0_3).bind fun bt842 => ((laws_eqImage.f k t827 t828 t829 t830 bt842.1 bt842.2.1 bt842.2.2.1 bt842.2.2.2).bind fun t848 => (if t848 = true then ((laws_markImage.f k t827 t828 t829 t830 1).bind fun bt849 => (if bt849.1 < 0 then (laws_FnExactMirrorImage.j0 k true a0_0 a0_1 a0_2 l0_3 t820 t821 t822 t823 t834 t835 t836 t837) else ((laws_eqImage.f k t834 t835 t836 t837 t820 t821 t822 t823).bind fun t851 => (laws_FnExactMirrorImage.j0 k (!t851) a0_0 a0_1 a0_2 l0_3 t820 t821 t822 t823 t834 t835 t836 t837)))) else (some false)))) = some r := by rw [if_pos rfl] at H; exact H
    clear H
    have H := H1
    clear H1
    replace H := Option.bind_eq_some_iff.mp H
    obtain ⟨⟨t842, t843, t844, t845⟩, A130, H⟩ := H
    replace H : ((laws_eqImage.f k t827 t828 t829 t830 t842 t843 t844 t845).bind fun t848 => (if t848 = true then ((laws_markImage.f k t827 t828 t829 t830 1).bind fun bt849 => (if bt849.1 < 0 then (laws_FnExactMirrorImage.j0 k true a0_0 a0_1 a0_2 l0_3 t820 t821 t822 t823 t834 t835 t836 t837) else ((laws_eqImage.f k t834 t835 t836 t837 t820 t821 t822 t823).bind fun t851 => (laws_FnExactMirrorImage.j0 k (!t851) a0_0 a0_1 a0_2 l0_3 t820 t821 t822 t823 t834 t835 t836 t837)))) else (some false))) = some r := H
    have A13 := Aside0.mk A130
    clear A130
    replace H := Option.bind_eq_some_iff.mp H
    obtain ⟨t848, A140, H⟩ := H
    replace H : (if t848 = true then ((laws_markImage.f k t827 t828 t829 t830 1).bind fun bt849 => (if bt849.1 < 0 then (laws_FnExactMirrorImage.j0 k true a0_0 a0_1 a0_2 l0_3 t820 t821 t822 t823 t834 t835 t836 t837) else ((laws_eqImage.f k t834 t835 t836 t837 t820 t821 t822 t823).bind fun t851 => (laws_FnExactMirrorImage.j0 k (!t851) a0_0 a0_1 a0_2 l0_3 t820 t821 t822 t823 t834 t835 t836 t837)))) else (some false)) = some r := H
    have A14 := Aside0.mk A140
    clear A140
    by_cases c15 : t848 = true
    · subst c15
      have H1 : ((laws_markImage.f k t827 t828 t829 t830 1).bind fun bt849 => (if bt849.1 < 0 then (laws_FnExactMirrorImage.j0 k true a0_0 a0_1 a0_2 l0_3 t820 t821 t822 t823 t834 t835 t836 t837) else ((laws_eqImage.f k t834 t835 t836 t837 t820 t821 t822 t823).bind fun t851 => (laws_FnExactMirrorImage.j0 k (!t851) a0_0 a0_1 a0_2 l0_3 t820 t821 t822 t823 t834 t835 t836 t837)))) = some r := by rw [if_pos rfl] at H; exact H
      clear H
      have H := H1
      clear H1
      replace H := Option.bind_eq_some_iff.mp H
      obtain ⟨⟨t849, t850⟩, A160, H⟩ := H
      replace H : (if t849 < 0 then (laws_FnExactMirrorImage.j0 k true a0_0 a0_1 a0_2 l0_3 t820 t821 t822 t823 t834 t835 t836 t837) else ((laws_eqImage.f k t834 t835 t836 t837 t820 t821 t822 t823).bind fun t851 => (laws_FnExactMirrorImage.j0 k (!t851) a0_0 a0_1 a0_2 l0_3 t820 t821 t822 t823 t834 t835 t836 t837))) = some r := H
      have A16 := Aside0.mk A160
      clear A160
      have HC17 := Aside0.mk H
      clear H
      go_enter Try.func10, Try.ntmps10
      try go_wp2_with (first | ((with_reducible refine gate_dst (N := 1) rfl ?_); refine box_event ?hg (N := 1) ?hd (cs := #[.int .i64 a0_0, .int .i64 a0_1, .int .i64 a0_2, .slice A0_3 l0_3.length c0_3]) (t := 24) ?hr ?_; (case hd => rfl); (case hg => rfl); (case hr => first | (go_simp; done) | (go_simp; rfl)); intro gb812 hg w18 hbox hb; have n0_ := Aside0.mk (below_step (B.bl HB) hb); have n1_ := Aside0.mk (hbox); have n2_ := Aside0.mk (B.nle hg (below_size (B.bl HB))); have n3_ := Aside0.mk (B.nle hg (below_size (B.bl HB))); clear HB; have HB := n0_; have BK812 := n1_; have GW812 := n2_; have GE812 := n3_; clear n0_ n1_ n2_ n3_; clear hb hbox hg; have hcz19_0 : w18.cell? ⟨gb812, 0, none⟩ = some (.int .i64 a0_0) := B.bc BK812 0; have hcz19_1 : w18.cell? ⟨gb812, 1, none⟩ = some (.int .i64 a0_1) := B.bc BK812 1; have hcz19_2 : w18.cell? ⟨gb812, 2, none⟩ = some (.int .i64 a0_2) := B.bc BK812 2; have hcz19_3 : w18.cell? ⟨gb812, 3, none⟩ = some (.slice A0_3 l0_3.length c0_3) := B.bc BK812 3; have hfz19_0 := blk_frozen BK812.out 0; have hfz19_1 := blk_frozen BK812.out 1; have hfz19_2 := blk_frozen BK812.out 2; have hfz19_3 := blk_frozen BK812.out 3) | ((with_reducible refine gate_callee (f := 12) rfl ?_); refine goesL_ (some 13) rfl rfl Try.func12 (by kernel_rfl) rfl #[.agg #[.int .i64 a0_0, .int .i64 a0_1, .int .i64 a0_2, .slice A0_3 l0_3.length c0_3], .int .i64 1048576] rfl B.am ?_; (with_reducible refine (laws_szImage.calls a0_0 a0_1 a0_2 _ _ l0_3 1048576 t813 _ ?side1 ?side2 A2.out).mono ?_); (case side1 => exact B.kc (Kd.C_below HR0_3.out HB.out)); (case side2 => exact HC0_3.out); rintro e w20 ⟨rfl, hb⟩; refine ⟨_, rfl, ?_⟩; have n0_ := Aside0.mk (blk_below (B.kb BK812) hb); have n1_ := Aside0.mk (below_step (B.bl HB) hb); clear BK812 HB; have BK812 := n0_; have HB := n1_; clear n0_ n1_; (try clear hb); (try clear hb2); (try clear hk); (try clear hi); have hcz21_0 : w20.cell? ⟨gb812, 0, none⟩ = some (.int .i64 a0_0) := B.bc BK812 0; have hcz21_1 : w20.cell? ⟨gb812, 1, none⟩ = some (.int .i64 a0_1) := B.bc BK812 1; have hcz21_2 : w20.cell? ⟨gb812, 2, none⟩ = some (.int .i64 a0_2) := B.bc BK812 2; have hcz21_3 : w20.cell? ⟨gb812, 3, none⟩ = some (.slice A0_3 l0_3.length c0_3) := B.bc BK812 3; have hfz21_0 := blk_frozen BK812.out 0; have hfz21_1 := blk_frozen BK812.out 1; have hfz21_2 := blk_frozen BK812.out 2; have hfz21_3 := blk_frozen BK812.out 3) | ((with_reducible refine gate_callee (f := 14) rfl ?_); refine goesL_ (some 17) rfl rfl Try.func14 (by kernel_rfl) rfl #[.agg #[.int .i64 a0_0, .int .i64 a0_1, .int .i64 a0_2, .slice A0_3 l0_3.length c0_3]] rfl B.am ?_; (with_reducible refine (laws_toImage.calls k a0_0 a0_1 a0_2 _ _ l0_3 t814 t815 t816 t817 _ ?side1 ?side2 A7.out).mono ?_); (case side1 => exact B.kc (Kd.C_below HR0_3.out HB.out)); (case side2 => exact HC0_3.out); rintro e w22 ⟨v818, rfl, ho0, hb⟩; refine ⟨_, rfl, ?_⟩; have n0_ := Aside0.mk (Kd.R_lower ho0 (below_size (B.bl HB))); have n1_ := Aside0.mk (blk_below (B.kb BK812) hb); have n2_ := Aside0.mk (below_step (B.bl HB) hb); clear BK812 HB; have HO819 := n0_; have BK812 := n1_; have HB := n2_; clear n0_ n1_ n2_; (try clear hb); (try clear hb2); (try clear hk); (try clear hi); (try clear ho0); obtain ⟨Ao23, co23, eo23⟩ := Kd.R_slice HO819.out; subst eo23) | ((with_reducible refine gate_callee (f := 32) rfl ?_); refine goesL_ (some 18) rfl rfl Try.func32 (by kernel_rfl) rfl #[.agg #[.int .i64 t814, .int .i64 t815, .int .i64 t816, .slice Ao23 t817.length co23]] rfl B.am ?_; (with_reducible refine (spec_MirrorImage.calls k t814 t815 t816 _ _ t817 t820 t821 t822 t823 _ ?side1 ?side2 A8.out).mono ?_); (case side1 => exact B.kc ((Kd.R_reads' HO819.out).2.2)); (case side2 => exact (Kd.R_reads' HO819.out).2.1); rintro e w24 ⟨v824, rfl, ho0, hb⟩; refine ⟨_, rfl, ?_⟩; have n0_ := Aside0.mk (Kd.R_elder' (B.kr HO819) (Kd.R_base ho0) hb); have n1_ := Aside0.mk (Kd.R_lower (Kd.R_new' ho0 (Kd.R_lt (B.kr HO819))) (below_size (B.bl HB))); have n2_ := Aside0.mk (blk_below (B.kb BK812) hb); have n3_ := Aside0.mk (below_step (B.bl HB) hb); clear HO819 BK812 HB; have HO819 := n0_; have HO825 := n1_; have BK812 := n2_; have HB := n3_; clear n0_ n1_ n2_ n3_; (try clear hb); (try clear hb2); (try clear hk); (try clear hi); (try clear ho0)) | ((with_reducible refine gate_dst (N := 4) rfl ?_); refine box_event ?hg (N := 4) ?hd (cs := #[.int .i64 0, .int .i64 0, .int .i64 0, .slice none 0 0]) (t := 26) ?hr ?_; (case hd => rfl); (case hg => rfl); (case hr => first | (go_simp; done) | (go_simp; rfl)); intro gb826 hg w25 hbox hb; have n0_ := Aside0.mk (Kd.R_below (B.kr HO819) hb); have n1_ := Aside0.mk (Kd.R_below (B.kr HO825) hb); have n2_ := Aside0.mk (blk_below (B.kb BK812) hb); have n3_ := Aside0.mk (below_step (B.bl HB) hb); have n4_ := Aside0.mk (hbox); have n5_ := Aside0.mk (B.nle hg (below_size (B.bl HB))); have n6_ := Aside0.mk (B.nle hg (below_size (B.bl HB))); have n7_ := Aside0.mk (B.nlt hg (blk_lt (B.kb BK812))); have n8_ := Aside0.mk (B.ngt hg (blk_lt (B.kb BK812))); clear HO819 HO825 BK812 HB; have HO819 := n0_; have HO825 := n1_; have BK812 := n2_; have HB := n3_; have BK826 := n4_; have GW826 := n5_; have GE826 := n6_; have NB812_826 := n7_; have NB826_812 := n8_; clear n0_ n1_ n2_ n3_ n4_ n5_ n6_ n7_ n8_; clear hb hbox hg; have hnb26 := NB826_812.out; have hnc26 := NB812_826.out; have hcz27_0 : w25.cell? ⟨gb826, 0, none⟩ = some (.int .i64 0) := B.bc BK826 0; have hcz27_1 : w25.cell? ⟨gb826, 1, none⟩ = some (.int .i64 0) := B.bc BK826 1; have hcz27_2 : w25.cell? ⟨gb826, 2, none⟩ = some (.int .i64 0) := B.bc BK826 2; have hcz27_3 : w25.cell? ⟨gb826, 3, none⟩ = some (.slice none 0 0) := B.bc BK826 3; have hfz27_0 := blk_frozen BK826.out 0; have hfz27_1 := blk_frozen BK826.out 1; have hfz27_2 := blk_frozen BK826.out 2; have hfz27_3 := blk_frozen BK826.out 3; obtain ⟨Ao28, co28, eo28⟩ := Kd.R_slice HO825.out; subst eo28; have hcz29_0 : w25.cell? ⟨gb812, 0, none⟩ = some (.int .i64 a0_0) := B.bc BK812 0; have hcz29_1 : w25.cell? ⟨gb812, 1, none⟩ = some (.int .i64 a0_1) := B.bc BK812 1; have hcz29_2 : w25.cell? ⟨gb812, 2, none⟩ = some (.int .i64 a0_2) := B.bc BK812 2; have hcz29_3 : w25.cell? ⟨gb812, 3, none⟩ = some (.slice A0_3 l0_3.length c0_3) := B.bc BK812 3; have hfz29_0 := blk_frozen BK812.out 0; have hfz29_1 := blk_frozen BK812.out 1; have hfz29_2 := blk_frozen BK812.out 2; have hfz29_3 := blk_frozen BK812.out 3) | ((with_reducible refine gate_callee (f := 14) rfl ?_); refine goesL_ (some 20) rfl rfl Try.func14 (by kernel_rfl) rfl #[.agg #[.int .i64 a0_0, .int .i64 a0_1, .int .i64 a0_2, .slice A0_3 l0_3.length c0_3]] rfl B.am ?_; (with_reducible refine (laws_toImage.calls k a0_0 a0_1 a0_2 _ _ l0_3 t827 t828 t829 t830 _ ?side1 ?side2 A9.out).mono ?_); (case side1 => exact Kd.C_below HR0_3.out (B.bl HB)); (case side2 => exact HC0_3.out); rintro e w30 ⟨v831, rfl, ho0, hb⟩; refine ⟨_, rfl, ?_⟩; have n0_ := Aside0.mk (Kd.R_elder' (B.kr0 (B.rs4 HO819 BK826)) (Kd.R_base ho0) hb); have n1_ := Aside0.mk (Kd.R_elder' (B.kr0 (B.rs4 HO825 BK826)) (Kd.R_base ho0) hb); have n2_ := Aside0.mk (Kd.R_lower (Kd.R_new' (Kd.R_new' ho0 (Kd.R_lt (B.kr0 (B.rs4 HO819 BK826)))) (Kd.R_lt (B.kr0 (B.rs4 HO825 BK826)))) (below_size (B.bl HB))); have n3_ := Aside0.mk (blk_below (B.kb0 (B.bf4 BK812 NB812_826)) hb); have n4_ := Aside0.mk (blk_below (g := gb826) (o := .cells #[.int .i64 t820, .int .i64 t821, .int .i64 t822, .slice Ao28 t823.length co28] 26 (0, 0)) (B.kb0 (B.bp4 BK826)) hb); have n5_ := Aside0.mk (below_step (B.bl HB) hb); clear HO819 HO825 BK812 BK826 HB; have HO819 := n0_; have HO825 := n1_; have HO832 := n2_; have BK812 := n3_; have BK826 := n4_; have HB := n5_; clear n0_ n1_ n2_ n3_ n4_ n5_; (try clear hb); (try clear hb2); (try clear hk); (try clear hi); (try clear ho0)) | ((with_reducible refine gate_dst (N := 5) rfl ?_); refine box_event ?hg (N := 5) ?hd (cs := #[.int .i64 0, .int .i64 0, .int .i64 0, .slice none 0 0]) (t := 26) ?hr ?_; (case hd => rfl); (case hg => rfl); (case hr => first | (go_simp; done) | (go_simp; rfl)); intro gb833 hg w31 hbox hb; have n0_ := Aside0.mk (Kd.R_below (B.kr HO819) hb); have n1_ := Aside0.mk (Kd.R_below (B.kr HO825) hb); have n2_ := Aside0.mk (Kd.R_below (B.kr HO832) hb); have n3_ := Aside0.mk (blk_below (B.kb BK812) hb); have n4_ := Aside0.mk (blk_below (B.kb BK826) hb); have n5_ := Aside0.mk (below_step (B.bl HB) hb); have n6_ := Aside0.mk (hbox); have n7_ := Aside0.mk (B.nle hg (below_size (B.bl HB))); have n8_ := Aside0.mk (B.nle hg (below_size (B.bl HB))); have n9_ := Aside0.mk (B.nlt hg (blk_lt (B.kb BK812))); have n10_ := Aside0.mk (B.ngt hg (blk_lt (B.kb BK812))); have n11_ := Aside0.mk (B.nlt hg (blk_lt (B.kb BK826))); have n12_ := Aside0.mk (B.ngt hg (blk_lt (B.kb BK826))); clear HO819 HO825 HO832 BK812 BK826 HB; have HO819 := n0_; have HO825 := n1_; have HO832 := n2_; have BK812 := n3_; have BK826 := n4_; have HB := n5_; have BK833 := n6_; have GW833 := n7_; have GE833 := n8_; have NB812_833 := n9_; have NB833_812 := n10_; have NB826_833 := n11_; have NB833_826 := n12_; clear n0_ n1_ n2_ n3_ n4_ n5_ n6_ n7_ n8_ n9_ n10_ n11_ n12_; clear hb hbox hg; have hnb32 := NB833_812.out; have hnc32 := NB812_833.out; have hnb33 := NB833_826.out; have hnc33 := NB826_833.out; have hcz34_0 : w31.cell? ⟨gb833, 0, none⟩ = some (.int .i64 0) := B.bc BK833 0; have hcz34_1 : w31.cell? ⟨gb833, 1, none⟩ = some (.int .i64 0) := B.bc BK833 1; have hcz34_2 : w31.cell? ⟨gb833, 2, none⟩ = some (.int .i64 0) := B.bc BK833 2; have hcz34_3 : w31.cell? ⟨gb833, 3, none⟩ = some (.slice none 0 0) := B.bc BK833 3; have hfz34_0 := blk_frozen BK833.out 0; have hfz34_1 := blk_frozen BK833.out 1; have hfz34_2 := blk_frozen BK833.out 2; have hfz34_3 := blk_frozen BK833.out 3; obtain ⟨Ao35, co35, eo35⟩ := Kd.R_slice HO832.out; subst eo35) | ((with_reducible refine gate_callee (f := 21) rfl ?_); refine goesL_ (some 22) rfl rfl Try.func21 (by kernel_rfl) rfl #[.agg #[.int .i64 t827, .int .i64 t828, .int .i64 t829, .slice Ao35 t830.length co35]] rfl B.am ?_; (with_reducible refine (impl_MirrorImage.calls t827 t828 t829 _ _ t830 t834 t835 t836 t837 _ ?side1 ?side2 A10.out).mono ?_); (case side1 => refine (Kd.R_reads' (e := 3) (base := w.heap.size) (ok := fun k_ => ((True ∧ some k_ ≠ (.slice Ao23 t817.length co23 : Value).ownBlock) ∧ some k_ ≠ (.slice Ao28 t823.length co28 : Value).ownBlock)) (n := t830.length) (c := co35) ?_).2.2; exact (B.kr0 (B.rs4 HO832 BK833))); (case side2 => exact (Kd.R_reads' HO832.out).2.1); rintro e w36 ⟨v838, rfl, ho0, hb⟩; refine ⟨_, rfl, ?_⟩; have n0_ := Aside0.mk (Kd.R_elder' (B.kr0 (B.rs4 HO819 BK833)) (Kd.R_base ho0) hb); have n1_ := Aside0.mk (Kd.R_elder' (B.kr0 (B.rs4 HO825 BK833)) (Kd.R_base ho0) hb); have n2_ := Aside0.mk (Kd.R_elder' (B.kr0 (B.rs4 HO832 BK833)) (Kd.R_base ho0) hb); have n3_ := Aside0.mk (Kd.R_lower (Kd.R_new' (Kd.R_new' (Kd.R_new' ho0 (Kd.R_lt (B.kr0 (B.rs4 HO819 BK833)))) (Kd.R_lt (B.kr0 (B.rs4 HO825 BK833)))) (Kd.R_lt (B.kr0 (B.rs4 HO832 BK833)))) (below_size (B.bl HB))); have n4_ := Aside0.mk (blk_below (B.kb0 (B.bf4 BK812 NB812_833)) hb); have n5_ := Aside0.mk (blk_below (B.kb0 (B.bf4 BK826 NB826_833)) hb); have n6_ := Aside0.mk (blk_below (g := gb833) (o := .cells #[.int .i64 t827, .int .i64 t828, .int .i64 t829, .slice Ao35 t830.length co35] 26 (0, 0)) (B.kb0 (B.bp4 BK833)) hb); have n7_ := Aside0.mk (below_step (B.bl HB) hb); clear HO819 HO825 HO832 BK812 BK826 BK833 HB; have HO819 := n0_; have HO825 := n1_; have HO832 := n2_; have HO839 := n3_; have BK812 := n4_; have BK826 := n5_; have BK833 := n6_; have HB := n7_; clear n0_ n1_ n2_ n3_ n4_ n5_ n6_ n7_; (try clear hb); (try clear hb2); (try clear hk); (try clear hi); (try clear ho0)) | ((with_reducible refine gate_dst (N := 6) rfl ?_); refine box_event ?hg (N := 6) ?hd (cs := #[.int .i64 0, .int .i64 0, .int .i64 0, .slice none 0 0]) (t := 26) ?hr ?_; (case hd => rfl); (case hg => rfl); (case hr => first | (go_simp; done) | (go_simp; rfl)); intro gb840 hg w37 hbox hb; have n0_ := Aside0.mk (Kd.R_below (B.kr HO819) hb); have n1_ := Aside0.mk (Kd.R_below (B.kr HO825) hb); have n2_ := Aside0.mk (Kd.R_below (B.kr HO832) hb); have n3_ := Aside0.mk (Kd.R_below (B.kr HO839) hb); have n4_ := Aside0.mk (blk_below (B.kb BK812) hb); have n5_ := Aside0.mk (blk_below (B.kb BK826) hb); have n6_ := Aside0.mk (blk_below (B.kb BK833) hb); have n7_ := Aside0.mk (below_step (B.bl HB) hb); have n8_ := Aside0.mk (hbox); have n9_ := Aside0.mk (B.nle hg (below_size (B.bl HB))); have n10_ := Aside0.mk (B.nle hg (below_size (B.bl HB))); have n11_ := Aside0.mk (B.nlt hg (blk_lt (B.kb BK812))); have n12_ := Aside0.mk (B.ngt hg (blk_lt (B.kb BK812))); have n13_ := Aside0.mk (B.nlt hg (blk_lt (B.kb BK826))); have n14_ := Aside0.mk (B.ngt hg (blk_lt (B.kb BK826))); have n15_ := Aside0.mk (B.nlt hg (blk_lt (B.kb BK833))); have n16_ := Aside0.mk (B.ngt hg (blk_lt (B.kb BK833))); clear HO819 HO825 HO832 HO839 BK812 BK826 BK833 HB; have HO819 := n0_; have HO825 := n1_; have HO832 := n2_; have HO839 := n3_; have BK812 := n4_; have BK826 := n5_; have BK833 := n6_; have HB := n7_; have BK840 := n8_; have GW840 := n9_; have GE840 := n10_; have NB812_840 := n11_; have NB840_812 := n12_; have NB826_840 := n13_; have NB840_826 := n14_; have NB833_840 := n15_; have NB840_833 := n16_; clear n0_ n1_ n2_ n3_ n4_ n5_ n6_ n7_ n8_ n9_ n10_ n11_ n12_ n13_ n14_ n15_ n16_; clear hb hbox hg; have hnb38 := NB840_812.out; have hnc38 := NB812_840.out; have hnb39 := NB840_826.out; have hnc39 := NB826_840.out; have hnb40 := NB840_833.out; have hnc40 := NB833_840.out; have hcz41_0 : w37.cell? ⟨gb840, 0, none⟩ = some (.int .i64 0) := B.bc BK840 0; have hcz41_1 : w37.cell? ⟨gb840, 1, none⟩ = some (.int .i64 0) := B.bc BK840 1; have hcz41_2 : w37.cell? ⟨gb840, 2, none⟩ = some (.int .i64 0) := B.bc BK840 2; have hcz41_3 : w37.cell? ⟨gb840, 3, none⟩ = some (.slice none 0 0) := B.bc BK840 3; have hfz41_0 := blk_frozen BK840.out 0; have hfz41_1 := blk_frozen BK840.out 1; have hfz41_2 := blk_frozen BK840.out 2; have hfz41_3 := blk_frozen BK840.out 3; obtain ⟨Ao42, co42, eo42⟩ := Kd.R_slice HO839.out; subst eo42; have hcz43_0 : w37.cell? ⟨gb826, 0, none⟩ = some (.int .i64 t820) := B.bc BK826 0; have hcz43_1 : w37.cell? ⟨gb826, 1, none⟩ = some (.int .i64 t821) := B.bc BK826 1; have hcz43_2 : w37.cell? ⟨gb826, 2, none⟩ = some (.int .i64 t822) := B.bc BK826 2; have hcz43_3 : w37.cell? ⟨gb826, 3, none⟩ = some (.slice Ao28 t823.length co28) := B.bc BK826 3; have hfz43_0 := blk_frozen BK826.out 0; have hfz43_1 := blk_frozen BK826.out 1; have hfz43_2 := blk_frozen BK826.out 2; have hfz43_3 := blk_frozen BK826.out 3) | ((with_reducible refine gate_callee (f := 16) rfl ?_); refine goesL_ (some 25) rfl rfl Try.func16 (by kernel_rfl) rfl #[.agg #[.int .i64 t834, .int .i64 t835, .int .i64 t836, .slice Ao42 t837.length co42], .agg #[.int .i64 t820, .int .i64 t821, .int .i64 t822, .slice Ao28 t823.length co28]] rfl B.am ?_; (with_reducible refine (laws_eqImage.calls k t834 t835 t836 _ _ t837 t820 t821 t822 _ _ t823 true _ ?side1 ?side2 ?side3 ?side4 A11.out).mono ?_); (case side1 => refine (Kd.R_reads' (e := 3) (base := w.heap.size) (ok := fun k_ => (((True ∧ some k_ ≠ (.slice Ao23 t817.length co23 : Value).ownBlock) ∧ some k_ ≠ (.slice Ao28 t823.length co28 : Value).ownBlock) ∧ some k_ ≠ (.slice Ao35 t830.length co35 : Value).ownBlock)) (n := t837.length) (c := co42) ?_).2.2; exact (B.kr0 (B.rs4 HO839 BK840))); (case side2 => exact (Kd.R_reads' HO839.out).2.1); (case side3 => refine (Kd.R_reads' (e := 3) (base := w.heap.size) (ok := fun k_ => (((True ∧ some k_ ≠ (.slice Ao23 t817.length co23 : Value).ownBlock) ∧ some k_ ≠ (.slice Ao35 t830.length co35 : Value).ownBlock) ∧ some k_ ≠ (.slice Ao42 t837.length co42 : Value).ownBlock)) (n := t823.length) (c := co28) ?_).2.2; exact (B.kr0 (B.rs4 HO825 BK840))); (case side4 => exact (Kd.R_reads' HO825.out).2.1); rintro e w44 ⟨rfl, hb⟩; refine ⟨_, rfl, ?_⟩; have n0_ := Aside0.mk (Kd.R_below (B.kr0 (B.rs4 HO819 BK840)) hb); have n1_ := Aside0.mk (Kd.R_below (B.kr0 (B.rs4 HO825 BK840)) hb); have n2_ := Aside0.mk (Kd.R_below (B.kr0 (B.rs4 HO832 BK840)) hb); have n3_ := Aside0.mk (Kd.R_below (B.kr0 (B.rs4 HO839 BK840)) hb); have n4_ := Aside0.mk (blk_below (B.kb0 (B.bf4 BK812 NB812_840)) hb); have n5_ := Aside0.mk (blk_below (B.kb0 (B.bf4 BK826 NB826_840)) hb); have n6_ := Aside0.mk (blk_below (B.kb0 (B.bf4 BK833 NB833_840)) hb); have n7_ := Aside0.mk (blk_below (g := gb840) (o := .cells #[.int .i64 t834, .int .i64 t835, .int .i64 t836, .slice Ao42 t837.length co42] 26 (0, 0)) (B.kb0 (B.bp4 BK840)) hb); have n8_ := Aside0.mk (below_step (B.bl HB) hb); clear HO819 HO825 HO832 HO839 BK812 BK826 BK833 BK840 HB; have HO819 := n0_; have HO825 := n1_; have HO832 := n2_; have HO839 := n3_; have BK812 := n4_; have BK826 := n5_; have BK833 := n6_; have BK840 := n7_; have HB := n8_; clear n0_ n1_ n2_ n3_ n4_ n5_ n6_ n7_ n8_; (try clear hb); (try clear hb2); (try clear hk); (try clear hi)))
      have n0_ := Aside0.mk (Kd.R_drew HO819.out)
      have n1_ := Aside0.mk (Kd.R_drew HO825.out)
      have n2_ := Aside0.mk (Kd.R_drew HO832.out)
      have n3_ := Aside0.mk (Kd.R_drew HO839.out)
      have n4_ := Aside0.mk (blk_drew BK812.out)
      have n5_ := Aside0.mk (blk_drew BK826.out)
      have n6_ := Aside0.mk (blk_drew BK833.out)
      have n7_ := Aside0.mk (blk_drew BK840.out)
      have n8_ := Aside0.mk (below_drew1 HB.out)
      clear HO819 HO825 HO832 HO839 BK812 BK826 BK833 BK840 HB
      have HO819 := n0_
      have HO825 := n1_
      have HO832 := n2_
      have HO839 := n3_
      have BK812 := n4_
      have BK826 := n5_
      have BK833 := n6_
      have BK840 := n7_
      have HB := n8_
      clear n0_ n1_ n2_ n3_ n4_ n5_ n6_ n7_ n8_
      refine start_ (n := 5) (S := fun w' => w'.cell? ⟨gb833, 0, none⟩ = some (.int .i64 t827) ∧ w'.cell? ⟨gb833, 1, none⟩ = some (.int .i64 t828) ∧ w'.cell? ⟨gb833, 2, none⟩ = some (.int .i64 t829) ∧ w'.cell? ⟨gb833, 3, none⟩ = some (.slice Ao35 t830.length co35) ∧ w'.cell? ⟨gb812, 0, none⟩ = some (.int .i64 a0_0) ∧ w'.cell? ⟨gb812, 1, none⟩ = some (.int .i64 a0_1) ∧ w'.cell? ⟨gb812, 2, none⟩ = some (.int .i64 a0_2) ∧ w'.cell? ⟨gb812, 3, none⟩ = some (.slice A0_3 l0_3.length c0_3)) (ds := []) #[false, false, false, false, false] (by kernel_rfl) rfl rfl ⟨B.bc BK833 0, B.bc BK833 1, B.bc BK833 2, B.bc BK833 3, B.bc BK812 0, B.bc BK812 1, B.bc BK812 2, B.bc BK812 3⟩ (fun hHeld => ?_)
      generalize w44.drew = w45 at HO819 HO825 HO832 HO839 BK812 BK826 BK833 BK840 HB hHeld ⊢
      refine take_ (i := 0) (N := some 27) (v := ?_) (a' := ?_) #[true, false, false, false, false] rfl rfl (by kernel_rfl) (fun _ _ _ h => h) (Or.inl ⟨by rfl, ?_⟩) hHeld ?_ ?_
      rotate_left
      · rintro w' ⟨s0, s1, s2, s3, s4, s5, s6, s7⟩
        go_simp
        with_reducible rfl
      rotate_left
      · simp only [Act.put, List.setIfInBounds_toArray, List.set_cons_zero, List.set_cons_succ, i64_w, i32_w]
        rfl
      refine take_ (i := 1) (N := some 28) (v := ?_) (a' := ?_) #[true, true, false, false, false] rfl rfl (by kernel_rfl) (fun _ _ _ h => h) (Or.inl ⟨by rfl, ?_⟩) hHeld ?_ ?_
      rotate_left
      · rintro w' ⟨s0, s1, s2, s3, s4, s5, s6, s7⟩
        go_simp
        with_reducible rfl
      rotate_left
      · simp only [Act.put, List.setIfInBounds_toArray, List.set_cons_zero, List.set_cons_succ, i64_w, i32_w]
        rfl
      refine one_ (i := 2) (N := some 29) #[true, true, true, false, false] rfl rfl (by kernel_rfl) (by decide) (fun K hK => ?_)
      refine goes_ Try.func14 (by kernel_rfl) rfl #[.agg #[.int .i64 a0_0, .int .i64 a0_1, .int .i64 a0_2, .slice A0_3 l0_3.length c0_3]] (by rfl) rfl rfl B.am ?_
      with_reducible refine (laws_toImage.calls k a0_0 a0_1 a0_2 _ _ l0_3 t842 t843 t844 t845 _ ?side1 ?side2 A13.out).mono ?_
      (case side1 => exact B.kc (Kd.C_below HR0_3.out HB.out))
      (case side2 => exact HC0_3.out)
      rintro e w46 ⟨v846, rfl, ho0, hb⟩
      refine ⟨_, rfl, ?_⟩
      have n0_ := Aside0.mk (Kd.R_elder' (B.kr HO819) (Kd.R_base ho0) hb)
      have n1_ := Aside0.mk (Kd.R_elder' (B.kr HO825) (Kd.R_base ho0) hb)
      have n2_ := Aside0.mk (Kd.R_elder' (B.kr HO832) (Kd.R_base ho0) hb)
      have n3_ := Aside0.mk (Kd.R_elder' (B.kr HO839) (Kd.R_base ho0) hb)
      have n4_ := Aside0.mk (Kd.R_lower (Kd.R_new' (Kd.R_new' (Kd.R_new' (Kd.R_new' ho0 (Kd.R_lt (B.kr HO819))) (Kd.R_lt (B.kr HO825))) (Kd.R_lt (B.kr HO832))) (Kd.R_lt (B.kr HO839))) (below_size (B.bl HB)))
      have n5_ := Aside0.mk (blk_below (B.kb BK812) hb)
      have n6_ := Aside0.mk (blk_below (B.kb BK826) hb)
      have n7_ := Aside0.mk (blk_below (B.kb BK833) hb)
      have n8_ := Aside0.mk (blk_below (B.kb BK840) hb)
      have n9_ := Aside0.mk (below_step (B.bl HB) hb)
      clear HO819 HO825 HO832 HO839 BK812 BK826 BK833 BK840 HB
      have HO819 := n0_
      have HO825 := n1_
      have HO832 := n2_
      have HO839 := n3_
      have HO847 := n4_
      have BK812 := n5_
      have BK826 := n6_
      have BK833 := n7_
      have BK840 := n8_
      have HB := n9_
      clear n0_ n1_ n2_ n3_ n4_ n5_ n6_ n7_ n8_ n9_
      (try clear hb)
      (try clear hb2)
      (try clear hk)
      (try clear hi)
      (try clear ho0)
      obtain ⟨Ao47, co47, eo47⟩ := Kd.R_slice HO847.out
      (first | subst eo47 | (injection eo47 with f1_ f2_ f3_; have f4_ := f1_.symm; have f5_ := f3_.symm; clear f1_ f2_ f3_; subst f4_; subst f5_))
      refine hK.out _ _ ⟨B.bc BK833 0, B.bc BK833 1, B.bc BK833 2, B.bc BK833 3, B.bc BK812 0, B.bc BK812 1, B.bc BK812 2, B.bc BK812 3⟩ (fun hHeld => ?_)
      clear hK K
      refine norm_ (a' := ?_) ?_ ?_
      rotate_left
      · show Act.put _ (some 29) _ = _
        simp only [Act.put, List.setIfInBounds_toArray, List.set_cons_zero, List.set_cons_succ, i64_w, i32_w]
        rfl
      refine one_ (i := 3) (N := some 30) #[true, true, true, true, false] rfl rfl (by kernel_rfl) (by decide) (fun K hK => ?_)
      refine goes_ Try.func16 (by kernel_rfl) rfl #[.agg #[.int .i64 t827, .int .i64 t828, .int .i64 t829, .slice Ao35 t830.length co35], .agg #[.int .i64 t842, .int .i64 t843, .int .i64 t844, .slice Ao47 t845.length co47]] (by rfl) rfl rfl B.am ?_
      with_reducible refine (laws_eqImage.calls k t827 t828 t829 _ _ t830 t842 t843 t844 _ _ t845 true _ ?side1 ?side2 ?side3 ?side4 A14.out).mono ?_
      (case side1 => exact B.kc ((Kd.R_reads' HO832.out).2.2))
      (case side2 => exact (Kd.R_reads' HO832.out).2.1)
      (case side3 => exact B.kc ((Kd.R_reads' HO847.out).2.2))
      (case side4 => exact (Kd.R_reads' HO847.out).2.1)
      rintro e w48 ⟨rfl, hb⟩
      refine ⟨_, rfl, ?_⟩
      have n0_ := Aside0.mk (Kd.R_below (B.kr HO819) hb)
      have n1_ := Aside0.mk (Kd.R_below (B.kr HO825) hb)
      have n2_ := Aside0.mk (Kd.R_below (B.kr HO832) hb)
      have n3_ := Aside0.mk (Kd.R_below (B.kr HO839) hb)
      have n4_ := Aside0.mk (Kd.R_below (B.kr HO847) hb)
      have n5_ := Aside0.mk (blk_below (B.kb BK812) hb)
      have n6_ := Aside0.mk (blk_below (B.kb BK826) hb)
      have n7_ := Aside0.mk (blk_below (B.kb BK833) hb)
      have n8_ := Aside0.mk (blk_below (B.kb BK840) hb)
      have n9_ := Aside0.mk (below_step (B.bl HB) hb)
      clear HO819 HO825 HO832 HO839 HO847 BK812 BK826 BK833 BK840 HB
      have HO819 := n0_
      have HO825 := n1_
      have HO832 := n2_
      have HO839 := n3_
      have HO847 := n4_
      have BK812 := n5_
      have BK826 := n6_
      have BK833 := n7_
      have BK840 := n8_
      have HB := n9_
      clear n0_ n1_ n2_ n3_ n4_ n5_ n6_ n7_ n8_ n9_
      (try clear hb)
      (try clear hb2)
      (try clear hk)
      (try clear hi)
      refine hK.out _ _ ⟨B.bc BK833 0, B.bc BK833 1, B.bc BK833 2, B.bc BK833 3, B.bc BK812 0, B.bc BK812 1, B.bc BK812 2, B.bc BK812 3⟩ (fun hHeld => ?_)
      clear hK K
      refine norm_ (a' := ?_) ?_ ?_
      rotate_left
      · show Act.put _ (some 30) _ = _
        simp only [Act.put, List.setIfInBounds_toArray, List.set_cons_zero, List.set_cons_succ, i64_w, i32_w]
        rfl
      refine pure_ (i := 4) (N := some 31) (v := ?_) (a' := ?_) #[true, true, true, true, true] rfl rfl (by kernel_rfl) (fun _ _ _ h => h) (Or.inl ⟨by rfl, ?_⟩) ?_ ?_
      rotate_left
      · intro w'
        go_simp
        with_reducible rfl
      rotate_left
      · simp only [Act.put, List.setIfInBounds_toArray, List.set_cons_zero, List.set_cons_succ, i64_w, i32_w]
        rfl
      refine done_ (by kernel_rfl) ?_
      have hcz49_0 : w48.cell? ⟨gb833, 0, none⟩ = some (.int .i64 t827) := B.bc BK833 0
      have hcz49_1 : w48.cell? ⟨gb833, 1, none⟩ = some (.int .i64 t828) := B.bc BK833 1
      have hcz49_2 : w48.cell? ⟨gb833, 2, none⟩ = some (.int .i64 t829) := B.bc BK833 2
      have hcz49_3 : w48.cell? ⟨gb833, 3, none⟩ = some (.slice Ao35 t830.length co35) := B.bc BK833 3
      have hfz49_0 := blk_frozen BK833.out 0
      have hfz49_1 := blk_frozen BK833.out 1
      have hfz49_2 := blk_frozen BK833.out 2
      have hfz49_3 := blk_frozen BK833.out 3
      go_upto_region 14 with (first | ((with_reducible refine gate_callee (f := 17) rfl ?_); refine goesL_ (some 34) rfl rfl Try.func17 (by kernel_rfl) rfl #[.agg #[.int .i64 t827, .int .i64 t828, .int .i64 t829, .slice Ao35 t830.length co35], .int .i64 1] rfl B.am ?_; (with_reducible refine (laws_markImage.calls k t827 t828 t829 (fun k_ => some k_ = (.slice Ao35 t830.length co35 : Value).ownBlock) (.slice Ao35 t830.length co35) t830 1 t849 t850 w _ ?side1 ?side2 A16.out).mono ?_); (case side1 => exact B.bl HB); (case side2 => exact Kd.R_tight rfl HO832.out); rintro e w50 ⟨rfl, hy0, hb, hkp⟩; refine ⟨_, rfl, ?_⟩; have n0_ := Aside0.mk (blk_kept (B.kb BK812) hkp (fun hs_ => (fun e_ => (Kd.R_ne HO832.out BK812.out (by decide)) e_) hs_)); have n1_ := Aside0.mk (Kd.R_mono (ok' := fun k_ => some k_ ≠ (.slice Ao28 t823.length co28 : Value).ownBlock ∧ some k_ ≠ (.slice Ao35 t830.length co35 : Value).ownBlock ∧ some k_ ≠ (.slice Ao42 t837.length co42 : Value).ownBlock ∧ some k_ ≠ (.slice Ao47 t845.length co47 : Value).ownBlock) (Kd.R_keptB (HO819.out) hkp (fun k_ hk_ hs_ => (hk_.1.1.2) hs_)) (fun k_ hk_ => ⟨hk_.1.1.1.1.2, hk_.1.1.1.2, hk_.1.1.2, hk_.1.2⟩)); have n2_ := Aside0.mk (Kd.R_mono (ok' := fun k_ => some k_ ≠ (.slice Ao23 t817.length co23 : Value).ownBlock ∧ some k_ ≠ (.slice Ao35 t830.length co35 : Value).ownBlock ∧ some k_ ≠ (.slice Ao42 t837.length co42 : Value).ownBlock ∧ some k_ ≠ (.slice Ao47 t845.length co47 : Value).ownBlock) (Kd.R_keptB (HO825.out) hkp (fun k_ hk_ hs_ => (hk_.1.1.2) hs_)) (fun k_ hk_ => ⟨hk_.1.1.1.1.2, hk_.1.1.1.2, hk_.1.1.2, hk_.1.2⟩)); have n3_ := Aside0.mk (blk_kept (B.kb BK826) hkp (fun hs_ => (fun e_ => (Kd.R_ne HO832.out BK826.out (by decide)) e_) hs_)); have n4_ := Aside0.mk (Kd.R_reok rfl hy0 (fun k_ e_ => HO832.out.1 k_ e_)); have n5_ := Aside0.mk (blk_kept (B.kb BK833) hkp (fun hs_ => (fun e_ => (Kd.R_ne HO832.out BK833.out (by decide)) e_) hs_)); have n6_ := Aside0.mk (Kd.R_mono (ok' := fun k_ => some k_ ≠ (.slice Ao23 t817.length co23 : Value).ownBlock ∧ some k_ ≠ (.slice Ao28 t823.length co28 : Value).ownBlock ∧ some k_ ≠ (.slice Ao35 t830.length co35 : Value).ownBlock ∧ some k_ ≠ (.slice Ao47 t845.length co47 : Value).ownBlock) (Kd.R_keptB (HO839.out) hkp (fun k_ hk_ hs_ => (hk_.1.2) hs_)) (fun k_ hk_ => ⟨hk_.1.1.1.1.2, hk_.1.1.1.2, hk_.1.1.2, hk_.1.2⟩)); have n7_ := Aside0.mk (blk_kept (B.kb BK840) hkp (fun hs_ => (fun e_ => (Kd.R_ne HO832.out BK840.out (by decide)) e_) hs_)); have n8_ := Aside0.mk (Kd.R_mono (ok' := fun k_ => some k_ ≠ (.slice Ao23 t817.length co23 : Value).ownBlock ∧ some k_ ≠ (.slice Ao28 t823.length co28 : Value).ownBlock ∧ some k_ ≠ (.slice Ao35 t830.length co35 : Value).ownBlock ∧ some k_ ≠ (.slice Ao42 t837.length co42 : Value).ownBlock) (Kd.R_keptB (HO847.out) hkp (fun k_ hk_ hs_ => (hk_.1.2) hs_)) (fun k_ hk_ => ⟨hk_.1.1.1.1.2, hk_.1.1.1.2, hk_.1.1.2, hk_.1.2⟩)); have n9_ := Aside0.mk (hb); clear BK812 HO819 HO825 BK826 HO832 BK833 HO839 BK840 HO847 HB; have BK812 := n0_; have HO819 := n1_; have HO825 := n2_; have BK826 := n3_; have HO832 := n4_; have BK833 := n5_; have HO839 := n6_; have BK840 := n7_; have HO847 := n8_; have HB := n9_; clear n0_ n1_ n2_ n3_ n4_ n5_ n6_ n7_ n8_ n9_; (try clear hb); (try clear hkp); (try clear hy0)))
      (try simp only [Act.put, List.setIfInBounds_toArray, List.set_cons_zero, List.set_cons_succ])
      go_cut [42] (fun v42 wc => ∃ (kq : Nat) (x42_16 : Bool), v42 = .bool x42_16 ∧ Aside0 (laws_FnExactMirrorImage.j0 kq x42_16 a0_0 a0_1 a0_2 l0_3 t820 t821 t822 t823 t834 t835 t836 t837 = some r) ∧ Aside0 (kq ≤ k) ∧ Aside0 (Kd.R (Kd.int .i64) 3 wc w.heap.size (fun k_ => some k_ ≠ ((.slice Ao35 t830.length co35) : Value).ownBlock ∧ some k_ ≠ ((.slice Ao42 t837.length co42) : Value).ownBlock) (.slice Ao28 t823.length co28) t823) ∧ Aside0 (Kd.R (Kd.int .i64) 3 wc w.heap.size (fun k_ => some k_ ≠ ((.slice Ao28 t823.length co28) : Value).ownBlock ∧ some k_ ≠ ((.slice Ao42 t837.length co42) : Value).ownBlock) (.slice Ao35 t830.length co35) t850) ∧ Aside0 (Kd.R (Kd.int .i64) 3 wc w.heap.size (fun k_ => some k_ ≠ ((.slice Ao28 t823.length co28) : Value).ownBlock ∧ some k_ ≠ ((.slice Ao35 t830.length co35) : Value).ownBlock) (.slice Ao42 t837.length co42) t837) ∧ Aside0 (wc.heap[gb812]? = some (.cells #[.int .i64 a0_0, .int .i64 a0_1, .int .i64 a0_2, (.slice A0_3 l0_3.length c0_3)] 24 (0, 0))) ∧ Aside0 (wc.heap[gb826]? = some (.cells #[.int .i64 t820, .int .i64 t821, .int .i64 t822, (.slice Ao28 t823.length co28)] 26 (0, 0))) ∧ Aside0 (wc.heap[gb833]? = some (.cells #[.int .i64 t827, .int .i64 t828, .int .i64 t829, (.slice Ao35 t830.length co35)] 26 (0, 0))) ∧ Aside0 (wc.heap[gb840]? = some (.cells #[.int .i64 t834, .int .i64 t835, .int .i64 t836, (.slice Ao42 t837.length co42)] 26 (0, 0))) ∧ Aside0 (Below w.heap.size w wc))
      case first =>
        have H := HC17.out
        clear HC17
        by_cases c51 : t849 < 0
        · rw [if_pos c51] at H
          have c51b0 : decide (t849 < 0) = true := decide_eq_true c51
          clear c51
          (first | rw [c51b0] | (simp only [i64_w, i32_w]; rw [c51b0]) | skip)
          exact absurd ht_.out (by revert H; cases k <;> intro H <;> simp [laws_FnExactMirrorImage.j0] at H <;> (first | (subst H; decide) | simp [← H] | simp [H]))
        rw [if_neg c51] at H
        have c51b0 : decide (t849 < 0) = false := decide_eq_false c51
        clear c51
        (first | rw [c51b0] | (simp only [i64_w, i32_w]; rw [c51b0]) | skip)
        replace H := Option.bind_eq_some_iff.mp H
        obtain ⟨t851, A520, H⟩ := H
        replace H : (laws_FnExactMirrorImage.j0 k (!t851) a0_0 a0_1 a0_2 l0_3 t820 t821 t822 t823 t834 t835 t836 t837) = some r := H
        have A52 := Aside0.mk A520
        clear A520
        have H' := Aside0.mk H
        clear H
        have hnb53 := NB840_812.out
        have hnc53 := NB812_840.out
        have hnb54 := NB840_826.out
        have hnc54 := NB826_840.out
        have hnb55 := NB840_833.out
        have hnc55 := NB833_840.out
        have hcz56_0 : w50.cell? ⟨gb840, 0, none⟩ = some (.int .i64 t834) := B.bc BK840 0
        have hcz56_1 : w50.cell? ⟨gb840, 1, none⟩ = some (.int .i64 t835) := B.bc BK840 1
        have hcz56_2 : w50.cell? ⟨gb840, 2, none⟩ = some (.int .i64 t836) := B.bc BK840 2
        have hcz56_3 : w50.cell? ⟨gb840, 3, none⟩ = some (.slice Ao42 t837.length co42) := B.bc BK840 3
        have hfz56_0 := blk_frozen BK840.out 0
        have hfz56_1 := blk_frozen BK840.out 1
        have hfz56_2 := blk_frozen BK840.out 2
        have hfz56_3 := blk_frozen BK840.out 3
        have hnb57 := NB826_812.out
        have hnc57 := NB812_826.out
        have hnb58 := NB826_833.out
        have hnc58 := NB833_826.out
        have hcz59_0 : w50.cell? ⟨gb826, 0, none⟩ = some (.int .i64 t820) := B.bc BK826 0
        have hcz59_1 : w50.cell? ⟨gb826, 1, none⟩ = some (.int .i64 t821) := B.bc BK826 1
        have hcz59_2 : w50.cell? ⟨gb826, 2, none⟩ = some (.int .i64 t822) := B.bc BK826 2
        have hcz59_3 : w50.cell? ⟨gb826, 3, none⟩ = some (.slice Ao28 t823.length co28) := B.bc BK826 3
        have hfz59_0 := blk_frozen BK826.out 0
        have hfz59_1 := blk_frozen BK826.out 1
        have hfz59_2 := blk_frozen BK826.out 2
        have hfz59_3 := blk_frozen BK826.out 3
        go_wp2_with (first | (go_at_call 16; (with_reducible refine (laws_eqImage.calls k t834 t835 t836 _ _ t837 t820 t821 t822 _ _ t823 t851 _ ?side1 ?side2 ?side3 ?side4 A52.out).mono ?_); (case side1 => exact B.kc ((Kd.R_reads' HO839.out).2.2)); (case side2 => exact (Kd.R_reads' HO839.out).2.1); (case side3 => exact B.kc ((Kd.R_reads' HO825.out).2.2)); (case side4 => exact (Kd.R_reads' HO825.out).2.1); rintro e w60 ⟨rfl, hb⟩; have n0_ := Aside0.mk (Kd.R_below (B.kr HO819) hb); have n1_ := Aside0.mk (Kd.R_below (B.kr HO825) hb); have n2_ := Aside0.mk (Kd.R_below (B.kr HO832) hb); have n3_ := Aside0.mk (Kd.R_below (B.kr HO839) hb); have n4_ := Aside0.mk (Kd.R_below (B.kr HO847) hb); have n5_ := Aside0.mk (blk_below (B.kb BK812) hb); have n6_ := Aside0.mk (blk_below (B.kb BK826) hb); have n7_ := Aside0.mk (blk_below (B.kb BK833) hb); have n8_ := Aside0.mk (blk_below (B.kb BK840) hb); have n9_ := Aside0.mk (below_step (B.bl HB) hb); clear HO819 HO825 HO832 HO839 HO847 BK812 BK826 BK833 BK840 HB; have HO819 := n0_; have HO825 := n1_; have HO832 := n2_; have HO839 := n3_; have HO847 := n4_; have BK812 := n5_; have BK826 := n6_; have BK833 := n7_; have BK840 := n8_; have HB := n9_; clear n0_ n1_ n2_ n3_ n4_ n5_ n6_ n7_ n8_ n9_; (try clear hb); (try clear hb2); (try clear hk); (try clear hi)))
        go_meet
        case rel => exact ⟨_, (!t851), (by first | rfl | (simp; done) | (simp [*]; done)), H', ⟨by first | omega | exact Nat.le_refl _⟩, ⟨B.kr0 (Kd.R_mono HO825.out (fun _ hk => ⟨hk.2.1, hk.2.2.1⟩))⟩, ⟨B.kr0 (Kd.R_mono HO832.out (fun _ hk => ⟨hk.1.1.2, hk.1.2⟩))⟩, ⟨B.kr0 (Kd.R_mono HO839.out (fun _ hk => ⟨hk.2.1, hk.2.2.1⟩))⟩, ⟨B.kb BK812⟩, ⟨B.kb BK826⟩, ⟨B.kb BK833⟩, ⟨B.kb BK840⟩, ⟨B.bl HB⟩⟩
      case rest =>
        clear HC17
        try clear c1
        try clear c2
        try clear p2
        try clear c3
        try clear c3b0
        try clear c4
        try clear c5
        try clear c10
        try clear c12
        try clear c14
        try clear c15
        try clear c16
        try clear c17
        try clear c21
        try clear c26
        try clear c32
        try clear c33
        try clear c38
        try clear c39
        try clear c40
        try clear c51
        try clear c51b0
        try clear c53
        try clear c54
        try clear c55
        try clear c57
        try clear c58
        try clear hcz19_0
        try clear hcz19_1
        try clear hcz19_2
        try clear hcz19_3
        try clear hcz21_0
        try clear hcz21_1
        try clear hcz21_2
        try clear hcz21_3
        try clear hcz27_0
        try clear hcz27_1
        try clear hcz27_2
        try clear hcz27_3
        try clear hcz29_0
        try clear hcz29_1
        try clear hcz29_2
        try clear hcz29_3
        try clear hcz34_0
        try clear hcz34_1
        try clear hcz34_2
        try clear hcz34_3
        try clear hcz41_0
        try clear hcz41_1
        try clear hcz41_2
        try clear hcz41_3
        try clear hcz43_0
        try clear hcz43_1
        try clear hcz43_2
        try clear hcz43_3
        try clear hcz49_0
        try clear hcz49_1
        try clear hcz49_2
        try clear hcz49_3
        try clear hcz56_0
        try clear hcz56_1
        try clear hcz56_2
        try clear hcz56_3
        try clear hcz59_0
        try clear hcz59_1
        try clear hcz59_2
        try clear hcz59_3
        try clear hcz5_0
        try clear hcz5_1
        try clear hcz5_2
        try clear hcz5_3
        try clear hfz19_0
        try clear hfz19_1
        try clear hfz19_2
        try clear hfz19_3
        try clear hfz21_0
        try clear hfz21_1
        try clear hfz21_2
        try clear hfz21_3
        try clear hfz27_0
        try clear hfz27_1
        try clear hfz27_2
        try clear hfz27_3
        try clear hfz29_0
        try clear hfz29_1
        try clear hfz29_2
        try clear hfz29_3
        try clear hfz34_0
        try clear hfz34_1
        try clear hfz34_2
        try clear hfz34_3
        try clear hfz41_0
        try clear hfz41_1
        try clear hfz41_2
        try clear hfz41_3
        try clear hfz43_0
        try clear hfz43_1
        try clear hfz43_2
        try clear hfz43_3
        try clear hfz49_0
        try clear hfz49_1
        try clear hfz49_2
        try clear hfz49_3
        try clear hfz56_0
        try clear hfz56_1
        try clear hfz56_2
        try clear hfz56_3
        try clear hfz59_0
        try clear hfz59_1
        try clear hfz59_2
        try clear hfz59_3
        try clear hfz5_0
        try clear hfz5_1
        try clear hfz5_2
        try clear hfz5_3
        obtain ⟨kq, x42_16, rfl, HA, HJ16, HO_827003, HO_834003, HO_841003, BK812, BK826, BK833, BK840, HB⟩ := hcut
        have hl834003_16 := (Kd.R_reads' HO_834003.out).1
        rw [hl834003_16] at HO_834003
        (try simp only [hl834003_16])
        (try simp only [hl834003_16] at BK812)
        (try simp only [hl834003_16] at BK826)
        (try simp only [hl834003_16] at BK833)
        (try simp only [hl834003_16] at BK840)
        (try simp only [hl834003_16] at HO_827003)
        (try simp only [hl834003_16] at HO_841003)
        cases kq with
        | zero => exact absurd HA.out (by simp [laws_FnExactMirrorImage.j0])
        | succ kj16 =>
          have H := HA.out
          clear HA
          simp only [laws_FnExactMirrorImage.j0] at H
          by_cases c61 : x42_16 = true
          · subst c61
            have H1 : (some false) = some r := by rw [if_pos rfl] at H; exact H
            clear H
            have H := H1
            clear H1
            obtain rfl := Option.some.inj H
            exact absurd ht_.out (by decide)
          replace c61 := Bool.eq_false_iff.mpr c61
          subst c61
          have H1 : ((laws_markImage.f kj16 t834 t835 t836 t837 1).bind fun bt852 => ((laws_heldImage.f kj16 t834 t835 t836 bt852.2 1).bind fun t854 => (if t854 < 0 then (some false) else (if t854 = bt852.1 then ((laws_toImage.f kj16 a0_0 a0_1 a0_2 l0_3).bind fun bt855 => ((impl_MirrorImage.f bt855.1 bt855.2.1 bt855.2.2.1 bt855.2.2.2).bind fun bt861 => ((laws_eqImage.f kj16 bt861.1 bt861.2.1 bt861.2.2.1 bt861.2.2.2 t820 t821 t822 t823).bind fun t868 => (if t868 = true then ((laws_heldImage.f kj16 t834 t835 t836 bt852.2 1).bind fun t869 => (if t869 < 0 then (some false) else (if t869 = bt852.1 then (some true) else (some false)))) else (some false))))) else (some false))))) = some r := by rw [if_neg (show ¬ (false = true) by decide)] at H; exact H
          clear H
          have H := H1
          clear H1
          replace H := Option.bind_eq_some_iff.mp H
          obtain ⟨⟨t852, t853⟩, A620, H⟩ := H
          replace H : ((laws_heldImage.f kj16 t834 t835 t836 t853 1).bind fun t854 => (if t854 < 0 then (some false) else (if t854 = t852 then ((laws_toImage.f kj16 a0_0 a0_1 a0_2 l0_3).bind fun bt855 => ((impl_MirrorImage.f bt855.1 bt855.2.1 bt855.2.2.1 bt855.2.2.2).bind fun bt861 => ((laws_eqImage.f kj16 bt861.1 bt861.2.1 bt861.2.2.1 bt861.2.2.2 t820 t821 t822 t823).bind fun t868 => (if t868 = true then ((laws_heldImage.f kj16 t834 t835 t836 t853 1).bind fun t869 => (if t869 < 0 then (some false) else (if t869 = t852 then (some true) else (some false)))) else (some false))))) else (some false)))) = some r := H
          have A62 := Aside0.mk A620
          clear A620
          replace H := Option.bind_eq_some_iff.mp H
          obtain ⟨t854, A630, H⟩ := H
          replace H : (if t854 < 0 then (some false) else (if t854 = t852 then ((laws_toImage.f kj16 a0_0 a0_1 a0_2 l0_3).bind fun bt855 => ((impl_MirrorImage.f bt855.1 bt855.2.1 bt855.2.2.1 bt855.2.2.2).bind fun bt861 => ((laws_eqImage.f kj16 bt861.1 bt861.2.1 bt861.2.2.1 bt861.2.2.2 t820 t821 t822 t823).bind fun t868 => (if t868 = true then ((laws_heldImage.f kj16 t834 t835 t836 t853 1).bind fun t869 => (if t869 < 0 then (some false) else (if t869 = t852 then (some true) else (some false)))) else (some false))))) else (some false))) = some r := H
          have A63 := Aside0.mk A630
          clear A630
          by_cases c64 : t854 < 0
          · rw [if_pos c64] at H
            have c64b0 : decide (t854 < 0) = true := decide_eq_true c64
            clear c64
            obtain rfl := Option.some.inj H
            exact absurd ht_.out (by decide)
          rw [if_neg c64] at H
          have c64b0 : decide (t854 < 0) = false := decide_eq_false c64
          clear c64
          by_cases c65 : t854 = t852
          · rw [if_pos c65] at H
            have c65b0 : (t854 == t852) = true := beq_iff_eq.mpr c65
            have c65b1 : (t854 != t852) = false := bne_eq_false_iff_eq.mpr c65
            clear c65
            replace H := Option.bind_eq_some_iff.mp H
            obtain ⟨⟨t855, t856, t857, t858⟩, A660, H⟩ := H
            replace H : ((impl_MirrorImage.f t855 t856 t857 t858).bind fun bt861 => ((laws_eqImage.f kj16 bt861.1 bt861.2.1 bt861.2.2.1 bt861.2.2.2 t820 t821 t822 t823).bind fun t868 => (if t868 = true then ((laws_heldImage.f kj16 t834 t835 t836 t853 1).bind fun t869 => (if t869 < 0 then (some false) else (if t869 = t852 then (some true) else (some false)))) else (some false)))) = some r := H
            have A66 := Aside0.mk A660
            clear A660
            replace H := Option.bind_eq_some_iff.mp H
            obtain ⟨⟨t861, t862, t863, t864⟩, A670, H⟩ := H
            replace H : ((laws_eqImage.f kj16 t861 t862 t863 t864 t820 t821 t822 t823).bind fun t868 => (if t868 = true then ((laws_heldImage.f kj16 t834 t835 t836 t853 1).bind fun t869 => (if t869 < 0 then (some false) else (if t869 = t852 then (some true) else (some false)))) else (some false))) = some r := H
            have A67 := Aside0.mk A670
            clear A670
            replace H := Option.bind_eq_some_iff.mp H
            obtain ⟨t868, A680, H⟩ := H
            replace H : (if t868 = true then ((laws_heldImage.f kj16 t834 t835 t836 t853 1).bind fun t869 => (if t869 < 0 then (some false) else (if t869 = t852 then (some true) else (some false)))) else (some false)) = some r := H
            have A68 := Aside0.mk A680
            clear A680
            by_cases c69 : t868 = true
            · subst c69
              have H1 : ((laws_heldImage.f kj16 t834 t835 t836 t853 1).bind fun t869 => (if t869 < 0 then (some false) else (if t869 = t852 then (some true) else (some false)))) = some r := by rw [if_pos rfl] at H; exact H
              clear H
              have H := H1
              clear H1
              replace H := Option.bind_eq_some_iff.mp H
              obtain ⟨t869, A700, H⟩ := H
              replace H : (if t869 < 0 then (some false) else (if t869 = t852 then (some true) else (some false))) = some r := H
              have A70 := Aside0.mk A700
              clear A700
              by_cases c71 : t869 < 0
              · rw [if_pos c71] at H
                have c71b0 : decide (t869 < 0) = true := decide_eq_true c71
                clear c71
                obtain rfl := Option.some.inj H
                exact absurd ht_.out (by decide)
              rw [if_neg c71] at H
              have c71b0 : decide (t869 < 0) = false := decide_eq_false c71
              clear c71
              by_cases c72 : t869 = t852
              · rw [if_pos c72] at H
                have c72b0 : (t869 == t852) = true := beq_iff_eq.mpr c72
                have c72b1 : (t869 != t852) = false := bne_eq_false_iff_eq.mpr c72
                clear c72
                obtain rfl := Option.some.inj H
                simp only [Option.some.injEq, Prod.mk.injEq] at H
                obtain ⟨rfl⟩ := H
                have hnb73 := NB840_812.out
                have hnc73 := NB812_840.out
                have hnb74 := NB840_826.out
                have hnc74 := NB826_840.out
                have hnb75 := NB840_833.out
                have hnc75 := NB833_840.out
                have hcz76_0 : wc.cell? ⟨gb840, 0, none⟩ = some (.int .i64 t834) := B.bc BK840 0
                have hcz76_1 : wc.cell? ⟨gb840, 1, none⟩ = some (.int .i64 t835) := B.bc BK840 1
                have hcz76_2 : wc.cell? ⟨gb840, 2, none⟩ = some (.int .i64 t836) := B.bc BK840 2
                have hcz76_3 : wc.cell? ⟨gb840, 3, none⟩ = some (.slice Ao42 t837.length co42) := B.bc BK840 3
                have hfz76_0 := blk_frozen BK840.out 0
                have hfz76_1 := blk_frozen BK840.out 1
                have hfz76_2 := blk_frozen BK840.out 2
                have hfz76_3 := blk_frozen BK840.out 3
                go_wp2_with (first | ((with_reducible refine gate_callee (f := 17) rfl ?_); refine goesL_ (some 45) rfl rfl Try.func17 (by kernel_rfl) rfl #[.agg #[.int .i64 t834, .int .i64 t835, .int .i64 t836, .slice Ao42 t837.length co42], .int .i64 1] rfl B.am ?_; (with_reducible refine (laws_markImage.calls kj16 t834 t835 t836 (fun k_ => some k_ = (.slice Ao42 t837.length co42 : Value).ownBlock) (.slice Ao42 t837.length co42) t837 1 t852 t853 w _ ?side1 ?side2 A62.out).mono ?_); (case side1 => exact B.bl HB); (case side2 => exact Kd.R_tight rfl HO_841003.out); rintro e w77 ⟨rfl, hy0, hb, hkp⟩; refine ⟨_, rfl, ?_⟩; have n0_ := Aside0.mk (Kd.R_mono (ok' := fun k_ => some k_ ≠ (.slice Ao35 t850.length co35 : Value).ownBlock ∧ some k_ ≠ (.slice Ao42 t837.length co42 : Value).ownBlock) (Kd.R_keptB (HO_827003.out) hkp (fun k_ hk_ hs_ => (hk_.2) hs_)) (fun k_ hk_ => ⟨hk_.1.1, hk_.1.2⟩)); have n1_ := Aside0.mk (Kd.R_mono (ok' := fun k_ => some k_ ≠ (.slice Ao28 t823.length co28 : Value).ownBlock ∧ some k_ ≠ (.slice Ao42 t837.length co42 : Value).ownBlock) (Kd.R_keptB (HO_834003.out) hkp (fun k_ hk_ hs_ => (hk_.2) hs_)) (fun k_ hk_ => ⟨hk_.1.1, hk_.1.2⟩)); have n2_ := Aside0.mk (Kd.R_reok rfl hy0 (fun k_ e_ => HO_841003.out.1 k_ e_)); have n3_ := Aside0.mk (blk_kept (B.kb BK812) hkp (fun hs_ => (fun e_ => (Kd.R_ne HO_841003.out BK812.out (by decide)) e_) hs_)); have n4_ := Aside0.mk (blk_kept (B.kb BK826) hkp (fun hs_ => (fun e_ => (Kd.R_ne HO_841003.out BK826.out (by decide)) e_) hs_)); have n5_ := Aside0.mk (blk_kept (B.kb BK833) hkp (fun hs_ => (fun e_ => (Kd.R_ne HO_841003.out BK833.out (by decide)) e_) hs_)); have n6_ := Aside0.mk (blk_kept (B.kb BK840) hkp (fun hs_ => (fun e_ => (Kd.R_ne HO_841003.out BK840.out (by decide)) e_) hs_)); have n7_ := Aside0.mk (hb); clear HO_827003 HO_834003 HO_841003 BK812 BK826 BK833 BK840 HB; have HO_827003 := n0_; have HO_834003 := n1_; have HO_841003 := n2_; have BK812 := n3_; have BK826 := n4_; have BK833 := n5_; have BK840 := n6_; have HB := n7_; clear n0_ n1_ n2_ n3_ n4_ n5_ n6_ n7_; (try clear hb); (try clear hkp); (try clear hy0); have hcz78_0 : w77.cell? ⟨gb840, 0, none⟩ = some (.int .i64 t834) := B.bc BK840 0; have hcz78_1 : w77.cell? ⟨gb840, 1, none⟩ = some (.int .i64 t835) := B.bc BK840 1; have hcz78_2 : w77.cell? ⟨gb840, 2, none⟩ = some (.int .i64 t836) := B.bc BK840 2; have hcz78_3 : w77.cell? ⟨gb840, 3, none⟩ = some (.slice Ao42 t837.length co42) := B.bc BK840 3; have hfz78_0 := blk_frozen BK840.out 0; have hfz78_1 := blk_frozen BK840.out 1; have hfz78_2 := blk_frozen BK840.out 2; have hfz78_3 := blk_frozen BK840.out 3) | ((with_reducible refine gate_callee (f := 18) rfl ?_); refine goesL_ (some 48) rfl rfl Try.func18 (by kernel_rfl) rfl #[.agg #[.int .i64 t834, .int .i64 t835, .int .i64 t836, .slice Ao42 t853.length co42], .int .i64 1] rfl (by (try simp only [List.map_toArray, List.map_cons, List.map_nil]); first | done | (rw [show t853.length = t837.length from (Kd.R_reads' HO_841003.out).1.symm] <;> rfl) | rfl | (simp only [List.length_drop, List.length_take]; rfl)) ?_; (with_reducible refine (laws_heldImage.calls kj16 t834 t835 t836 _ _ t853 1 t854 _ ?side1 ?side2 A63.out).mono ?_); (case side1 => exact B.kc ((Kd.R_reads' HO_841003.out).2.2)); (case side2 => rw [show t853.length = t837.length from (Kd.R_reads' HO_841003.out).1.symm]; exact (Kd.R_reads' HO_841003.out).2.1); rintro e w79 ⟨rfl, hb⟩; refine ⟨_, rfl, ?_⟩; have n0_ := Aside0.mk (Kd.R_below (B.kr HO_827003) hb); have n1_ := Aside0.mk (Kd.R_below (B.kr HO_834003) hb); have n2_ := Aside0.mk (Kd.R_below (B.kr HO_841003) hb); have n3_ := Aside0.mk (blk_below (B.kb BK812) hb); have n4_ := Aside0.mk (blk_below (B.kb BK826) hb); have n5_ := Aside0.mk (blk_below (B.kb BK833) hb); have n6_ := Aside0.mk (blk_below (B.kb BK840) hb); have n7_ := Aside0.mk (below_step (B.bl HB) hb); clear HO_827003 HO_834003 HO_841003 BK812 BK826 BK833 BK840 HB; have HO_827003 := n0_; have HO_834003 := n1_; have HO_841003 := n2_; have BK812 := n3_; have BK826 := n4_; have BK833 := n5_; have BK840 := n6_; have HB := n7_; clear n0_ n1_ n2_ n3_ n4_ n5_ n6_ n7_; (try clear hb); (try clear hb2); (try clear hk); (try clear hi); have hnb80 := NB812_826.out; have hnc80 := NB826_812.out; have hnb81 := NB812_833.out; have hnc81 := NB833_812.out; have hcz82_0 : w79.cell? ⟨gb812, 0, none⟩ = some (.int .i64 a0_0) := B.bc BK812 0; have hcz82_1 : w79.cell? ⟨gb812, 1, none⟩ = some (.int .i64 a0_1) := B.bc BK812 1; have hcz82_2 : w79.cell? ⟨gb812, 2, none⟩ = some (.int .i64 a0_2) := B.bc BK812 2; have hcz82_3 : w79.cell? ⟨gb812, 3, none⟩ = some (.slice A0_3 l0_3.length c0_3) := B.bc BK812 3; have hfz82_0 := blk_frozen BK812.out 0; have hfz82_1 := blk_frozen BK812.out 1; have hfz82_2 := blk_frozen BK812.out 2; have hfz82_3 := blk_frozen BK812.out 3) | ((with_reducible refine gate_callee (f := 14) rfl ?_); refine goesL_ (some 55) rfl rfl Try.func14 (by kernel_rfl) rfl #[.agg #[.int .i64 a0_0, .int .i64 a0_1, .int .i64 a0_2, .slice A0_3 l0_3.length c0_3]] rfl B.am ?_; (with_reducible refine (laws_toImage.calls kj16 a0_0 a0_1 a0_2 _ _ l0_3 t855 t856 t857 t858 _ ?side1 ?side2 A66.out).mono ?_); (case side1 => exact B.kc (Kd.C_below HR0_3.out HB.out)); (case side2 => exact HC0_3.out); rintro e w83 ⟨v859, rfl, ho0, hb⟩; refine ⟨_, rfl, ?_⟩; have n0_ := Aside0.mk (Kd.R_elder' (B.kr HO_827003) (Kd.R_base ho0) hb); have n1_ := Aside0.mk (Kd.R_elder' (B.kr HO_834003) (Kd.R_base ho0) hb); have n2_ := Aside0.mk (Kd.R_elder' (B.kr HO_841003) (Kd.R_base ho0) hb); have n3_ := Aside0.mk (Kd.R_lower (Kd.R_new' (Kd.R_new' (Kd.R_new' ho0 (Kd.R_lt (B.kr HO_827003))) (Kd.R_lt (B.kr HO_834003))) (Kd.R_lt (B.kr HO_841003))) (below_size (B.bl HB))); have n4_ := Aside0.mk (blk_below (B.kb BK812) hb); have n5_ := Aside0.mk (blk_below (B.kb BK826) hb); have n6_ := Aside0.mk (blk_below (B.kb BK833) hb); have n7_ := Aside0.mk (blk_below (B.kb BK840) hb); have n8_ := Aside0.mk (below_step (B.bl HB) hb); clear HO_827003 HO_834003 HO_841003 BK812 BK826 BK833 BK840 HB; have HO_827003 := n0_; have HO_834003 := n1_; have HO_841003 := n2_; have HO860 := n3_; have BK812 := n4_; have BK826 := n5_; have BK833 := n6_; have BK840 := n7_; have HB := n8_; clear n0_ n1_ n2_ n3_ n4_ n5_ n6_ n7_ n8_; (try clear hb); (try clear hb2); (try clear hk); (try clear hi); (try clear ho0); obtain ⟨Ao84, co84, eo84⟩ := Kd.R_slice HO860.out; subst eo84) | ((with_reducible refine gate_callee (f := 21) rfl ?_); refine goesL_ (some 56) rfl rfl Try.func21 (by kernel_rfl) rfl #[.agg #[.int .i64 t855, .int .i64 t856, .int .i64 t857, .slice Ao84 t858.length co84]] rfl B.am ?_; (with_reducible refine (impl_MirrorImage.calls t855 t856 t857 _ _ t858 t861 t862 t863 t864 _ ?side1 ?side2 A67.out).mono ?_); (case side1 => exact B.kc ((Kd.R_reads' HO860.out).2.2)); (case side2 => exact (Kd.R_reads' HO860.out).2.1); rintro e w85 ⟨v865, rfl, ho0, hb⟩; refine ⟨_, rfl, ?_⟩; have n0_ := Aside0.mk (Kd.R_elder' (B.kr HO_827003) (Kd.R_base ho0) hb); have n1_ := Aside0.mk (Kd.R_elder' (B.kr HO_834003) (Kd.R_base ho0) hb); have n2_ := Aside0.mk (Kd.R_elder' (B.kr HO_841003) (Kd.R_base ho0) hb); have n3_ := Aside0.mk (Kd.R_elder' (B.kr HO860) (Kd.R_base ho0) hb); have n4_ := Aside0.mk (Kd.R_lower (Kd.R_new' (Kd.R_new' (Kd.R_new' (Kd.R_new' ho0 (Kd.R_lt (B.kr HO_827003))) (Kd.R_lt (B.kr HO_834003))) (Kd.R_lt (B.kr HO_841003))) (Kd.R_lt (B.kr HO860))) (below_size (B.bl HB))); have n5_ := Aside0.mk (blk_below (B.kb BK812) hb); have n6_ := Aside0.mk (blk_below (B.kb BK826) hb); have n7_ := Aside0.mk (blk_below (B.kb BK833) hb); have n8_ := Aside0.mk (blk_below (B.kb BK840) hb); have n9_ := Aside0.mk (below_step (B.bl HB) hb); clear HO_827003 HO_834003 HO_841003 HO860 BK812 BK826 BK833 BK840 HB; have HO_827003 := n0_; have HO_834003 := n1_; have HO_841003 := n2_; have HO860 := n3_; have HO866 := n4_; have BK812 := n5_; have BK826 := n6_; have BK833 := n7_; have BK840 := n8_; have HB := n9_; clear n0_ n1_ n2_ n3_ n4_ n5_ n6_ n7_ n8_ n9_; (try clear hb); (try clear hb2); (try clear hk); (try clear hi); (try clear ho0)) | ((with_reducible refine gate_dst (N := 10) rfl ?_); refine box_event ?hg (N := 10) ?hd (cs := #[.int .i64 0, .int .i64 0, .int .i64 0, .slice none 0 0]) (t := 26) ?hr ?_; (case hd => rfl); (case hg => rfl); (case hr => first | (go_simp; done) | (go_simp; rfl)); intro gb867 hg w86 hbox hb; have n0_ := Aside0.mk (Kd.R_below (B.kr HO_827003) hb); have n1_ := Aside0.mk (Kd.R_below (B.kr HO_834003) hb); have n2_ := Aside0.mk (Kd.R_below (B.kr HO_841003) hb); have n3_ := Aside0.mk (Kd.R_below (B.kr HO860) hb); have n4_ := Aside0.mk (Kd.R_below (B.kr HO866) hb); have n5_ := Aside0.mk (blk_below (B.kb BK812) hb); have n6_ := Aside0.mk (blk_below (B.kb BK826) hb); have n7_ := Aside0.mk (blk_below (B.kb BK833) hb); have n8_ := Aside0.mk (blk_below (B.kb BK840) hb); have n9_ := Aside0.mk (below_step (B.bl HB) hb); have n10_ := Aside0.mk (hbox); have n11_ := Aside0.mk (B.nle hg (below_size (B.bl HB))); have n12_ := Aside0.mk (B.nle hg (below_size (B.bl HB))); have n13_ := Aside0.mk (B.nlt hg (blk_lt (B.kb BK812))); have n14_ := Aside0.mk (B.ngt hg (blk_lt (B.kb BK812))); have n15_ := Aside0.mk (B.nlt hg (blk_lt (B.kb BK826))); have n16_ := Aside0.mk (B.ngt hg (blk_lt (B.kb BK826))); have n17_ := Aside0.mk (B.nlt hg (blk_lt (B.kb BK833))); have n18_ := Aside0.mk (B.ngt hg (blk_lt (B.kb BK833))); have n19_ := Aside0.mk (B.nlt hg (blk_lt (B.kb BK840))); have n20_ := Aside0.mk (B.ngt hg (blk_lt (B.kb BK840))); clear HO_827003 HO_834003 HO_841003 HO860 HO866 BK812 BK826 BK833 BK840 HB; have HO_827003 := n0_; have HO_834003 := n1_; have HO_841003 := n2_; have HO860 := n3_; have HO866 := n4_; have BK812 := n5_; have BK826 := n6_; have BK833 := n7_; have BK840 := n8_; have HB := n9_; have BK867 := n10_; have GW867 := n11_; have GE867 := n12_; have NB812_867 := n13_; have NB867_812 := n14_; have NB826_867 := n15_; have NB867_826 := n16_; have NB833_867 := n17_; have NB867_833 := n18_; have NB840_867 := n19_; have NB867_840 := n20_; clear n0_ n1_ n2_ n3_ n4_ n5_ n6_ n7_ n8_ n9_ n10_ n11_ n12_ n13_ n14_ n15_ n16_ n17_ n18_ n19_ n20_; clear hb hbox hg; have hnb87 := NB867_812.out; have hnc87 := NB812_867.out; have hnb88 := NB867_826.out; have hnc88 := NB826_867.out; have hnb89 := NB867_833.out; have hnc89 := NB833_867.out; have hnb90 := NB867_840.out; have hnc90 := NB840_867.out; have hcz91_0 : w86.cell? ⟨gb867, 0, none⟩ = some (.int .i64 0) := B.bc BK867 0; have hcz91_1 : w86.cell? ⟨gb867, 1, none⟩ = some (.int .i64 0) := B.bc BK867 1; have hcz91_2 : w86.cell? ⟨gb867, 2, none⟩ = some (.int .i64 0) := B.bc BK867 2; have hcz91_3 : w86.cell? ⟨gb867, 3, none⟩ = some (.slice none 0 0) := B.bc BK867 3; have hfz91_0 := blk_frozen BK867.out 0; have hfz91_1 := blk_frozen BK867.out 1; have hfz91_2 := blk_frozen BK867.out 2; have hfz91_3 := blk_frozen BK867.out 3; obtain ⟨Ao92, co92, eo92⟩ := Kd.R_slice HO866.out; subst eo92; have hnb93 := NB826_833.out; have hnc93 := NB833_826.out; have hcz94_0 : w86.cell? ⟨gb826, 0, none⟩ = some (.int .i64 t820) := B.bc BK826 0; have hcz94_1 : w86.cell? ⟨gb826, 1, none⟩ = some (.int .i64 t821) := B.bc BK826 1; have hcz94_2 : w86.cell? ⟨gb826, 2, none⟩ = some (.int .i64 t822) := B.bc BK826 2; have hcz94_3 : w86.cell? ⟨gb826, 3, none⟩ = some (.slice Ao28 t823.length co28) := B.bc BK826 3; have hfz94_0 := blk_frozen BK826.out 0; have hfz94_1 := blk_frozen BK826.out 1; have hfz94_2 := blk_frozen BK826.out 2; have hfz94_3 := blk_frozen BK826.out 3) | ((with_reducible refine gate_callee (f := 16) rfl ?_); refine goesL_ (some 59) rfl rfl Try.func16 (by kernel_rfl) rfl #[.agg #[.int .i64 t861, .int .i64 t862, .int .i64 t863, .slice Ao92 t864.length co92], .agg #[.int .i64 t820, .int .i64 t821, .int .i64 t822, .slice Ao28 t823.length co28]] rfl B.am ?_; (with_reducible refine (laws_eqImage.calls kj16 t861 t862 t863 _ _ t864 t820 t821 t822 _ _ t823 true _ ?side1 ?side2 ?side3 ?side4 A68.out).mono ?_); (case side1 => refine (Kd.R_reads' (e := 3) (base := w.heap.size) (ok := fun k_ => ((((True ∧ some k_ ≠ (.slice Ao28 t823.length co28 : Value).ownBlock) ∧ some k_ ≠ (.slice Ao35 t850.length co35 : Value).ownBlock) ∧ some k_ ≠ (.slice Ao42 t837.length co42 : Value).ownBlock) ∧ some k_ ≠ (.slice Ao84 t858.length co84 : Value).ownBlock)) (n := t864.length) (c := co92) ?_).2.2; exact (B.kr0 (B.rs4 HO866 BK867))); (case side2 => exact (Kd.R_reads' HO866.out).2.1); (case side3 => refine (Kd.R_reads' (e := 3) (base := w.heap.size) (ok := fun k_ => (((some k_ ≠ (.slice Ao35 t850.length co35 : Value).ownBlock ∧ some k_ ≠ (.slice Ao42 t837.length co42 : Value).ownBlock) ∧ some k_ ≠ (.slice Ao84 t858.length co84 : Value).ownBlock) ∧ some k_ ≠ (.slice Ao92 t864.length co92 : Value).ownBlock)) (n := t823.length) (c := co28) ?_).2.2; exact (B.kr0 (B.rs4 HO_827003 BK867))); (case side4 => exact (Kd.R_reads' HO_827003.out).2.1); rintro e w95 ⟨rfl, hb⟩; refine ⟨_, rfl, ?_⟩; have n0_ := Aside0.mk (Kd.R_below (B.kr0 (B.rs4 HO_827003 BK867)) hb); have n1_ := Aside0.mk (Kd.R_below (B.kr0 (B.rs4 HO_834003 BK867)) hb); have n2_ := Aside0.mk (Kd.R_below (B.kr0 (B.rs4 HO_841003 BK867)) hb); have n3_ := Aside0.mk (Kd.R_below (B.kr0 (B.rs4 HO860 BK867)) hb); have n4_ := Aside0.mk (Kd.R_below (B.kr0 (B.rs4 HO866 BK867)) hb); have n5_ := Aside0.mk (blk_below (B.kb0 (B.bf4 BK812 NB812_867)) hb); have n6_ := Aside0.mk (blk_below (B.kb0 (B.bf4 BK826 NB826_867)) hb); have n7_ := Aside0.mk (blk_below (B.kb0 (B.bf4 BK833 NB833_867)) hb); have n8_ := Aside0.mk (blk_below (B.kb0 (B.bf4 BK840 NB840_867)) hb); have n9_ := Aside0.mk (blk_below (g := gb867) (o := .cells #[.int .i64 t861, .int .i64 t862, .int .i64 t863, .slice Ao92 t864.length co92] 26 (0, 0)) (B.kb0 (B.bp4 BK867)) hb); have n10_ := Aside0.mk (below_step (B.bl HB) hb); clear HO_827003 HO_834003 HO_841003 HO860 HO866 BK812 BK826 BK833 BK840 BK867 HB; have HO_827003 := n0_; have HO_834003 := n1_; have HO_841003 := n2_; have HO860 := n3_; have HO866 := n4_; have BK812 := n5_; have BK826 := n6_; have BK833 := n7_; have BK840 := n8_; have BK867 := n9_; have HB := n10_; clear n0_ n1_ n2_ n3_ n4_ n5_ n6_ n7_ n8_ n9_ n10_; (try clear hb); (try clear hb2); (try clear hk); (try clear hi); have hcz96_0 : w95.cell? ⟨gb840, 0, none⟩ = some (.int .i64 t834) := B.bc BK840 0; have hcz96_1 : w95.cell? ⟨gb840, 1, none⟩ = some (.int .i64 t835) := B.bc BK840 1; have hcz96_2 : w95.cell? ⟨gb840, 2, none⟩ = some (.int .i64 t836) := B.bc BK840 2; have hcz96_3 : w95.cell? ⟨gb840, 3, none⟩ = some (.slice Ao42 t837.length co42) := B.bc BK840 3; have hfz96_0 := blk_frozen BK840.out 0; have hfz96_1 := blk_frozen BK840.out 1; have hfz96_2 := blk_frozen BK840.out 2; have hfz96_3 := blk_frozen BK840.out 3) | ((with_reducible refine gate_callee (f := 18) rfl ?_); refine goesL_ (some 63) rfl rfl Try.func18 (by kernel_rfl) rfl #[.agg #[.int .i64 t834, .int .i64 t835, .int .i64 t836, .slice Ao42 t853.length co42], .int .i64 1] rfl (by (try simp only [List.map_toArray, List.map_cons, List.map_nil]); first | done | (rw [show t853.length = t837.length from (Kd.R_reads' HO_841003.out).1.symm] <;> rfl) | rfl | (simp only [List.length_drop, List.length_take]; rfl)) ?_; (with_reducible refine (laws_heldImage.calls kj16 t834 t835 t836 _ _ t853 1 t869 _ ?side1 ?side2 A70.out).mono ?_); (case side1 => exact B.kc ((Kd.R_reads' HO_841003.out).2.2)); (case side2 => rw [show t853.length = t837.length from (Kd.R_reads' HO_841003.out).1.symm]; exact (Kd.R_reads' HO_841003.out).2.1); rintro e w97 ⟨rfl, hb⟩; refine ⟨_, rfl, ?_⟩; have n0_ := Aside0.mk (Kd.R_below (B.kr HO_827003) hb); have n1_ := Aside0.mk (Kd.R_below (B.kr HO_834003) hb); have n2_ := Aside0.mk (Kd.R_below (B.kr HO_841003) hb); have n3_ := Aside0.mk (Kd.R_below (B.kr HO860) hb); have n4_ := Aside0.mk (Kd.R_below (B.kr HO866) hb); have n5_ := Aside0.mk (blk_below (B.kb BK812) hb); have n6_ := Aside0.mk (blk_below (B.kb BK826) hb); have n7_ := Aside0.mk (blk_below (B.kb BK833) hb); have n8_ := Aside0.mk (blk_below (B.kb BK840) hb); have n9_ := Aside0.mk (blk_below (B.kb BK867) hb); have n10_ := Aside0.mk (below_step (B.bl HB) hb); clear HO_827003 HO_834003 HO_841003 HO860 HO866 BK812 BK826 BK833 BK840 BK867 HB; have HO_827003 := n0_; have HO_834003 := n1_; have HO_841003 := n2_; have HO860 := n3_; have HO866 := n4_; have BK812 := n5_; have BK826 := n6_; have BK833 := n7_; have BK840 := n8_; have BK867 := n9_; have HB := n10_; clear n0_ n1_ n2_ n3_ n4_ n5_ n6_ n7_ n8_ n9_ n10_; (try clear hb); (try clear hb2); (try clear hk); (try clear hi)))
                go_ret
                exact ⟨by first | rfl | (simp [errW_none, errW_some] <;> rfl) | (simp [*, errW_none, errW_some] <;> rfl), B.bl HB⟩
              rw [if_neg c72] at H
              have c72b0 : (t869 == t852) = false := beq_eq_false_iff_ne.mpr c72
              have c72b1 : (t869 != t852) = true := bne_iff_ne.mpr c72
              obtain rfl := Option.some.inj H
              exact absurd ht_.out (by decide)
            replace c69 := Bool.eq_false_iff.mpr c69
            subst c69
            have H1 : (some false) = some r := by rw [if_neg (show ¬ (false = true) by decide)] at H; exact H
            clear H
            have H := H1
            clear H1
            obtain rfl := Option.some.inj H
            exact absurd ht_.out (by decide)
          rw [if_neg c65] at H
          have c65b0 : (t854 == t852) = false := beq_eq_false_iff_ne.mpr c65
          have c65b1 : (t854 != t852) = true := bne_iff_ne.mpr c65
          obtain rfl := Option.some.inj H
          exact absurd ht_.out (by decide)
    replace c15 := Bool.eq_false_iff.mpr c15
    subst c15
    have H1 : (some false) = some r := by rw [if_neg (show ¬ (false = true) by decide)] at H; exact H
    clear H
    have H := H1
    clear H1
    obtain rfl := Option.some.inj H
    exact absurd ht_.out (by decide)
  replace c12 := Bool.eq_false_iff.mpr c12
  subst c12
  have H1 : (some false) = some r := by rw [if_neg (show ¬ (false = true) by decide)] at H; exact H
  clear H
  have H := H1
  clear H1
  obtain rfl := Option.some.inj H
  exact absurd ht_.out (by decide)

end Go.Proofs.Ytibbkaoghbmncaa.Q
