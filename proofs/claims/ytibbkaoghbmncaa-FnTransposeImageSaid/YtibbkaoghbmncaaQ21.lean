-- Written by a program of this session (the kit's printer, with hand-proved contracts for the functions that it does not take).
import Derived.Test.YtibbkaoghbmncaaQ0
import Derived.Test.YtibbkaoghbmncaaQ3
import Derived.Test.YtibbkaoghbmncaaQ4
import Derived.Test.YtibbkaoghbmncaaQ5
import Derived.Test.YtibbkaoghbmncaaQ7
import Derived.Test.YtibbkaoghbmncaaQ9
import Derived.Test.YtibbkaoghbmncaaQ12
namespace Go.Proofs.Ytibbkaoghbmncaa.Q
open Go.RowKit Go.Proofs.YtibbkaoghbmncaaW.PrintWords Go.Proofs.YtibbkaoghbmncaaW.PrintLast Go.Proofs.YtibbkaoghbmncaaW.PrintMore
attribute [local go_sem] max2_int min2_int max_two min_two max_three min_three max_four min_four   -- for this text's walks alone
set_option linter.unusedVariables false
set_option linter.unusedSimpArgs false

/-! ### spec_DrawTransposeImage: function 19 -/
def spec_DrawTransposeImage.f (k : Nat) (l0 : List Int) : Option (Int × Int × Int × List Int) := (spec_newReader.f l0).bind fun bt316 => ((spec_anyImage.f k bt316.1 bt316.2).bind fun bt319 => (some (bt319.1, bt319.2.1, bt319.2.2.1, bt319.2.2.2.1)))
theorem spec_DrawTransposeImage.mono : ∀ a0 k, LeO (spec_DrawTransposeImage.f k a0) (spec_DrawTransposeImage.f (k + 1) a0) := by
  intro a0 k
  unfold spec_DrawTransposeImage.f
  repeat' first
      | (with_reducible exact spec_anyImage.mono _ _ _)
      | (with_reducible exact LeO.refl _)
      | (with_reducible exact LeO.none _)
      | (with_reducible refine LeO.ite ?_ ?_)
      | (with_reducible refine LeO.bind ?_ (fun _ => ?_))
      | exact spec_anyImage.mono _ _ _
      | exact LeO.none _
      | refine LeO.ite ?_ ?_
      | refine LeO.bind ?_ (fun _ => ?_)
set_option maxHeartbeats 8000000 in
set_option maxRecDepth 100000 in
theorem spec_DrawTransposeImage.calls (k : Nat) (A0 : Option Addr) (c0 : Nat) (l0 : List Int) (r1 : Int) (r2 : Int) (r3 : Int) (r4 : List Int) (w : World) (hr0 : Kd.C (Kd.int .u8) w A0 l0.length l0) (hc0 : l0.length ≤ c0) (h : spec_DrawTransposeImage.f k l0 = some (r1, r2, r3, r4)) :
    Calls Try.prog 19 #[.slice A0 l0.length c0] w fun e w' => ∃ v3_ : Value, e = .returned (.agg #[.int .i64 r1, .int .i64 r2, .int .i64 r3, v3_]) ∧ Kd.Q (Kd.int .i64) 3 w' w.heap.size (fun _ => True) v3_ r4 ∧ Below w.heap.size w w' := by
  have hu26 := Try.underlying26
  have HR0 := Aside0.mk hr0
  have HC0 := Aside0.mk hc0
  clear hr0 hc0
  have HB := Aside0.mk (Below.refl w.heap.size w)
  have H : ((spec_newReader.f l0).bind fun bt316 => ((spec_anyImage.f k bt316.1 bt316.2).bind fun bt319 => (some (bt319.1, bt319.2.1, bt319.2.2.1, bt319.2.2.2.1)))) = some (r1, r2, r3, r4) := h
  clear h
  replace H := Option.bind_eq_some_iff.mp H
  obtain ⟨⟨t316, t317⟩, A20, H⟩ := H
  replace H : ((spec_anyImage.f k t316 t317).bind fun bt319 => (some (bt319.1, bt319.2.1, bt319.2.2.1, bt319.2.2.2.1))) = some (r1, r2, r3, r4) := H
  have A2 := Aside0.mk A20
  clear A20
  replace H := Option.bind_eq_some_iff.mp H
  obtain ⟨⟨t319, t320, t321, t322, t325⟩, A30, H⟩ := H
  replace H : (some (t319, t320, t321, t322)) = some (r1, r2, r3, r4) := H
  have A3 := Aside0.mk A30
  clear A30
  simp only [Option.some.injEq, Prod.mk.injEq] at H
  obtain ⟨rfl, rfl, rfl, rfl⟩ := H
  go_enter Try.func19, Try.ntmps19
  go_wp2_with (first | ((with_reducible refine gate_dst (N := 2) rfl ?_); refine box_event ?hg (N := 2) ?hd (cs := #[.int .i64 0, .int .i64 0, .int .i64 0, .slice none 0 0]) (t := 26) ?hr ?_; (case hd => rfl); (case hg => rfl); (case hr => first | (go_simp; done) | (go_simp; rfl)); intro gb315 hg w4 hbox hb; have n0_ := Aside0.mk (below_step (B.bl HB) hb); have n1_ := Aside0.mk (hbox); have n2_ := Aside0.mk (B.nle hg (below_size (B.bl HB))); have n3_ := Aside0.mk (B.nle hg (below_size (B.bl HB))); clear HB; have HB := n0_; have BK315 := n1_; have GW315 := n2_; have GE315 := n3_; clear n0_ n1_ n2_ n3_; clear hb hbox hg) | ((with_reducible refine gate_callee (f := 48) rfl ?_); refine goesL_ (some 4) rfl rfl Try.func48 (by kernel_rfl) rfl #[.slice A0 l0.length c0] rfl B.am ?_; (with_reducible refine (spec_newReader.calls _ _ l0 t316 t317 w _ ?side1 ?side2 ?side3 A2.out).mono ?_); (case side1 => exact B.bl HB); (case side2 => exact HR0.out); (case side3 => exact HC0.out); rintro e w5 ⟨g318, rfl, hi, hb, hb2⟩; refine ⟨_, rfl, ?_⟩; have n0_ := Aside0.mk (blk_below (B.kb BK315) hb2); have n1_ := Aside0.mk (hb); have n2_ := Aside0.mk (hi); have n3_ := Aside0.mk (IsS67.ne_blk hi (blk_below (B.kb BK315) hb2) (by decide)); have n4_ := Aside0.mk (Ne.symm (IsS67.ne_blk hi (blk_below (B.kb BK315) hb2) (by decide))); clear BK315 HB; have BK315 := n0_; have HB := n1_; have HI318 := n2_; have NB318_315 := n3_; have NB315_318 := n4_; clear n0_ n1_ n2_ n3_ n4_; (try clear hb); (try clear hb2); (try clear hk); (try clear hi)) | ((with_reducible refine gate_callee (f := 47) rfl ?_); refine goesL_ (some 5) rfl rfl Try.func47 (by kernel_rfl) rfl #[.pointer (some ⟨g318, 0, none⟩)] rfl B.am ?_; (with_reducible refine (spec_anyImage.calls k g318 t316 t317 t319 t320 t321 t322 t325 w _ ?side1 ?side2 A3.out).mono ?_); (case side1 => exact B.st HI318); (case side2 => exact B.bs HB); rintro e w6 ⟨v323, rfl, ho0, hi, hb, hk⟩; refine ⟨_, rfl, ?_⟩; have n0_ := Aside0.mk (KeepBut.blk hk (g' := gb315) (o := .cells #[.int .i64 0, .int .i64 0, .int .i64 0, .slice none 0 0] 26 (0, 0)) (B.kb BK315) NB315_318.out (by simp)); have n1_ := Aside0.mk (Kd.Q_lower ho0 (below_size (B.bs HB))); have n2_ := Aside0.mk (hb); have n3_ := Aside0.mk (hi); clear BK315 HB HI318; have BK315 := n0_; have HO324 := n1_; have HB := n2_; have HI318 := n3_; clear n0_ n1_ n2_ n3_; (try clear hb); (try clear hb2); (try clear hk); (try clear hi); (try clear ho0); have hnb7 := NB315_318.out; have hnc7 := NB318_315.out; have hcz8_0 : w6.cell? ⟨gb315, 0, none⟩ = some (.int .i64 0) := B.bc BK315 0; have hcz8_1 : w6.cell? ⟨gb315, 1, none⟩ = some (.int .i64 0) := B.bc BK315 1; have hcz8_2 : w6.cell? ⟨gb315, 2, none⟩ = some (.int .i64 0) := B.bc BK315 2; have hcz8_3 : w6.cell? ⟨gb315, 3, none⟩ = some (.slice none 0 0) := B.bc BK315 3; have hfz8_0 := blk_frozen BK315.out 0; have hfz8_1 := blk_frozen BK315.out 1; have hfz8_2 := blk_frozen BK315.out 2; have hfz8_3 := blk_frozen BK315.out 3; obtain ⟨Ao9, co9, eo9, _⟩ := Kd.Q_slice HO324.out; subst eo9))
  refine bodyPost_ret (results_cell_row rfl _ _ gb315 26 #[.int .i64 t319, .int .i64 t320, .int .i64 t321, .slice Ao9 t322.length co9] (0, 0) _ rfl (B.kb0 (B.bp4 BK315)) Try.underlying26 rfl (by kernel_rfl)) rfl ?_
  exact ⟨_, by first | rfl | (simp [errW_none, errW_some] <;> rfl) | (simp [*, errW_none, errW_some] <;> rfl), by (with_reducible repeat (first | apply Kd.Q_alloc | apply Kd.Q_drewN | apply Kd.Q_drew)); exact Kd.Q_mono (Kd.Q_far (p := ⟨gb315, 3, none⟩) (Kd.Q_far (p := ⟨gb315, 2, none⟩) (Kd.Q_far (p := ⟨gb315, 1, none⟩) (Kd.Q_far (p := ⟨gb315, 0, none⟩) (Kd.Q_types HO324.out BK315.out (by decide)) (fun _ hk => hk.2) (.int .i64 t319)) (fun _ hk => hk.2) (.int .i64 t320)) (fun _ hk => hk.2) (.int .i64 t321)) (fun _ hk => hk.2) (.slice Ao9 t322.length co9)) (fun _ hk => trivial), B.bs HB⟩

/-! ### laws_FnTransposeImage: function 4 -/
def laws_FnTransposeImage.j0 : Nat → Bool → Int → Int → Int → List Int → Int → Int → Int → List Int → Option (Bool)
  | 0, _, _, _, _, _, _, _, _, _ => none
  | k + 1, x21, x346000, x346001, x346002, x346003, x353000, x353001, x353002, x353003 => if x21 = true then ((spec_TransposeImage.f k x346000 x346001 x346002 x346003).bind fun bt360 => ((laws_equalImage.f k x353000 x353001 x353002 x353003 bt360.1 bt360.2.1 bt360.2.2.1 bt360.2.2.2).bind fun t366 => (some t366))) else ((impl_TransposeImage.f x353000 x353001 x353002 x353003).bind fun bt367 => ((laws_equalImage.f k bt367.1 bt367.2.1 bt367.2.2.1 bt367.2.2.2 x346000 x346001 x346002 x346003).bind fun t373 => (if t373 = true then ((impl_TurnImage.f x346000 x346001 x346002 x346003 1).bind fun bt374 => ((impl_MirrorImage.f bt374.1 bt374.2.1 bt374.2.2.1 bt374.2.2.2).bind fun bt380 => ((laws_equalImage.f k bt380.1 bt380.2.1 bt380.2.2.1 bt380.2.2.2 x353000 x353001 x353002 x353003).bind fun t386 => (some t386)))) else (some false))))
def laws_FnTransposeImage.f (k : Nat) (l0 : List Int) : Option (Bool) := if (l0.length : Int) > 1048576 then (some true) else ((spec_DrawTransposeImage.f k l0).bind fun bt339 => ((impl_TransposeImage.f bt339.1 bt339.2.1 bt339.2.2.1 bt339.2.2.2).bind fun bt346 => ((spec_TransposeImage.f k bt339.1 bt339.2.1 bt339.2.2.1 bt339.2.2.2).bind fun bt353 => ((laws_equalImage.f k bt346.1 bt346.2.1 bt346.2.2.1 bt346.2.2.2 bt353.1 bt353.2.1 bt353.2.2.1 bt353.2.2.2).bind fun t359 => (if t359 = true then (laws_FnTransposeImage.j0 k (bt346.1 == 0) bt339.1 bt339.2.1 bt339.2.2.1 bt339.2.2.2 bt346.1 bt346.2.1 bt346.2.2.1 bt346.2.2.2) else (laws_FnTransposeImage.j0 k true bt339.1 bt339.2.1 bt339.2.2.1 bt339.2.2.2 bt346.1 bt346.2.1 bt346.2.2.1 bt346.2.2.2))))))
theorem laws_FnTransposeImage.mono_l : ∀ k, (∀ y0 y1 y2 y3 y4 y5 y6 y7 y8, LeO (laws_FnTransposeImage.j0 k y0 y1 y2 y3 y4 y5 y6 y7 y8) (laws_FnTransposeImage.j0 (k + 1) y0 y1 y2 y3 y4 y5 y6 y7 y8))
  | 0 => fun _ _ _ _ _ _ _ _ _ r h => by simp [laws_FnTransposeImage.j0] at h
  | k + 1 => by
    have ih0 := laws_FnTransposeImage.mono_l k
    · intro y0 y1 y2 y3 y4 y5 y6 y7 y8
      unfold laws_FnTransposeImage.j0
      repeat' first
      | (with_reducible exact ih0 _ _ _ _ _ _ _ _ _)
      | (with_reducible exact laws_equalImage.mono _ _ _ _ _ _ _ _ _)
      | (with_reducible exact spec_DrawTransposeImage.mono _ _)
      | (with_reducible exact spec_TransposeImage.mono _ _ _ _ _)
      | (with_reducible exact LeO.refl _)
      | (with_reducible exact LeO.none _)
      | (with_reducible refine LeO.ite ?_ ?_)
      | (with_reducible refine LeO.bind ?_ (fun _ => ?_))
      | exact ih0 _ _ _ _ _ _ _ _ _
      | exact laws_equalImage.mono _ _ _ _ _ _ _ _ _
      | exact spec_DrawTransposeImage.mono _ _
      | exact spec_TransposeImage.mono _ _ _ _ _
      | exact LeO.none _
      | refine LeO.ite ?_ ?_
      | refine LeO.bind ?_ (fun _ => ?_)
theorem laws_FnTransposeImage.mono : ∀ a0 k, LeO (laws_FnTransposeImage.f k a0) (laws_FnTransposeImage.f (k + 1) a0) := by
  intro a0 k
  have ih0 := laws_FnTransposeImage.mono_l k
  unfold laws_FnTransposeImage.f
  repeat' first
      | (with_reducible exact ih0 _ _ _ _ _ _ _ _ _)
      | (with_reducible exact laws_equalImage.mono _ _ _ _ _ _ _ _ _)
      | (with_reducible exact spec_DrawTransposeImage.mono _ _)
      | (with_reducible exact spec_TransposeImage.mono _ _ _ _ _)
      | (with_reducible exact LeO.refl _)
      | (with_reducible exact LeO.none _)
      | (with_reducible refine LeO.ite ?_ ?_)
      | (with_reducible refine LeO.bind ?_ (fun _ => ?_))
      | exact ih0 _ _ _ _ _ _ _ _ _
      | exact laws_equalImage.mono _ _ _ _ _ _ _ _ _
      | exact spec_DrawTransposeImage.mono _ _
      | exact spec_TransposeImage.mono _ _ _ _ _
      | exact LeO.none _
      | refine LeO.ite ?_ ?_
      | refine LeO.bind ?_ (fun _ => ?_)
def laws_FnTransposeImage.T5 : Bool × List (List Nat × List Nat) := (true, [([], []), ([], []), ([1], [1]), ([0, 2, 2], [0, 2]), ([3], [3]), ([4, 3], [4]), ([5], [5]), ([6, 5], [5, 6]), ([7, 5], [5, 7]), ([5, 8], [5, 8])])
def laws_FnTransposeImage.B5 : List Nat := [0, 0, 2, 7, 15, 31, 63, 127, 255, 511]
theorem laws_FnTransposeImage.tab5 : rtab .any (opsOf Try.f4 5) = laws_FnTransposeImage.T5 := by kernel_rfl
theorem laws_FnTransposeImage.bits5 : waitsOk laws_FnTransposeImage.T5.2 laws_FnTransposeImage.B5 = true := by kernel_rfl
def laws_FnTransposeImage.T7 : Bool × List (List Nat × List Nat) := (true, [([], []), ([0], [0]), ([], []), ([1, 2, 1], [1, 2]), ([3, 3], [3]), ([4], [4]), ([5, 4, 4], [4, 5]), ([6, 6, 4], [4, 6]), ([4], [4]), ([7, 8, 7, 4], [4, 7, 8]), ([4, 9], [4, 9]), ([10, 9, 0, 1, 2, 3, 4, 5, 6, 7, 8, 9, 10], [10])])
def laws_FnTransposeImage.B7 : List Nat := [0, 1, 0, 7, 15, 31, 63, 127, 31, 511, 1023, 2047]
theorem laws_FnTransposeImage.tab7 : rtab .any (opsOf Try.f4 7) = laws_FnTransposeImage.T7 := by kernel_rfl
theorem laws_FnTransposeImage.bits7 : waitsOk laws_FnTransposeImage.T7.2 laws_FnTransposeImage.B7 = true := by kernel_rfl
set_option maxHeartbeats 8000000 in
set_option maxRecDepth 100000 in
theorem laws_FnTransposeImage.calls (k : Nat) (A0 : Option Addr) (c0 : Nat) (l0 : List Int) (r : Bool) (w : World) (hr0 : Kd.C (Kd.int .u8) w A0 l0.length l0) (hc0 : l0.length ≤ c0) (h : laws_FnTransposeImage.f k l0 = some r) (ht_ : Aside0 (r = true)) :
    Calls Try.prog 4 #[.slice A0 l0.length c0] w fun e w' => e = .returned (.bool r) ∧ Below w.heap.size w w' := by
  have hu26 := Try.underlying26
  have HR0 := Aside0.mk hr0
  have HC0 := Aside0.mk hc0
  clear hr0 hc0
  have HB := Aside0.mk (Below.refl w.heap.size w)
  have H : (if (l0.length : Int) > 1048576 then (some true) else ((spec_DrawTransposeImage.f k l0).bind fun bt339 => ((impl_TransposeImage.f bt339.1 bt339.2.1 bt339.2.2.1 bt339.2.2.2).bind fun bt346 => ((spec_TransposeImage.f k bt339.1 bt339.2.1 bt339.2.2.1 bt339.2.2.2).bind fun bt353 => ((laws_equalImage.f k bt346.1 bt346.2.1 bt346.2.2.1 bt346.2.2.2 bt353.1 bt353.2.1 bt353.2.2.1 bt353.2.2.2).bind fun t359 => (if t359 = true then (laws_FnTransposeImage.j0 k (bt346.1 == 0) bt339.1 bt339.2.1 bt339.2.2.1 bt339.2.2.2 bt346.1 bt346.2.1 bt346.2.2.1 bt346.2.2.2) else (laws_FnTransposeImage.j0 k true bt339.1 bt339.2.1 bt339.2.2.1 bt339.2.2.2 bt346.1 bt346.2.1 bt346.2.2.1 bt346.2.2.2))))))) = some r := h
  clear h
  by_cases c2 : (l0.length : Int) > 1048576
  · rw [if_pos c2] at H
    have c2b0 : decide (1048576 < (l0.length : Int)) = true := decide_eq_true c2
    have c2b1 : decide (1048576 < l0.length) = true := decide_eq_true (by omega)
    clear c2
    obtain rfl := Option.some.inj H
    simp only [Option.some.injEq, Prod.mk.injEq] at H
    obtain ⟨rfl⟩ := H
    go_enter Try.func4, Try.ntmps4
    go_wp2
    go_ret
    exact ⟨by first | rfl | (simp [errW_none, errW_some] <;> rfl) | (simp [*, errW_none, errW_some] <;> rfl), B.bl HB⟩
  rw [if_neg c2] at H
  have c2b0 : decide (1048576 < (l0.length : Int)) = false := decide_eq_false c2
  have c2b1 : decide (1048576 < l0.length) = false := decide_eq_false (by omega)
  clear c2
  replace H := Option.bind_eq_some_iff.mp H
  obtain ⟨⟨t339, t340, t341, t342⟩, A30, H⟩ := H
  replace H : ((impl_TransposeImage.f t339 t340 t341 t342).bind fun bt346 => ((spec_TransposeImage.f k t339 t340 t341 t342).bind fun bt353 => ((laws_equalImage.f k bt346.1 bt346.2.1 bt346.2.2.1 bt346.2.2.2 bt353.1 bt353.2.1 bt353.2.2.1 bt353.2.2.2).bind fun t359 => (if t359 = true then (laws_FnTransposeImage.j0 k (bt346.1 == 0) t339 t340 t341 t342 bt346.1 bt346.2.1 bt346.2.2.1 bt346.2.2.2) else (laws_FnTransposeImage.j0 k true t339 t340 t341 t342 bt346.1 bt346.2.1 bt346.2.2.1 bt346.2.2.2))))) = some r := H
  have A3 := Aside0.mk A30
  clear A30
  replace H := Option.bind_eq_some_iff.mp H
  obtain ⟨⟨t346, t347, t348, t349⟩, A40, H⟩ := H
  replace H : ((spec_TransposeImage.f k t339 t340 t341 t342).bind fun bt353 => ((laws_equalImage.f k t346 t347 t348 t349 bt353.1 bt353.2.1 bt353.2.2.1 bt353.2.2.2).bind fun t359 => (if t359 = true then (laws_FnTransposeImage.j0 k (t346 == 0) t339 t340 t341 t342 t346 t347 t348 t349) else (laws_FnTransposeImage.j0 k true t339 t340 t341 t342 t346 t347 t348 t349)))) = some r := H
  have A4 := Aside0.mk A40
  clear A40
  have HC5 := Aside0.mk H
  clear H
  go_enter Try.func4, Try.ntmps4
  go_upto_region 5 with (first | ((with_reducible refine gate_callee (f := 19) rfl ?_); refine goesL_ (some 9) rfl rfl Try.func19 (by kernel_rfl) rfl #[.slice A0 l0.length c0] rfl B.am ?_; (with_reducible refine (spec_DrawTransposeImage.calls k _ _ l0 t339 t340 t341 t342 _ ?side1 ?side2 A3.out).mono ?_); (case side1 => exact B.kc (HR0.out)); (case side2 => exact HC0.out); rintro e w6 ⟨v343, rfl, ho0, hb⟩; refine ⟨_, rfl, ?_⟩; have n0_ := Aside0.mk (Kd.Q_lower ho0 (below_size (B.bl HB))); have n1_ := Aside0.mk (below_step (B.bl HB) hb); clear HB; have HO344 := n0_; have HB := n1_; clear n0_ n1_; (try clear hb); (try clear hb2); (try clear hk); (try clear hi); (try clear ho0)) | ((with_reducible refine gate_dst (N := 3) rfl ?_); refine box_event ?hg (N := 3) ?hd (cs := #[.int .i64 0, .int .i64 0, .int .i64 0, .slice none 0 0]) (t := 26) ?hr ?_; (case hd => rfl); (case hg => rfl); (case hr => first | (go_simp; done) | (go_simp; rfl)); intro gb345 hg w7 hbox hb; have n0_ := Aside0.mk (Kd.Q_below (B.kq HO344) hb); have n1_ := Aside0.mk (below_step (B.bl HB) hb); have n2_ := Aside0.mk (hbox); have n3_ := Aside0.mk (B.nle hg (below_size (B.bl HB))); have n4_ := Aside0.mk (B.nle hg (below_size (B.bl HB))); clear HO344 HB; have HO344 := n0_; have HB := n1_; have BK345 := n2_; have GW345 := n3_; have GE345 := n4_; clear n0_ n1_ n2_ n3_ n4_; clear hb hbox hg; have hcz8_0 : w7.cell? ⟨gb345, 0, none⟩ = some (.int .i64 0) := B.bc BK345 0; have hcz8_1 : w7.cell? ⟨gb345, 1, none⟩ = some (.int .i64 0) := B.bc BK345 1; have hcz8_2 : w7.cell? ⟨gb345, 2, none⟩ = some (.int .i64 0) := B.bc BK345 2; have hcz8_3 : w7.cell? ⟨gb345, 3, none⟩ = some (.slice none 0 0) := B.bc BK345 3; have hfz8_0 := blk_frozen BK345.out 0; have hfz8_1 := blk_frozen BK345.out 1; have hfz8_2 := blk_frozen BK345.out 2; have hfz8_3 := blk_frozen BK345.out 3; obtain ⟨Ao9, co9, eo9, _⟩ := Kd.Q_slice HO344.out; subst eo9) | ((with_reducible refine gate_callee (f := 15) rfl ?_); refine goesL_ (some 11) rfl rfl Try.func15 (by kernel_rfl) rfl #[.agg #[.int .i64 t339, .int .i64 t340, .int .i64 t341, .slice Ao9 t342.length co9]] rfl B.am ?_; (with_reducible refine (impl_TransposeImage.calls t339 t340 t341 _ _ t342 t346 t347 t348 t349 _ ?side1 ?side2 A4.out).mono ?_); (case side1 => refine (Kd.Q_reads' (e := 3) (base := w.heap.size) (ok := fun k_ => True) (n := t342.length) (c := co9) ?_).2.2; exact (by (with_reducible repeat (first | apply Kd.Q_alloc | apply Kd.Q_drewN | apply Kd.Q_drew)); exact (Kd.Q_mono (Kd.Q_far (p := ⟨gb345, 3, none⟩) (Kd.Q_far (p := ⟨gb345, 2, none⟩) (Kd.Q_far (p := ⟨gb345, 1, none⟩) (Kd.Q_far (p := ⟨gb345, 0, none⟩) (Kd.Q_types HO344.out BK345.out (by decide)) (fun _ hk => hk.2) (.int .i64 t339)) (fun _ hk => hk.2) (.int .i64 t340)) (fun _ hk => hk.2) (.int .i64 t341)) (fun _ hk => hk.2) (.slice Ao9 t342.length co9)) (fun _ h_ => h_.1)))); (case side2 => exact (Kd.Q_reads' HO344.out).2.1); rintro e w10 ⟨v350, rfl, ho0, hb⟩; refine ⟨_, rfl, ?_⟩; have n0_ := Aside0.mk (Kd.Q_elder' (by (with_reducible repeat (first | apply Kd.Q_alloc | apply Kd.Q_drewN | apply Kd.Q_drew)); exact (Kd.Q_mono (Kd.Q_far (p := ⟨gb345, 3, none⟩) (Kd.Q_far (p := ⟨gb345, 2, none⟩) (Kd.Q_far (p := ⟨gb345, 1, none⟩) (Kd.Q_far (p := ⟨gb345, 0, none⟩) (Kd.Q_types HO344.out BK345.out (by decide)) (fun _ hk => hk.2) (.int .i64 t339)) (fun _ hk => hk.2) (.int .i64 t340)) (fun _ hk => hk.2) (.int .i64 t341)) (fun _ hk => hk.2) (.slice Ao9 t342.length co9)) (fun _ h_ => h_.1))) (Kd.R_base ho0) hb); have n1_ := Aside0.mk (Kd.R_lower (Kd.R_new' ho0 (Kd.Q_lt (by (with_reducible repeat (first | apply Kd.Q_alloc | apply Kd.Q_drewN | apply Kd.Q_drew)); exact (Kd.Q_mono (Kd.Q_far (p := ⟨gb345, 3, none⟩) (Kd.Q_far (p := ⟨gb345, 2, none⟩) (Kd.Q_far (p := ⟨gb345, 1, none⟩) (Kd.Q_far (p := ⟨gb345, 0, none⟩) (Kd.Q_types HO344.out BK345.out (by decide)) (fun _ hk => hk.2) (.int .i64 t339)) (fun _ hk => hk.2) (.int .i64 t340)) (fun _ hk => hk.2) (.int .i64 t341)) (fun _ hk => hk.2) (.slice Ao9 t342.length co9)) (fun _ h_ => h_.1))))) (below_size (B.bl HB))); have n2_ := Aside0.mk (blk_below (g := gb345) (o := .cells #[.int .i64 t339, .int .i64 t340, .int .i64 t341, .slice Ao9 t342.length co9] 26 (0, 0)) (B.kb0 (B.bp4 BK345)) hb); have n3_ := Aside0.mk (below_step (B.bl HB) hb); clear HO344 BK345 HB; have HO344 := n0_; have HO351 := n1_; have BK345 := n2_; have HB := n3_; clear n0_ n1_ n2_ n3_; (try clear hb); (try clear hb2); (try clear hk); (try clear hi); (try clear ho0)) | ((with_reducible refine gate_dst (N := 4) rfl ?_); refine box_event ?hg (N := 4) ?hd (cs := #[.int .i64 0, .int .i64 0, .int .i64 0, .slice none 0 0]) (t := 26) ?hr ?_; (case hd => rfl); (case hg => rfl); (case hr => first | (go_simp; done) | (go_simp; rfl)); intro gb352 hg w11 hbox hb; have n0_ := Aside0.mk (Kd.Q_below (B.kq HO344) hb); have n1_ := Aside0.mk (Kd.R_below (B.kr HO351) hb); have n2_ := Aside0.mk (blk_below (B.kb BK345) hb); have n3_ := Aside0.mk (below_step (B.bl HB) hb); have n4_ := Aside0.mk (hbox); have n5_ := Aside0.mk (B.nle hg (below_size (B.bl HB))); have n6_ := Aside0.mk (B.nle hg (below_size (B.bl HB))); have n7_ := Aside0.mk (B.nlt hg (blk_lt (B.kb BK345))); have n8_ := Aside0.mk (B.ngt hg (blk_lt (B.kb BK345))); clear HO344 HO351 BK345 HB; have HO344 := n0_; have HO351 := n1_; have BK345 := n2_; have HB := n3_; have BK352 := n4_; have GW352 := n5_; have GE352 := n6_; have NB345_352 := n7_; have NB352_345 := n8_; clear n0_ n1_ n2_ n3_ n4_ n5_ n6_ n7_ n8_; clear hb hbox hg; have hnb12 := NB352_345.out; have hnc12 := NB345_352.out; have hcz13_0 : w11.cell? ⟨gb352, 0, none⟩ = some (.int .i64 0) := B.bc BK352 0; have hcz13_1 : w11.cell? ⟨gb352, 1, none⟩ = some (.int .i64 0) := B.bc BK352 1; have hcz13_2 : w11.cell? ⟨gb352, 2, none⟩ = some (.int .i64 0) := B.bc BK352 2; have hcz13_3 : w11.cell? ⟨gb352, 3, none⟩ = some (.slice none 0 0) := B.bc BK352 3; have hfz13_0 := blk_frozen BK352.out 0; have hfz13_1 := blk_frozen BK352.out 1; have hfz13_2 := blk_frozen BK352.out 2; have hfz13_3 := blk_frozen BK352.out 3; obtain ⟨Ao14, co14, eo14⟩ := Kd.R_slice HO351.out; subst eo14))
  (try simp only [Act.put, List.setIfInBounds_toArray, List.set_cons_zero, List.set_cons_succ])
  go_cut [21] (fun v21 wc => ∃ (kq : Nat) (x21_4 : Bool), v21 = .bool x21_4 ∧ Aside0 (laws_FnTransposeImage.j0 kq x21_4 t339 t340 t341 t342 t346 t347 t348 t349 = some r) ∧ Aside0 (kq ≤ k) ∧ Aside0 (Kd.Q (Kd.int .i64) 3 wc w.heap.size (fun k_ => some k_ ≠ ((.slice Ao14 t349.length co14) : Value).ownBlock) (.slice Ao9 t342.length co9) t342) ∧ Aside0 (Kd.Q (Kd.int .i64) 3 wc w.heap.size (fun k_ => some k_ ≠ ((.slice Ao9 t342.length co9) : Value).ownBlock) (.slice Ao14 t349.length co14) t349) ∧ Aside0 (wc.heap[gb345]? = some (.cells #[.int .i64 t339, .int .i64 t340, .int .i64 t341, (.slice Ao9 t342.length co9)] 26 (0, 0))) ∧ Aside0 (wc.heap[gb352]? = some (.cells #[.int .i64 t346, .int .i64 t347, .int .i64 t348, (.slice Ao14 t349.length co14)] 26 (0, 0))) ∧ Aside0 (Below w.heap.size w wc))
  case first =>
    have H := HC5.out
    clear HC5
    replace H := Option.bind_eq_some_iff.mp H
    obtain ⟨⟨t353, t354, t355, t356⟩, A150, H⟩ := H
    replace H : ((laws_equalImage.f k t346 t347 t348 t349 t353 t354 t355 t356).bind fun t359 => (if t359 = true then (laws_FnTransposeImage.j0 k (t346 == 0) t339 t340 t341 t342 t346 t347 t348 t349) else (laws_FnTransposeImage.j0 k true t339 t340 t341 t342 t346 t347 t348 t349))) = some r := H
    have A15 := Aside0.mk A150
    clear A150
    replace H := Option.bind_eq_some_iff.mp H
    obtain ⟨t359, A160, H⟩ := H
    replace H : (if t359 = true then (laws_FnTransposeImage.j0 k (t346 == 0) t339 t340 t341 t342 t346 t347 t348 t349) else (laws_FnTransposeImage.j0 k true t339 t340 t341 t342 t346 t347 t348 t349)) = some r := H
    have A16 := Aside0.mk A160
    clear A160
    by_cases c17 : t359 = true
    · subst c17
      have H1 : (laws_FnTransposeImage.j0 k (t346 == 0) t339 t340 t341 t342 t346 t347 t348 t349) = some r := by rw [if_pos rfl] at H; exact H
      clear H
      have H := H1
      clear H1
      have H' := Aside0.mk H
      clear H
      try go_wp2
      have n0_ : Aside0 (Kd.Q (Kd.int .i64) 3 ((((w11.setCell ⟨gb352, 0, none⟩ (.int .i64 t346)).setCell ⟨gb352, 1, none⟩ (.int .i64 t347)).setCell ⟨gb352, 2, none⟩ (.int .i64 t348)).setCell ⟨gb352, 3, none⟩ (.slice Ao14 t349.length co14)) w.heap.size (fun k_ => some k_ ≠ (.slice Ao14 t349.length co14 : Value).ownBlock) (.slice Ao9 t342.length co9) t342) := ⟨by (with_reducible repeat (first | apply Kd.Q_alloc | apply Kd.Q_drewN | apply Kd.Q_drew)); exact Kd.Q_mono (Kd.Q_far (p := ⟨gb352, 3, none⟩) (Kd.Q_far (p := ⟨gb352, 2, none⟩) (Kd.Q_far (p := ⟨gb352, 1, none⟩) (Kd.Q_far (p := ⟨gb352, 0, none⟩) (Kd.Q_types HO344.out BK352.out (by decide)) (fun _ hk => hk.2) (.int .i64 t346)) (fun _ hk => hk.2) (.int .i64 t347)) (fun _ hk => hk.2) (.int .i64 t348)) (fun _ hk => hk.2) (.slice Ao14 t349.length co14)) (fun _ hk => hk.1.2)⟩
      have n1_ : Aside0 (Kd.R (Kd.int .i64) 3 ((((w11.setCell ⟨gb352, 0, none⟩ (.int .i64 t346)).setCell ⟨gb352, 1, none⟩ (.int .i64 t347)).setCell ⟨gb352, 2, none⟩ (.int .i64 t348)).setCell ⟨gb352, 3, none⟩ (.slice Ao14 t349.length co14)) w.heap.size (fun k_ => some k_ ≠ (.slice Ao9 t342.length co9 : Value).ownBlock) (.slice Ao14 t349.length co14) t349) := ⟨B.kr0 (Kd.R_mono (B.rf4 HO351 BK352) (fun _ hk => hk.1.2))⟩
      have n2_ : Aside0 (((((w11.setCell ⟨gb352, 0, none⟩ (.int .i64 t346)).setCell ⟨gb352, 1, none⟩ (.int .i64 t347)).setCell ⟨gb352, 2, none⟩ (.int .i64 t348)).setCell ⟨gb352, 3, none⟩ (.slice Ao14 t349.length co14)).heap[gb345]? = some (.cells #[.int .i64 t339, .int .i64 t340, .int .i64 t341, .slice Ao9 t342.length co9] 26 (0, 0))) := ⟨B.kb0 (B.bf4 BK345 NB345_352)⟩
      have n3_ : Aside0 (((((w11.setCell ⟨gb352, 0, none⟩ (.int .i64 t346)).setCell ⟨gb352, 1, none⟩ (.int .i64 t347)).setCell ⟨gb352, 2, none⟩ (.int .i64 t348)).setCell ⟨gb352, 3, none⟩ (.slice Ao14 t349.length co14)).heap[gb352]? = some (.cells #[.int .i64 t346, .int .i64 t347, .int .i64 t348, .slice Ao14 t349.length co14] 26 (0, 0))) := ⟨B.kb0 (B.bp4 BK352)⟩
      have n4_ : Aside0 (Below w.heap.size w ((((w11.setCell ⟨gb352, 0, none⟩ (.int .i64 t346)).setCell ⟨gb352, 1, none⟩ (.int .i64 t347)).setCell ⟨gb352, 2, none⟩ (.int .i64 t348)).setCell ⟨gb352, 3, none⟩ (.slice Ao14 t349.length co14))) := ⟨B.bl HB⟩
      (try clear HO344)
      (try clear HO351)
      (try clear BK345)
      (try clear BK352)
      (try clear HB)
      generalize ((((w11.setCell ⟨gb352, 0, none⟩ (.int .i64 t346)).setCell ⟨gb352, 1, none⟩ (.int .i64 t347)).setCell ⟨gb352, 2, none⟩ (.int .i64 t348)).setCell ⟨gb352, 3, none⟩ (.slice Ao14 t349.length co14)) = w18 at n0_ n1_ n2_ n3_ n4_ ⊢
      have HO344 := n0_
      have HO351 := n1_
      have BK345 := n2_
      have BK352 := n3_
      have HB := n4_
      clear n0_ n1_ n2_ n3_ n4_
      have n0_ := Aside0.mk (Kd.Q_drew HO344.out)
      have n1_ := Aside0.mk (Kd.R_drew HO351.out)
      have n2_ := Aside0.mk (blk_drew BK345.out)
      have n3_ := Aside0.mk (blk_drew BK352.out)
      have n4_ := Aside0.mk (below_drew1 HB.out)
      clear HO344 HO351 BK345 BK352 HB
      have HO344 := n0_
      have HO351 := n1_
      have BK345 := n2_
      have BK352 := n3_
      have HB := n4_
      clear n0_ n1_ n2_ n3_ n4_
      refine start_ (n := 10) (S := fun w' => w'.cell? ⟨gb352, 0, none⟩ = some (.int .i64 t346) ∧ w'.cell? ⟨gb352, 1, none⟩ = some (.int .i64 t347) ∧ w'.cell? ⟨gb352, 2, none⟩ = some (.int .i64 t348) ∧ w'.cell? ⟨gb352, 3, none⟩ = some (.slice Ao14 t349.length co14) ∧ w'.cell? ⟨gb345, 0, none⟩ = some (.int .i64 t339) ∧ w'.cell? ⟨gb345, 1, none⟩ = some (.int .i64 t340) ∧ w'.cell? ⟨gb345, 2, none⟩ = some (.int .i64 t341) ∧ w'.cell? ⟨gb345, 3, none⟩ = some (.slice Ao9 t342.length co9)) (ds := []) #[false, false, false, false, false, false, false, false, false, false] (by kernel_rfl) rfl rfl ⟨B.bc BK352 0, B.bc BK352 1, B.bc BK352 2, B.bc BK352 3, B.bc BK345 0, B.bc BK345 1, B.bc BK345 2, B.bc BK345 3⟩ (fun hHeld => ?_); refine with_tabW laws_FnTransposeImage.tab5 laws_FnTransposeImage.bits5 (fun HT_ HW_ => ?_)
      generalize w18.drew = w19 at HO344 HO351 BK345 BK352 HB hHeld ⊢
      refine take_ (i := 0) (N := some 12) (v := ?_) (a' := ?_) #[true, false, false, false, false, false, false, false, false, false] rfl rfl (take_ofW HT_.out HW_.out (by kernel_rfl)) (fun _ _ _ h => h) (Or.inl ⟨by rfl, ?_⟩) hHeld ?_ ?_
      rotate_left
      · rintro w' ⟨s0, s1, s2, s3, s4, s5, s6, s7⟩
        go_simp
        with_reducible rfl
      rotate_left
      · simp only [Act.put, List.setIfInBounds_toArray, List.set_cons_zero, List.set_cons_succ, i64_w, i32_w]
        rfl
      refine take_ (i := 1) (N := some 13) (v := ?_) (a' := ?_) #[true, true, false, false, false, false, false, false, false, false] rfl rfl (take_ofW HT_.out HW_.out (by kernel_rfl)) (fun _ _ _ h => h) (Or.inl ⟨by rfl, ?_⟩) hHeld ?_ ?_
      rotate_left
      · rintro w' ⟨s0, s1, s2, s3, s4, s5, s6, s7⟩
        go_simp
        with_reducible rfl
      rotate_left
      · simp only [Act.put, List.setIfInBounds_toArray, List.set_cons_zero, List.set_cons_succ, i64_w, i32_w]
        rfl
      refine one_ (i := 2) (N := some 14) #[true, true, true, false, false, false, false, false, false, false] rfl rfl (one_of HT_.out (by kernel_rfl)) (by decide) (fun K hK => ?_)
      refine goes_ Try.func13 (by kernel_rfl) rfl #[.agg #[.int .i64 t339, .int .i64 t340, .int .i64 t341, .slice Ao9 t342.length co9]] (by rfl) rfl rfl B.am ?_
      with_reducible refine (spec_TransposeImage.calls k t339 t340 t341 _ _ t342 t353 t354 t355 t356 _ ?side1 ?side2 A15.out).mono ?_
      (case side1 => exact B.kc ((Kd.Q_reads' HO344.out).2.2))
      (case side2 => exact (Kd.Q_reads' HO344.out).2.1)
      rintro e w20 ⟨v357, rfl, ho0, hb⟩
      refine ⟨_, rfl, ?_⟩
      have n0_ := Aside0.mk (Kd.Q_elder' (B.kq HO344) (Kd.R_base ho0) hb)
      have n1_ := Aside0.mk (Kd.R_elder' (B.kr HO351) (Kd.R_base ho0) hb)
      have n2_ := Aside0.mk (Kd.R_lower (Kd.R_new' (Kd.R_new' ho0 (Kd.Q_lt (B.kq HO344))) (Kd.R_lt (B.kr HO351))) (below_size (B.bl HB)))
      have n3_ := Aside0.mk (blk_below (B.kb BK345) hb)
      have n4_ := Aside0.mk (blk_below (B.kb BK352) hb)
      have n5_ := Aside0.mk (below_step (B.bl HB) hb)
      clear HO344 HO351 BK345 BK352 HB
      have HO344 := n0_
      have HO351 := n1_
      have HO358 := n2_
      have BK345 := n3_
      have BK352 := n4_
      have HB := n5_
      clear n0_ n1_ n2_ n3_ n4_ n5_
      (try clear hb)
      (try clear hb2)
      (try clear hk)
      (try clear hi)
      (try clear ho0)
      obtain ⟨Ao21, co21, eo21⟩ := Kd.R_slice HO358.out
      (first | subst eo21 | (injection eo21 with f1_ f2_ f3_; have f4_ := f1_.symm; have f5_ := f3_.symm; clear f1_ f2_ f3_; subst f4_; subst f5_))
      refine hK.out _ _ ⟨B.bc BK352 0, B.bc BK352 1, B.bc BK352 2, B.bc BK352 3, B.bc BK345 0, B.bc BK345 1, B.bc BK345 2, B.bc BK345 3⟩ (fun hHeld => ?_)
      clear hK K
      refine norm_ (a' := ?_) ?_ ?_
      rotate_left
      · show Act.put _ (some 14) _ = _
        simp only [Act.put, List.setIfInBounds_toArray, List.set_cons_zero, List.set_cons_succ, i64_w, i32_w]
        rfl
      refine one_ (i := 3) (N := some 15) #[true, true, true, true, false, false, false, false, false, false] rfl rfl (one_of HT_.out (by kernel_rfl)) (by decide) (fun K hK => ?_)
      refine goes_ Try.func20 (by kernel_rfl) rfl #[.agg #[.int .i64 t346, .int .i64 t347, .int .i64 t348, .slice Ao14 t349.length co14], .agg #[.int .i64 t353, .int .i64 t354, .int .i64 t355, .slice Ao21 t356.length co21]] (by rfl) rfl rfl B.am ?_
      with_reducible refine (laws_equalImage.calls k t346 t347 t348 _ _ t349 t353 t354 t355 _ _ t356 true _ ?side1 ?side2 ?side3 ?side4 A16.out).mono ?_
      (case side1 => exact B.kc ((Kd.R_reads' HO351.out).2.2))
      (case side2 => exact (Kd.R_reads' HO351.out).2.1)
      (case side3 => exact B.kc ((Kd.R_reads' HO358.out).2.2))
      (case side4 => exact (Kd.R_reads' HO358.out).2.1)
      rintro e w22 ⟨rfl, hb⟩
      refine ⟨_, rfl, ?_⟩
      have n0_ := Aside0.mk (Kd.Q_below (B.kq HO344) hb)
      have n1_ := Aside0.mk (Kd.R_below (B.kr HO351) hb)
      have n2_ := Aside0.mk (Kd.R_below (B.kr HO358) hb)
      have n3_ := Aside0.mk (blk_below (B.kb BK345) hb)
      have n4_ := Aside0.mk (blk_below (B.kb BK352) hb)
      have n5_ := Aside0.mk (below_step (B.bl HB) hb)
      clear HO344 HO351 HO358 BK345 BK352 HB
      have HO344 := n0_
      have HO351 := n1_
      have HO358 := n2_
      have BK345 := n3_
      have BK352 := n4_
      have HB := n5_
      clear n0_ n1_ n2_ n3_ n4_ n5_
      (try clear hb)
      (try clear hb2)
      (try clear hk)
      (try clear hi)
      refine hK.out _ _ ⟨B.bc BK352 0, B.bc BK352 1, B.bc BK352 2, B.bc BK352 3, B.bc BK345 0, B.bc BK345 1, B.bc BK345 2, B.bc BK345 3⟩ (fun hHeld => ?_)
      clear hK K
      refine norm_ (a' := ?_) ?_ ?_
      rotate_left
      · show Act.put _ (some 15) _ = _
        simp only [Act.put, List.setIfInBounds_toArray, List.set_cons_zero, List.set_cons_succ, i64_w, i32_w]
        rfl
      refine pure_ (i := 4) (N := some 16) (v := ?_) (a' := ?_) #[true, true, true, true, true, false, false, false, false, false] rfl rfl (any_of HT_.out (by kernel_rfl)) (fun _ _ _ h => h) (Or.inl ⟨by rfl, ?_⟩) ?_ ?_
      rotate_left
      · intro w'
        go_simp
        with_reducible rfl
      rotate_left
      · simp only [Act.put, List.setIfInBounds_toArray, List.set_cons_zero, List.set_cons_succ, i64_w, i32_w]
        rfl
      refine pure_ (i := 5) (N := some 17) (v := ?_) (a' := ?_) #[true, true, true, true, true, true, false, false, false, false] rfl rfl (any_of HT_.out (by kernel_rfl)) (fun _ _ _ h => h) (Or.inl ⟨by rfl, ?_⟩) ?_ ?_
      rotate_left
      · intro w'
        go_simp
        with_reducible rfl
      rotate_left
      · simp only [Act.put, List.setIfInBounds_toArray, List.set_cons_zero, List.set_cons_succ, i64_w, i32_w]
        rfl
      refine pure_ (i := 6) (N := some 18) (v := ?_) (a' := ?_) #[true, true, true, true, true, true, true, false, false, false] rfl rfl (any_of HT_.out (by kernel_rfl)) (fun _ _ _ h => h) (Or.inl ⟨by rfl, ?_⟩) ?_ ?_
      rotate_left
      · intro w'
        go_simp
        with_reducible rfl
      rotate_left
      · simp only [Act.put, List.setIfInBounds_toArray, List.set_cons_zero, List.set_cons_succ, i64_w, i32_w]
        rfl
      refine take_ (i := 7) (N := some 19) (v := ?_) (a' := ?_) #[true, true, true, true, true, true, true, true, false, false] rfl rfl (take_ofW HT_.out HW_.out (by kernel_rfl)) (fun _ _ _ h => h) (Or.inl ⟨by rfl, ?_⟩) hHeld ?_ ?_
      rotate_left
      · rintro w' ⟨s0, s1, s2, s3, s4, s5, s6, s7⟩
        go_simp
        with_reducible rfl
      rotate_left
      · simp only [Act.put, List.setIfInBounds_toArray, List.set_cons_zero, List.set_cons_succ, i64_w, i32_w]
        rfl
      refine pure_ (i := 8) (N := some 20) (v := ?_) (a' := ?_) #[true, true, true, true, true, true, true, true, true, false] rfl rfl (any_of HT_.out (by kernel_rfl)) (fun _ _ _ h => h) (Or.inl ⟨by rfl, ?_⟩) ?_ ?_
      rotate_left
      · intro w'
        go_simp
        with_reducible rfl
      rotate_left
      · simp only [Act.put, List.setIfInBounds_toArray, List.set_cons_zero, List.set_cons_succ, i64_w, i32_w]
        rfl
      refine pure_ (i := 9) (N := some 21) (v := ?_) (a' := ?_) #[true, true, true, true, true, true, true, true, true, true] rfl rfl (any_of HT_.out (by kernel_rfl)) (fun _ _ _ h => h) (Or.inl ⟨by rfl, ?_⟩) ?_ ?_
      rotate_left
      · intro w'
        go_simp
        with_reducible rfl
      rotate_left
      · simp only [Act.put, List.setIfInBounds_toArray, List.set_cons_zero, List.set_cons_succ, i64_w, i32_w]
        rfl
      refine done_ (done_of HT_.out (by kernel_rfl)) ?_
      try go_wp2
      go_meet
      case rel => exact ⟨_, ((t346 == 0)), (by first | rfl | (simp; done) | (simp [*]; done)), H', ⟨by first | omega | exact Nat.le_refl _⟩, ⟨by (with_reducible repeat (first | apply Kd.Q_alloc | apply Kd.Q_drewN | apply Kd.Q_drew)); exact Kd.Q_mono HO344.out (fun _ hk => hk.1)⟩, ⟨Kd.Q_of_R (B.kr0 (Kd.R_mono HO351.out (fun _ hk => hk.1)))⟩, ⟨B.kb BK345⟩, ⟨B.kb BK352⟩, ⟨B.bl HB⟩⟩
    replace c17 := Bool.eq_false_iff.mpr c17
    subst c17
    have H1 : (laws_FnTransposeImage.j0 k true t339 t340 t341 t342 t346 t347 t348 t349) = some r := by rw [if_neg (show ¬ (false = true) by decide)] at H; exact H
    clear H
    have H := H1
    clear H1
    have H' := Aside0.mk H
    clear H
    try go_wp2
    have n0_ : Aside0 (Kd.Q (Kd.int .i64) 3 ((((w11.setCell ⟨gb352, 0, none⟩ (.int .i64 t346)).setCell ⟨gb352, 1, none⟩ (.int .i64 t347)).setCell ⟨gb352, 2, none⟩ (.int .i64 t348)).setCell ⟨gb352, 3, none⟩ (.slice Ao14 t349.length co14)) w.heap.size (fun k_ => some k_ ≠ (.slice Ao14 t349.length co14 : Value).ownBlock) (.slice Ao9 t342.length co9) t342) := ⟨by (with_reducible repeat (first | apply Kd.Q_alloc | apply Kd.Q_drewN | apply Kd.Q_drew)); exact Kd.Q_mono (Kd.Q_far (p := ⟨gb352, 3, none⟩) (Kd.Q_far (p := ⟨gb352, 2, none⟩) (Kd.Q_far (p := ⟨gb352, 1, none⟩) (Kd.Q_far (p := ⟨gb352, 0, none⟩) (Kd.Q_types HO344.out BK352.out (by decide)) (fun _ hk => hk.2) (.int .i64 t346)) (fun _ hk => hk.2) (.int .i64 t347)) (fun _ hk => hk.2) (.int .i64 t348)) (fun _ hk => hk.2) (.slice Ao14 t349.length co14)) (fun _ hk => hk.1.2)⟩
    have n1_ : Aside0 (Kd.R (Kd.int .i64) 3 ((((w11.setCell ⟨gb352, 0, none⟩ (.int .i64 t346)).setCell ⟨gb352, 1, none⟩ (.int .i64 t347)).setCell ⟨gb352, 2, none⟩ (.int .i64 t348)).setCell ⟨gb352, 3, none⟩ (.slice Ao14 t349.length co14)) w.heap.size (fun k_ => some k_ ≠ (.slice Ao9 t342.length co9 : Value).ownBlock) (.slice Ao14 t349.length co14) t349) := ⟨B.kr0 (Kd.R_mono (B.rf4 HO351 BK352) (fun _ hk => hk.1.2))⟩
    have n2_ : Aside0 (((((w11.setCell ⟨gb352, 0, none⟩ (.int .i64 t346)).setCell ⟨gb352, 1, none⟩ (.int .i64 t347)).setCell ⟨gb352, 2, none⟩ (.int .i64 t348)).setCell ⟨gb352, 3, none⟩ (.slice Ao14 t349.length co14)).heap[gb345]? = some (.cells #[.int .i64 t339, .int .i64 t340, .int .i64 t341, .slice Ao9 t342.length co9] 26 (0, 0))) := ⟨B.kb0 (B.bf4 BK345 NB345_352)⟩
    have n3_ : Aside0 (((((w11.setCell ⟨gb352, 0, none⟩ (.int .i64 t346)).setCell ⟨gb352, 1, none⟩ (.int .i64 t347)).setCell ⟨gb352, 2, none⟩ (.int .i64 t348)).setCell ⟨gb352, 3, none⟩ (.slice Ao14 t349.length co14)).heap[gb352]? = some (.cells #[.int .i64 t346, .int .i64 t347, .int .i64 t348, .slice Ao14 t349.length co14] 26 (0, 0))) := ⟨B.kb0 (B.bp4 BK352)⟩
    have n4_ : Aside0 (Below w.heap.size w ((((w11.setCell ⟨gb352, 0, none⟩ (.int .i64 t346)).setCell ⟨gb352, 1, none⟩ (.int .i64 t347)).setCell ⟨gb352, 2, none⟩ (.int .i64 t348)).setCell ⟨gb352, 3, none⟩ (.slice Ao14 t349.length co14))) := ⟨B.bl HB⟩
    (try clear HO344)
    (try clear HO351)
    (try clear BK345)
    (try clear BK352)
    (try clear HB)
    generalize ((((w11.setCell ⟨gb352, 0, none⟩ (.int .i64 t346)).setCell ⟨gb352, 1, none⟩ (.int .i64 t347)).setCell ⟨gb352, 2, none⟩ (.int .i64 t348)).setCell ⟨gb352, 3, none⟩ (.slice Ao14 t349.length co14)) = w23 at n0_ n1_ n2_ n3_ n4_ ⊢
    have HO344 := n0_
    have HO351 := n1_
    have BK345 := n2_
    have BK352 := n3_
    have HB := n4_
    clear n0_ n1_ n2_ n3_ n4_
    have n0_ := Aside0.mk (Kd.Q_drew HO344.out)
    have n1_ := Aside0.mk (Kd.R_drew HO351.out)
    have n2_ := Aside0.mk (blk_drew BK345.out)
    have n3_ := Aside0.mk (blk_drew BK352.out)
    have n4_ := Aside0.mk (below_drew1 HB.out)
    clear HO344 HO351 BK345 BK352 HB
    have HO344 := n0_
    have HO351 := n1_
    have BK345 := n2_
    have BK352 := n3_
    have HB := n4_
    clear n0_ n1_ n2_ n3_ n4_
    refine start_ (n := 10) (S := fun w' => w'.cell? ⟨gb352, 0, none⟩ = some (.int .i64 t346) ∧ w'.cell? ⟨gb352, 1, none⟩ = some (.int .i64 t347) ∧ w'.cell? ⟨gb352, 2, none⟩ = some (.int .i64 t348) ∧ w'.cell? ⟨gb352, 3, none⟩ = some (.slice Ao14 t349.length co14) ∧ w'.cell? ⟨gb345, 0, none⟩ = some (.int .i64 t339) ∧ w'.cell? ⟨gb345, 1, none⟩ = some (.int .i64 t340) ∧ w'.cell? ⟨gb345, 2, none⟩ = some (.int .i64 t341) ∧ w'.cell? ⟨gb345, 3, none⟩ = some (.slice Ao9 t342.length co9)) (ds := []) #[false, false, false, false, false, false, false, false, false, false] (by kernel_rfl) rfl rfl ⟨B.bc BK352 0, B.bc BK352 1, B.bc BK352 2, B.bc BK352 3, B.bc BK345 0, B.bc BK345 1, B.bc BK345 2, B.bc BK345 3⟩ (fun hHeld => ?_); refine with_tabW laws_FnTransposeImage.tab5 laws_FnTransposeImage.bits5 (fun HT_ HW_ => ?_)
    generalize w23.drew = w24 at HO344 HO351 BK345 BK352 HB hHeld ⊢
    refine take_ (i := 0) (N := some 12) (v := ?_) (a' := ?_) #[true, false, false, false, false, false, false, false, false, false] rfl rfl (take_ofW HT_.out HW_.out (by kernel_rfl)) (fun _ _ _ h => h) (Or.inl ⟨by rfl, ?_⟩) hHeld ?_ ?_
    rotate_left
    · rintro w' ⟨s0, s1, s2, s3, s4, s5, s6, s7⟩
      go_simp
      with_reducible rfl
    rotate_left
    · simp only [Act.put, List.setIfInBounds_toArray, List.set_cons_zero, List.set_cons_succ, i64_w, i32_w]
      rfl
    refine take_ (i := 1) (N := some 13) (v := ?_) (a' := ?_) #[true, true, false, false, false, false, false, false, false, false] rfl rfl (take_ofW HT_.out HW_.out (by kernel_rfl)) (fun _ _ _ h => h) (Or.inl ⟨by rfl, ?_⟩) hHeld ?_ ?_
    rotate_left
    · rintro w' ⟨s0, s1, s2, s3, s4, s5, s6, s7⟩
      go_simp
      with_reducible rfl
    rotate_left
    · simp only [Act.put, List.setIfInBounds_toArray, List.set_cons_zero, List.set_cons_succ, i64_w, i32_w]
      rfl
    refine one_ (i := 2) (N := some 14) #[true, true, true, false, false, false, false, false, false, false] rfl rfl (one_of HT_.out (by kernel_rfl)) (by decide) (fun K hK => ?_)
    refine goes_ Try.func13 (by kernel_rfl) rfl #[.agg #[.int .i64 t339, .int .i64 t340, .int .i64 t341, .slice Ao9 t342.length co9]] (by rfl) rfl rfl B.am ?_
    with_reducible refine (spec_TransposeImage.calls k t339 t340 t341 _ _ t342 t353 t354 t355 t356 _ ?side1 ?side2 A15.out).mono ?_
    (case side1 => exact B.kc ((Kd.Q_reads' HO344.out).2.2))
    (case side2 => exact (Kd.Q_reads' HO344.out).2.1)
    rintro e w25 ⟨v357, rfl, ho0, hb⟩
    refine ⟨_, rfl, ?_⟩
    have n0_ := Aside0.mk (Kd.Q_elder' (B.kq HO344) (Kd.R_base ho0) hb)
    have n1_ := Aside0.mk (Kd.R_elder' (B.kr HO351) (Kd.R_base ho0) hb)
    have n2_ := Aside0.mk (Kd.R_lower (Kd.R_new' (Kd.R_new' ho0 (Kd.Q_lt (B.kq HO344))) (Kd.R_lt (B.kr HO351))) (below_size (B.bl HB)))
    have n3_ := Aside0.mk (blk_below (B.kb BK345) hb)
    have n4_ := Aside0.mk (blk_below (B.kb BK352) hb)
    have n5_ := Aside0.mk (below_step (B.bl HB) hb)
    clear HO344 HO351 BK345 BK352 HB
    have HO344 := n0_
    have HO351 := n1_
    have HO358 := n2_
    have BK345 := n3_
    have BK352 := n4_
    have HB := n5_
    clear n0_ n1_ n2_ n3_ n4_ n5_
    (try clear hb)
    (try clear hb2)
    (try clear hk)
    (try clear hi)
    (try clear ho0)
    obtain ⟨Ao26, co26, eo26⟩ := Kd.R_slice HO358.out
    (first | subst eo26 | (injection eo26 with f1_ f2_ f3_; have f4_ := f1_.symm; have f5_ := f3_.symm; clear f1_ f2_ f3_; subst f4_; subst f5_))
    refine hK.out _ _ ⟨B.bc BK352 0, B.bc BK352 1, B.bc BK352 2, B.bc BK352 3, B.bc BK345 0, B.bc BK345 1, B.bc BK345 2, B.bc BK345 3⟩ (fun hHeld => ?_)
    clear hK K
    refine norm_ (a' := ?_) ?_ ?_
    rotate_left
    · show Act.put _ (some 14) _ = _
      simp only [Act.put, List.setIfInBounds_toArray, List.set_cons_zero, List.set_cons_succ, i64_w, i32_w]
      rfl
    refine one_ (i := 3) (N := some 15) #[true, true, true, true, false, false, false, false, false, false] rfl rfl (one_of HT_.out (by kernel_rfl)) (by decide) (fun K hK => ?_)
    refine goes_ Try.func20 (by kernel_rfl) rfl #[.agg #[.int .i64 t346, .int .i64 t347, .int .i64 t348, .slice Ao14 t349.length co14], .agg #[.int .i64 t353, .int .i64 t354, .int .i64 t355, .slice Ao26 t356.length co26]] (by rfl) rfl rfl B.am ?_
    with_reducible refine (laws_equalImage.calls k t346 t347 t348 _ _ t349 t353 t354 t355 _ _ t356 false _ ?side1 ?side2 ?side3 ?side4 A16.out).mono ?_
    (case side1 => exact B.kc ((Kd.R_reads' HO351.out).2.2))
    (case side2 => exact (Kd.R_reads' HO351.out).2.1)
    (case side3 => exact B.kc ((Kd.R_reads' HO358.out).2.2))
    (case side4 => exact (Kd.R_reads' HO358.out).2.1)
    rintro e w27 ⟨rfl, hb⟩
    refine ⟨_, rfl, ?_⟩
    have n0_ := Aside0.mk (Kd.Q_below (B.kq HO344) hb)
    have n1_ := Aside0.mk (Kd.R_below (B.kr HO351) hb)
    have n2_ := Aside0.mk (Kd.R_below (B.kr HO358) hb)
    have n3_ := Aside0.mk (blk_below (B.kb BK345) hb)
    have n4_ := Aside0.mk (blk_below (B.kb BK352) hb)
    have n5_ := Aside0.mk (below_step (B.bl HB) hb)
    clear HO344 HO351 HO358 BK345 BK352 HB
    have HO344 := n0_
    have HO351 := n1_
    have HO358 := n2_
    have BK345 := n3_
    have BK352 := n4_
    have HB := n5_
    clear n0_ n1_ n2_ n3_ n4_ n5_
    (try clear hb)
    (try clear hb2)
    (try clear hk)
    (try clear hi)
    refine hK.out _ _ ⟨B.bc BK352 0, B.bc BK352 1, B.bc BK352 2, B.bc BK352 3, B.bc BK345 0, B.bc BK345 1, B.bc BK345 2, B.bc BK345 3⟩ (fun hHeld => ?_)
    clear hK K
    refine norm_ (a' := ?_) ?_ ?_
    rotate_left
    · show Act.put _ (some 15) _ = _
      simp only [Act.put, List.setIfInBounds_toArray, List.set_cons_zero, List.set_cons_succ, i64_w, i32_w]
      rfl
    refine pure_ (i := 4) (N := some 16) (v := ?_) (a' := ?_) #[true, true, true, true, true, false, false, false, false, false] rfl rfl (any_of HT_.out (by kernel_rfl)) (fun _ _ _ h => h) (Or.inl ⟨by rfl, ?_⟩) ?_ ?_
    rotate_left
    · intro w'
      go_simp
      with_reducible rfl
    rotate_left
    · simp only [Act.put, List.setIfInBounds_toArray, List.set_cons_zero, List.set_cons_succ, i64_w, i32_w]
      rfl
    refine pure_ (i := 5) (N := some 17) (v := ?_) (a' := ?_) #[true, true, true, true, true, true, false, false, false, false] rfl rfl (any_of HT_.out (by kernel_rfl)) (fun _ _ _ h => h) (Or.inl ⟨by rfl, ?_⟩) ?_ ?_
    rotate_left
    · intro w'
      go_simp
      with_reducible rfl
    rotate_left
    · simp only [Act.put, List.setIfInBounds_toArray, List.set_cons_zero, List.set_cons_succ, i64_w, i32_w]
      rfl
    refine pure_ (i := 6) (N := some 18) (v := undef) (a' := ?_) #[true, true, true, true, true, true, true, false, false, false] rfl rfl (any_of HT_.out (by kernel_rfl)) (fun _ _ _ h => h) (Or.inr ⟨by rfl, rfl⟩) ?_ ?_
    rotate_left
    · simp only [Act.put, List.setIfInBounds_toArray, List.set_cons_zero, List.set_cons_succ, i64_w, i32_w]
      rfl
    refine pure_ (i := 7) (N := some 19) (v := undef) (a' := ?_) #[true, true, true, true, true, true, true, true, false, false] rfl rfl (any_of HT_.out (by kernel_rfl)) (fun _ _ _ h => h) (Or.inr ⟨by rfl, rfl⟩) ?_ ?_
    rotate_left
    · simp only [Act.put, List.setIfInBounds_toArray, List.set_cons_zero, List.set_cons_succ, i64_w, i32_w]
      rfl
    refine pure_ (i := 8) (N := some 20) (v := undef) (a' := ?_) #[true, true, true, true, true, true, true, true, true, false] rfl rfl (any_of HT_.out (by kernel_rfl)) (fun _ _ _ h => h) (Or.inr ⟨by rfl, rfl⟩) ?_ ?_
    rotate_left
    · simp only [Act.put, List.setIfInBounds_toArray, List.set_cons_zero, List.set_cons_succ, i64_w, i32_w]
      rfl
    refine pure_ (i := 9) (N := some 21) (v := ?_) (a' := ?_) #[true, true, true, true, true, true, true, true, true, true] rfl rfl (any_of HT_.out (by kernel_rfl)) (fun _ _ _ h => h) (Or.inl ⟨by rfl, ?_⟩) ?_ ?_
    rotate_left
    · intro w'
      go_simp
      with_reducible rfl
    rotate_left
    · simp only [Act.put, List.setIfInBounds_toArray, List.set_cons_zero, List.set_cons_succ, i64_w, i32_w]
      rfl
    refine done_ (done_of HT_.out (by kernel_rfl)) ?_
    try go_wp2
    go_meet
    case rel => exact ⟨_, (true), (by first | rfl | (simp; done) | (simp [*]; done)), H', ⟨by first | omega | exact Nat.le_refl _⟩, ⟨by (with_reducible repeat (first | apply Kd.Q_alloc | apply Kd.Q_drewN | apply Kd.Q_drew)); exact Kd.Q_mono HO344.out (fun _ hk => hk.1)⟩, ⟨Kd.Q_of_R (B.kr0 (Kd.R_mono HO351.out (fun _ hk => hk.1)))⟩, ⟨B.kb BK345⟩, ⟨B.kb BK352⟩, ⟨B.bl HB⟩⟩
  case rest =>
    clear HC5
    try clear c1
    try clear c2
    try clear c2b0
    try clear c2b1
    try clear p2
    try clear c4
    try clear c12
    try clear c13
    try clear c15
    try clear c17
    try clear c19
    try clear c20
    try clear hcz13_0
    try clear hcz13_1
    try clear hcz13_2
    try clear hcz13_3
    try clear hcz8_0
    try clear hcz8_1
    try clear hcz8_2
    try clear hcz8_3
    try clear hfz13_0
    try clear hfz13_1
    try clear hfz13_2
    try clear hfz13_3
    try clear hfz8_0
    try clear hfz8_1
    try clear hfz8_2
    try clear hfz8_3
    obtain ⟨kq, x21_4, rfl, HA, HJ4, HO_346003, HO_353003, BK345, BK352, HB⟩ := hcut
    cases kq with
    | zero => exact absurd HA.out (by simp [laws_FnTransposeImage.j0])
    | succ kj4 =>
      have H := HA.out
      clear HA
      simp only [laws_FnTransposeImage.j0] at H
      by_cases c28 : x21_4 = true
      · subst c28
        have H1 : ((spec_TransposeImage.f kj4 t339 t340 t341 t342).bind fun bt360 => ((laws_equalImage.f kj4 t346 t347 t348 t349 bt360.1 bt360.2.1 bt360.2.2.1 bt360.2.2.2).bind fun t366 => (some t366))) = some r := by rw [if_pos rfl] at H; exact H
        clear H
        have H := H1
        clear H1
        replace H := Option.bind_eq_some_iff.mp H
        obtain ⟨⟨t360, t361, t362, t363⟩, A290, H⟩ := H
        replace H : ((laws_equalImage.f kj4 t346 t347 t348 t349 t360 t361 t362 t363).bind fun t366 => (some t366)) = some r := H
        have A29 := Aside0.mk A290
        clear A290
        replace H := Option.bind_eq_some_iff.mp H
        obtain ⟨t366, A300, H⟩ := H
        replace H : (some t366) = some r := H
        have A30 := Aside0.mk A300
        clear A300
        obtain rfl := Option.some.inj H
        simp only [Option.some.injEq, Prod.mk.injEq] at H
        obtain ⟨rfl⟩ := H
        try go_wp2
        have n0_ := Aside0.mk (Kd.Q_drew HO_346003.out)
        have n1_ := Aside0.mk (Kd.Q_drew HO_353003.out)
        have n2_ := Aside0.mk (blk_drew BK345.out)
        have n3_ := Aside0.mk (blk_drew BK352.out)
        have n4_ := Aside0.mk (below_drew1 HB.out)
        clear HO_346003 HO_353003 BK345 BK352 HB
        have HO_346003 := n0_
        have HO_353003 := n1_
        have BK345 := n2_
        have BK352 := n3_
        have HB := n4_
        clear n0_ n1_ n2_ n3_ n4_
        refine start_ (n := 5) (S := fun w' => w'.cell? ⟨gb352, 0, none⟩ = some (.int .i64 t346) ∧ w'.cell? ⟨gb352, 1, none⟩ = some (.int .i64 t347) ∧ w'.cell? ⟨gb352, 2, none⟩ = some (.int .i64 t348) ∧ w'.cell? ⟨gb352, 3, none⟩ = some (.slice Ao14 t349.length co14) ∧ w'.cell? ⟨gb345, 0, none⟩ = some (.int .i64 t339) ∧ w'.cell? ⟨gb345, 1, none⟩ = some (.int .i64 t340) ∧ w'.cell? ⟨gb345, 2, none⟩ = some (.int .i64 t341) ∧ w'.cell? ⟨gb345, 3, none⟩ = some (.slice Ao9 t342.length co9)) (ds := []) #[false, false, false, false, false] (by kernel_rfl) rfl rfl ⟨B.bc BK352 0, B.bc BK352 1, B.bc BK352 2, B.bc BK352 3, B.bc BK345 0, B.bc BK345 1, B.bc BK345 2, B.bc BK345 3⟩ (fun hHeld => ?_)
        generalize wc.drew = w31 at HO_346003 HO_353003 BK345 BK352 HB hHeld ⊢
        refine take_ (i := 0) (N := some 22) (v := ?_) (a' := ?_) #[true, false, false, false, false] rfl rfl (by kernel_rfl) (fun _ _ _ h => h) (Or.inl ⟨by rfl, ?_⟩) hHeld ?_ ?_
        rotate_left
        · rintro w' ⟨s0, s1, s2, s3, s4, s5, s6, s7⟩
          go_simp
          with_reducible rfl
        rotate_left
        · simp only [Act.put, List.setIfInBounds_toArray, List.set_cons_zero, List.set_cons_succ, i64_w, i32_w]
          rfl
        refine take_ (i := 1) (N := some 23) (v := ?_) (a' := ?_) #[true, true, false, false, false] rfl rfl (by kernel_rfl) (fun _ _ _ h => h) (Or.inl ⟨by rfl, ?_⟩) hHeld ?_ ?_
        rotate_left
        · rintro w' ⟨s0, s1, s2, s3, s4, s5, s6, s7⟩
          go_simp
          with_reducible rfl
        rotate_left
        · simp only [Act.put, List.setIfInBounds_toArray, List.set_cons_zero, List.set_cons_succ, i64_w, i32_w]
          rfl
        refine one_ (i := 2) (N := some 24) #[true, true, true, false, false] rfl rfl (by kernel_rfl) (by decide) (fun K hK => ?_)
        refine goes_ Try.func13 (by kernel_rfl) rfl #[.agg #[.int .i64 t339, .int .i64 t340, .int .i64 t341, .slice Ao9 t342.length co9]] (by rfl) rfl rfl B.am ?_
        with_reducible refine (spec_TransposeImage.calls kj4 t339 t340 t341 _ _ t342 t360 t361 t362 t363 _ ?side1 ?side2 A29.out).mono ?_
        (case side1 => exact B.kc ((Kd.Q_reads' HO_346003.out).2.2))
        (case side2 => exact (Kd.Q_reads' HO_346003.out).2.1)
        rintro e w32 ⟨v364, rfl, ho0, hb⟩
        refine ⟨_, rfl, ?_⟩
        have n0_ := Aside0.mk (Kd.Q_elder' (B.kq HO_346003) (Kd.R_base ho0) hb)
        have n1_ := Aside0.mk (Kd.Q_elder' (B.kq HO_353003) (Kd.R_base ho0) hb)
        have n2_ := Aside0.mk (Kd.R_lower (Kd.R_new' (Kd.R_new' ho0 (Kd.Q_lt (B.kq HO_346003))) (Kd.Q_lt (B.kq HO_353003))) (below_size (B.bl HB)))
        have n3_ := Aside0.mk (blk_below (B.kb BK345) hb)
        have n4_ := Aside0.mk (blk_below (B.kb BK352) hb)
        have n5_ := Aside0.mk (below_step (B.bl HB) hb)
        clear HO_346003 HO_353003 BK345 BK352 HB
        have HO_346003 := n0_
        have HO_353003 := n1_
        have HO365 := n2_
        have BK345 := n3_
        have BK352 := n4_
        have HB := n5_
        clear n0_ n1_ n2_ n3_ n4_ n5_
        (try clear hb)
        (try clear hb2)
        (try clear hk)
        (try clear hi)
        (try clear ho0)
        obtain ⟨Ao33, co33, eo33⟩ := Kd.R_slice HO365.out
        (first | subst eo33 | (injection eo33 with f1_ f2_ f3_; have f4_ := f1_.symm; have f5_ := f3_.symm; clear f1_ f2_ f3_; subst f4_; subst f5_))
        refine hK.out _ _ ⟨B.bc BK352 0, B.bc BK352 1, B.bc BK352 2, B.bc BK352 3, B.bc BK345 0, B.bc BK345 1, B.bc BK345 2, B.bc BK345 3⟩ (fun hHeld => ?_)
        clear hK K
        refine norm_ (a' := ?_) ?_ ?_
        rotate_left
        · show Act.put _ (some 24) _ = _
          simp only [Act.put, List.setIfInBounds_toArray, List.set_cons_zero, List.set_cons_succ, i64_w, i32_w]
          rfl
        refine one_ (i := 3) (N := some 25) #[true, true, true, true, false] rfl rfl (by kernel_rfl) (by decide) (fun K hK => ?_)
        refine goes_ Try.func20 (by kernel_rfl) rfl #[.agg #[.int .i64 t346, .int .i64 t347, .int .i64 t348, .slice Ao14 t349.length co14], .agg #[.int .i64 t360, .int .i64 t361, .int .i64 t362, .slice Ao33 t363.length co33]] (by rfl) rfl rfl B.am ?_
        with_reducible refine (laws_equalImage.calls kj4 t346 t347 t348 _ _ t349 t360 t361 t362 _ _ t363 t366 _ ?side1 ?side2 ?side3 ?side4 A30.out).mono ?_
        (case side1 => exact B.kc ((Kd.Q_reads' HO_353003.out).2.2))
        (case side2 => exact (Kd.Q_reads' HO_353003.out).2.1)
        (case side3 => exact B.kc ((Kd.R_reads' HO365.out).2.2))
        (case side4 => exact (Kd.R_reads' HO365.out).2.1)
        rintro e w34 ⟨rfl, hb⟩
        refine ⟨_, rfl, ?_⟩
        have n0_ := Aside0.mk (Kd.Q_below (B.kq HO_346003) hb)
        have n1_ := Aside0.mk (Kd.Q_below (B.kq HO_353003) hb)
        have n2_ := Aside0.mk (Kd.R_below (B.kr HO365) hb)
        have n3_ := Aside0.mk (blk_below (B.kb BK345) hb)
        have n4_ := Aside0.mk (blk_below (B.kb BK352) hb)
        have n5_ := Aside0.mk (below_step (B.bl HB) hb)
        clear HO_346003 HO_353003 HO365 BK345 BK352 HB
        have HO_346003 := n0_
        have HO_353003 := n1_
        have HO365 := n2_
        have BK345 := n3_
        have BK352 := n4_
        have HB := n5_
        clear n0_ n1_ n2_ n3_ n4_ n5_
        (try clear hb)
        (try clear hb2)
        (try clear hk)
        (try clear hi)
        refine hK.out _ _ ⟨B.bc BK352 0, B.bc BK352 1, B.bc BK352 2, B.bc BK352 3, B.bc BK345 0, B.bc BK345 1, B.bc BK345 2, B.bc BK345 3⟩ (fun hHeld => ?_)
        clear hK K
        refine norm_ (a' := ?_) ?_ ?_
        rotate_left
        · show Act.put _ (some 25) _ = _
          simp only [Act.put, List.setIfInBounds_toArray, List.set_cons_zero, List.set_cons_succ, i64_w, i32_w]
          rfl
        refine pure_ (i := 4) (N := some 2) (v := ?_) (a' := ?_) #[true, true, true, true, true] rfl rfl (by kernel_rfl) (fun _ _ _ h => h) (Or.inl ⟨by rfl, ?_⟩) ?_ ?_
        rotate_left
        · intro w'
          go_simp
          with_reducible rfl
        rotate_left
        · simp only [Act.put, List.setIfInBounds_toArray, List.set_cons_zero, List.set_cons_succ, i64_w, i32_w]
          rfl
        refine done_ (by kernel_rfl) ?_
        try go_wp2
        go_ret
        exact ⟨by first | rfl | (simp [errW_none, errW_some] <;> rfl) | (simp [*, errW_none, errW_some] <;> rfl), B.bl HB⟩
      replace c28 := Bool.eq_false_iff.mpr c28
      subst c28
      have H1 : ((impl_TransposeImage.f t346 t347 t348 t349).bind fun bt367 => ((laws_equalImage.f kj4 bt367.1 bt367.2.1 bt367.2.2.1 bt367.2.2.2 t339 t340 t341 t342).bind fun t373 => (if t373 = true then ((impl_TurnImage.f t339 t340 t341 t342 1).bind fun bt374 => ((impl_MirrorImage.f bt374.1 bt374.2.1 bt374.2.2.1 bt374.2.2.2).bind fun bt380 => ((laws_equalImage.f kj4 bt380.1 bt380.2.1 bt380.2.2.1 bt380.2.2.2 t346 t347 t348 t349).bind fun t386 => (some t386)))) else (some false)))) = some r := by rw [if_neg (show ¬ (false = true) by decide)] at H; exact H
      clear H
      have H := H1
      clear H1
      replace H := Option.bind_eq_some_iff.mp H
      obtain ⟨⟨t367, t368, t369, t370⟩, A350, H⟩ := H
      replace H : ((laws_equalImage.f kj4 t367 t368 t369 t370 t339 t340 t341 t342).bind fun t373 => (if t373 = true then ((impl_TurnImage.f t339 t340 t341 t342 1).bind fun bt374 => ((impl_MirrorImage.f bt374.1 bt374.2.1 bt374.2.2.1 bt374.2.2.2).bind fun bt380 => ((laws_equalImage.f kj4 bt380.1 bt380.2.1 bt380.2.2.1 bt380.2.2.2 t346 t347 t348 t349).bind fun t386 => (some t386)))) else (some false))) = some r := H
      have A35 := Aside0.mk A350
      clear A350
      replace H := Option.bind_eq_some_iff.mp H
      obtain ⟨t373, A360, H⟩ := H
      replace H : (if t373 = true then ((impl_TurnImage.f t339 t340 t341 t342 1).bind fun bt374 => ((impl_MirrorImage.f bt374.1 bt374.2.1 bt374.2.2.1 bt374.2.2.2).bind fun bt380 => ((laws_equalImage.f kj4 bt380.1 bt380.2.1 bt380.2.2.1 bt380.2.2.2 t346 t347 t348 t349).bind fun t386 => (some t386)))) else (some false)) = some r := H
      have A36 := Aside0.mk A360
      clear A360
      by_cases c37 : t373 = true
      · subst c37
        have H1 : ((impl_TurnImage.f t339 t340 t341 t342 1).bind fun bt374 => ((impl_MirrorImage.f bt374.1 bt374.2.1 bt374.2.2.1 bt374.2.2.2).bind fun bt380 => ((laws_equalImage.f kj4 bt380.1 bt380.2.1 bt380.2.2.1 bt380.2.2.2 t346 t347 t348 t349).bind fun t386 => (some t386)))) = some r := by rw [if_pos rfl] at H; exact H
        clear H
        have H := H1
        clear H1
        replace H := Option.bind_eq_some_iff.mp H
        obtain ⟨⟨t374, t375, t376, t377⟩, A380, H⟩ := H
        replace H : ((impl_MirrorImage.f t374 t375 t376 t377).bind fun bt380 => ((laws_equalImage.f kj4 bt380.1 bt380.2.1 bt380.2.2.1 bt380.2.2.2 t346 t347 t348 t349).bind fun t386 => (some t386))) = some r := H
        have A38 := Aside0.mk A380
        clear A380
        replace H := Option.bind_eq_some_iff.mp H
        obtain ⟨⟨t380, t381, t382, t383⟩, A390, H⟩ := H
        replace H : ((laws_equalImage.f kj4 t380 t381 t382 t383 t346 t347 t348 t349).bind fun t386 => (some t386)) = some r := H
        have A39 := Aside0.mk A390
        clear A390
        replace H := Option.bind_eq_some_iff.mp H
        obtain ⟨t386, A400, H⟩ := H
        replace H : (some t386) = some r := H
        have A40 := Aside0.mk A400
        clear A400
        obtain rfl := Option.some.inj H
        simp only [Option.some.injEq, Prod.mk.injEq] at H
        obtain ⟨rfl⟩ := H
        try go_wp2
        have n0_ := Aside0.mk (Kd.Q_drew HO_346003.out)
        have n1_ := Aside0.mk (Kd.Q_drew HO_353003.out)
        have n2_ := Aside0.mk (blk_drew BK345.out)
        have n3_ := Aside0.mk (blk_drew BK352.out)
        have n4_ := Aside0.mk (below_drew1 HB.out)
        clear HO_346003 HO_353003 BK345 BK352 HB
        have HO_346003 := n0_
        have HO_353003 := n1_
        have BK345 := n2_
        have BK352 := n3_
        have HB := n4_
        clear n0_ n1_ n2_ n3_ n4_
        refine start_ (n := 12) (S := fun w' => w'.cell? ⟨gb352, 0, none⟩ = some (.int .i64 t346) ∧ w'.cell? ⟨gb352, 1, none⟩ = some (.int .i64 t347) ∧ w'.cell? ⟨gb352, 2, none⟩ = some (.int .i64 t348) ∧ w'.cell? ⟨gb352, 3, none⟩ = some (.slice Ao14 t349.length co14) ∧ w'.cell? ⟨gb345, 0, none⟩ = some (.int .i64 t339) ∧ w'.cell? ⟨gb345, 1, none⟩ = some (.int .i64 t340) ∧ w'.cell? ⟨gb345, 2, none⟩ = some (.int .i64 t341) ∧ w'.cell? ⟨gb345, 3, none⟩ = some (.slice Ao9 t342.length co9)) (ds := []) #[false, false, false, false, false, false, false, false, false, false, false, false] (by kernel_rfl) rfl rfl ⟨B.bc BK352 0, B.bc BK352 1, B.bc BK352 2, B.bc BK352 3, B.bc BK345 0, B.bc BK345 1, B.bc BK345 2, B.bc BK345 3⟩ (fun hHeld => ?_); refine with_tabW laws_FnTransposeImage.tab7 laws_FnTransposeImage.bits7 (fun HT_ HW_ => ?_)
        generalize wc.drew = w41 at HO_346003 HO_353003 BK345 BK352 HB hHeld ⊢
        refine take_ (i := 0) (N := some 26) (v := ?_) (a' := ?_) #[true, false, false, false, false, false, false, false, false, false, false, false] rfl rfl (take_ofW HT_.out HW_.out (by kernel_rfl)) (fun _ _ _ h => h) (Or.inl ⟨by rfl, ?_⟩) hHeld ?_ ?_
        rotate_left
        · rintro w' ⟨s0, s1, s2, s3, s4, s5, s6, s7⟩
          go_simp
          with_reducible rfl
        rotate_left
        · simp only [Act.put, List.setIfInBounds_toArray, List.set_cons_zero, List.set_cons_succ, i64_w, i32_w]
          rfl
        refine take_ (i := 2) (N := some 28) (v := ?_) (a' := ?_) #[true, false, true, false, false, false, false, false, false, false, false, false] rfl rfl (take_ofW HT_.out HW_.out (by kernel_rfl)) (fun _ _ _ h => h) (Or.inl ⟨by rfl, ?_⟩) hHeld ?_ ?_
        rotate_left
        · rintro w' ⟨s0, s1, s2, s3, s4, s5, s6, s7⟩
          go_simp
          with_reducible rfl
        rotate_left
        · simp only [Act.put, List.setIfInBounds_toArray, List.set_cons_zero, List.set_cons_succ, i64_w, i32_w]
          rfl
        refine one_ (i := 1) (N := some 27) #[true, true, true, false, false, false, false, false, false, false, false, false] rfl rfl (one_of HT_.out (by kernel_rfl)) (by decide) (fun K hK => ?_)
        refine goes_ Try.func15 (by kernel_rfl) rfl #[.agg #[.int .i64 t346, .int .i64 t347, .int .i64 t348, .slice Ao14 t349.length co14]] (by rfl) rfl rfl B.am ?_
        with_reducible refine (impl_TransposeImage.calls t346 t347 t348 _ _ t349 t367 t368 t369 t370 _ ?side1 ?side2 A35.out).mono ?_
        (case side1 => exact B.kc ((Kd.Q_reads' HO_353003.out).2.2))
        (case side2 => exact (Kd.Q_reads' HO_353003.out).2.1)
        rintro e w42 ⟨v371, rfl, ho0, hb⟩
        refine ⟨_, rfl, ?_⟩
        have n0_ := Aside0.mk (Kd.Q_elder' (B.kq HO_346003) (Kd.R_base ho0) hb)
        have n1_ := Aside0.mk (Kd.Q_elder' (B.kq HO_353003) (Kd.R_base ho0) hb)
        have n2_ := Aside0.mk (Kd.R_lower (Kd.R_new' (Kd.R_new' ho0 (Kd.Q_lt (B.kq HO_346003))) (Kd.Q_lt (B.kq HO_353003))) (below_size (B.bl HB)))
        have n3_ := Aside0.mk (blk_below (B.kb BK345) hb)
        have n4_ := Aside0.mk (blk_below (B.kb BK352) hb)
        have n5_ := Aside0.mk (below_step (B.bl HB) hb)
        clear HO_346003 HO_353003 BK345 BK352 HB
        have HO_346003 := n0_
        have HO_353003 := n1_
        have HO372 := n2_
        have BK345 := n3_
        have BK352 := n4_
        have HB := n5_
        clear n0_ n1_ n2_ n3_ n4_ n5_
        (try clear hb)
        (try clear hb2)
        (try clear hk)
        (try clear hi)
        (try clear ho0)
        obtain ⟨Ao43, co43, eo43⟩ := Kd.R_slice HO372.out
        (first | subst eo43 | (injection eo43 with f1_ f2_ f3_; have f4_ := f1_.symm; have f5_ := f3_.symm; clear f1_ f2_ f3_; subst f4_; subst f5_))
        refine hK.out _ _ ⟨B.bc BK352 0, B.bc BK352 1, B.bc BK352 2, B.bc BK352 3, B.bc BK345 0, B.bc BK345 1, B.bc BK345 2, B.bc BK345 3⟩ (fun hHeld => ?_)
        clear hK K
        refine norm_ (a' := ?_) ?_ ?_
        rotate_left
        · show Act.put _ (some 27) _ = _
          simp only [Act.put, List.setIfInBounds_toArray, List.set_cons_zero, List.set_cons_succ, i64_w, i32_w]
          rfl
        refine one_ (i := 3) (N := some 29) #[true, true, true, true, false, false, false, false, false, false, false, false] rfl rfl (one_of HT_.out (by kernel_rfl)) (by decide) (fun K hK => ?_)
        refine goes_ Try.func20 (by kernel_rfl) rfl #[.agg #[.int .i64 t367, .int .i64 t368, .int .i64 t369, .slice Ao43 t370.length co43], .agg #[.int .i64 t339, .int .i64 t340, .int .i64 t341, .slice Ao9 t342.length co9]] (by rfl) rfl rfl B.am ?_
        with_reducible refine (laws_equalImage.calls kj4 t367 t368 t369 _ _ t370 t339 t340 t341 _ _ t342 true _ ?side1 ?side2 ?side3 ?side4 A36.out).mono ?_
        (case side1 => exact B.kc ((Kd.R_reads' HO372.out).2.2))
        (case side2 => exact (Kd.R_reads' HO372.out).2.1)
        (case side3 => exact B.kc ((Kd.Q_reads' HO_346003.out).2.2))
        (case side4 => exact (Kd.Q_reads' HO_346003.out).2.1)
        rintro e w44 ⟨rfl, hb⟩
        refine ⟨_, rfl, ?_⟩
        have n0_ := Aside0.mk (Kd.Q_below (B.kq HO_346003) hb)
        have n1_ := Aside0.mk (Kd.Q_below (B.kq HO_353003) hb)
        have n2_ := Aside0.mk (Kd.R_below (B.kr HO372) hb)
        have n3_ := Aside0.mk (blk_below (B.kb BK345) hb)
        have n4_ := Aside0.mk (blk_below (B.kb BK352) hb)
        have n5_ := Aside0.mk (below_step (B.bl HB) hb)
        clear HO_346003 HO_353003 HO372 BK345 BK352 HB
        have HO_346003 := n0_
        have HO_353003 := n1_
        have HO372 := n2_
        have BK345 := n3_
        have BK352 := n4_
        have HB := n5_
        clear n0_ n1_ n2_ n3_ n4_ n5_
        (try clear hb)
        (try clear hb2)
        (try clear hk)
        (try clear hi)
        refine hK.out _ _ ⟨B.bc BK352 0, B.bc BK352 1, B.bc BK352 2, B.bc BK352 3, B.bc BK345 0, B.bc BK345 1, B.bc BK345 2, B.bc BK345 3⟩ (fun hHeld => ?_)
        clear hK K
        refine norm_ (a' := ?_) ?_ ?_
        rotate_left
        · show Act.put _ (some 29) _ = _
          simp only [Act.put, List.setIfInBounds_toArray, List.set_cons_zero, List.set_cons_succ, i64_w, i32_w]
          rfl
        refine pure_ (i := 4) (N := some 30) (v := ?_) (a' := ?_) #[true, true, true, true, true, false, false, false, false, false, false, false] rfl rfl (any_of HT_.out (by kernel_rfl)) (fun _ _ _ h => h) (Or.inl ⟨by rfl, ?_⟩) ?_ ?_
        rotate_left
        · intro w'
          go_simp
          with_reducible rfl
        rotate_left
        · simp only [Act.put, List.setIfInBounds_toArray, List.set_cons_zero, List.set_cons_succ, i64_w, i32_w]
          rfl
        refine take_ (i := 5) (N := some 31) (v := ?_) (a' := ?_) #[true, true, true, true, true, true, false, false, false, false, false, false] rfl rfl (take_ofW HT_.out HW_.out (by kernel_rfl)) (fun _ _ _ h => h) (Or.inl ⟨by rfl, ?_⟩) hHeld ?_ ?_
        rotate_left
        · rintro w' ⟨s0, s1, s2, s3, s4, s5, s6, s7⟩
          go_simp
          with_reducible rfl
        rotate_left
        · simp only [Act.put, List.setIfInBounds_toArray, List.set_cons_zero, List.set_cons_succ, i64_w, i32_w]
          rfl
        refine take_ (i := 8) (N := some 34) (v := ?_) (a' := ?_) #[true, true, true, true, true, true, false, false, true, false, false, false] rfl rfl (take_ofW HT_.out HW_.out (by kernel_rfl)) (fun _ _ _ h => h) (Or.inl ⟨by rfl, ?_⟩) hHeld ?_ ?_
        rotate_left
        · rintro w' ⟨s0, s1, s2, s3, s4, s5, s6, s7⟩
          go_simp
          with_reducible rfl
        rotate_left
        · simp only [Act.put, List.setIfInBounds_toArray, List.set_cons_zero, List.set_cons_succ, i64_w, i32_w]
          rfl
        refine one_ (i := 6) (N := some 32) #[true, true, true, true, true, true, true, false, true, false, false, false] rfl rfl (one_of HT_.out (by kernel_rfl)) (by decide) (fun K hK => ?_)
        refine goes_ Try.func22 (by kernel_rfl) rfl #[.agg #[.int .i64 t339, .int .i64 t340, .int .i64 t341, .slice Ao9 t342.length co9], .int .i64 1] (by rfl) rfl rfl B.am ?_
        with_reducible refine (impl_TurnImage.calls t339 t340 t341 _ _ t342 1 t374 t375 t376 t377 _ ?side1 ?side2 A38.out).mono ?_
        (case side1 => exact B.kc ((Kd.Q_reads' HO_346003.out).2.2))
        (case side2 => exact (Kd.Q_reads' HO_346003.out).2.1)
        rintro e w45 ⟨v378, rfl, ho0, hb⟩
        refine ⟨_, rfl, ?_⟩
        have n0_ := Aside0.mk (Kd.Q_elder' (B.kq HO_346003) (Kd.R_base ho0) hb)
        have n1_ := Aside0.mk (Kd.Q_elder' (B.kq HO_353003) (Kd.R_base ho0) hb)
        have n2_ := Aside0.mk (Kd.R_elder' (B.kr HO372) (Kd.R_base ho0) hb)
        have n3_ := Aside0.mk (Kd.R_lower (Kd.R_new' (Kd.R_new' (Kd.R_new' ho0 (Kd.Q_lt (B.kq HO_346003))) (Kd.Q_lt (B.kq HO_353003))) (Kd.R_lt (B.kr HO372))) (below_size (B.bl HB)))
        have n4_ := Aside0.mk (blk_below (B.kb BK345) hb)
        have n5_ := Aside0.mk (blk_below (B.kb BK352) hb)
        have n6_ := Aside0.mk (below_step (B.bl HB) hb)
        clear HO_346003 HO_353003 HO372 BK345 BK352 HB
        have HO_346003 := n0_
        have HO_353003 := n1_
        have HO372 := n2_
        have HO379 := n3_
        have BK345 := n4_
        have BK352 := n5_
        have HB := n6_
        clear n0_ n1_ n2_ n3_ n4_ n5_ n6_
        (try clear hb)
        (try clear hb2)
        (try clear hk)
        (try clear hi)
        (try clear ho0)
        obtain ⟨Ao46, co46, eo46⟩ := Kd.R_slice HO379.out
        (first | subst eo46 | (injection eo46 with f1_ f2_ f3_; have f4_ := f1_.symm; have f5_ := f3_.symm; clear f1_ f2_ f3_; subst f4_; subst f5_))
        refine hK.out _ _ ⟨B.bc BK352 0, B.bc BK352 1, B.bc BK352 2, B.bc BK352 3, B.bc BK345 0, B.bc BK345 1, B.bc BK345 2, B.bc BK345 3⟩ (fun hHeld => ?_)
        clear hK K
        refine norm_ (a' := ?_) ?_ ?_
        rotate_left
        · show Act.put _ (some 32) _ = _
          simp only [Act.put, List.setIfInBounds_toArray, List.set_cons_zero, List.set_cons_succ, i64_w, i32_w]
          rfl
        refine one_ (i := 7) (N := some 33) #[true, true, true, true, true, true, true, true, true, false, false, false] rfl rfl (one_of HT_.out (by kernel_rfl)) (by decide) (fun K hK => ?_)
        refine goes_ Try.func21 (by kernel_rfl) rfl #[.agg #[.int .i64 t374, .int .i64 t375, .int .i64 t376, .slice Ao46 t377.length co46]] (by rfl) rfl rfl B.am ?_
        with_reducible refine (impl_MirrorImage.calls t374 t375 t376 _ _ t377 t380 t381 t382 t383 _ ?side1 ?side2 A39.out).mono ?_
        (case side1 => exact B.kc ((Kd.R_reads' HO379.out).2.2))
        (case side2 => exact (Kd.R_reads' HO379.out).2.1)
        rintro e w47 ⟨v384, rfl, ho0, hb⟩
        refine ⟨_, rfl, ?_⟩
        have n0_ := Aside0.mk (Kd.Q_elder' (B.kq HO_346003) (Kd.R_base ho0) hb)
        have n1_ := Aside0.mk (Kd.Q_elder' (B.kq HO_353003) (Kd.R_base ho0) hb)
        have n2_ := Aside0.mk (Kd.R_elder' (B.kr HO372) (Kd.R_base ho0) hb)
        have n3_ := Aside0.mk (Kd.R_elder' (B.kr HO379) (Kd.R_base ho0) hb)
        have n4_ := Aside0.mk (Kd.R_lower (Kd.R_new' (Kd.R_new' (Kd.R_new' (Kd.R_new' ho0 (Kd.Q_lt (B.kq HO_346003))) (Kd.Q_lt (B.kq HO_353003))) (Kd.R_lt (B.kr HO372))) (Kd.R_lt (B.kr HO379))) (below_size (B.bl HB)))
        have n5_ := Aside0.mk (blk_below (B.kb BK345) hb)
        have n6_ := Aside0.mk (blk_below (B.kb BK352) hb)
        have n7_ := Aside0.mk (below_step (B.bl HB) hb)
        clear HO_346003 HO_353003 HO372 HO379 BK345 BK352 HB
        have HO_346003 := n0_
        have HO_353003 := n1_
        have HO372 := n2_
        have HO379 := n3_
        have HO385 := n4_
        have BK345 := n5_
        have BK352 := n6_
        have HB := n7_
        clear n0_ n1_ n2_ n3_ n4_ n5_ n6_ n7_
        (try clear hb)
        (try clear hb2)
        (try clear hk)
        (try clear hi)
        (try clear ho0)
        obtain ⟨Ao48, co48, eo48⟩ := Kd.R_slice HO385.out
        (first | subst eo48 | (injection eo48 with f1_ f2_ f3_; have f4_ := f1_.symm; have f5_ := f3_.symm; clear f1_ f2_ f3_; subst f4_; subst f5_))
        refine hK.out _ _ ⟨B.bc BK352 0, B.bc BK352 1, B.bc BK352 2, B.bc BK352 3, B.bc BK345 0, B.bc BK345 1, B.bc BK345 2, B.bc BK345 3⟩ (fun hHeld => ?_)
        clear hK K
        refine norm_ (a' := ?_) ?_ ?_
        rotate_left
        · show Act.put _ (some 33) _ = _
          simp only [Act.put, List.setIfInBounds_toArray, List.set_cons_zero, List.set_cons_succ, i64_w, i32_w]
          rfl
        refine one_ (i := 9) (N := some 35) #[true, true, true, true, true, true, true, true, true, true, false, false] rfl rfl (one_of HT_.out (by kernel_rfl)) (by decide) (fun K hK => ?_)
        refine goes_ Try.func20 (by kernel_rfl) rfl #[.agg #[.int .i64 t380, .int .i64 t381, .int .i64 t382, .slice Ao48 t383.length co48], .agg #[.int .i64 t346, .int .i64 t347, .int .i64 t348, .slice Ao14 t349.length co14]] (by rfl) rfl rfl B.am ?_
        with_reducible refine (laws_equalImage.calls kj4 t380 t381 t382 _ _ t383 t346 t347 t348 _ _ t349 t386 _ ?side1 ?side2 ?side3 ?side4 A40.out).mono ?_
        (case side1 => exact B.kc ((Kd.R_reads' HO385.out).2.2))
        (case side2 => exact (Kd.R_reads' HO385.out).2.1)
        (case side3 => exact B.kc ((Kd.Q_reads' HO_353003.out).2.2))
        (case side4 => exact (Kd.Q_reads' HO_353003.out).2.1)
        rintro e w49 ⟨rfl, hb⟩
        refine ⟨_, rfl, ?_⟩
        have n0_ := Aside0.mk (Kd.Q_below (B.kq HO_346003) hb)
        have n1_ := Aside0.mk (Kd.Q_below (B.kq HO_353003) hb)
        have n2_ := Aside0.mk (Kd.R_below (B.kr HO372) hb)
        have n3_ := Aside0.mk (Kd.R_below (B.kr HO379) hb)
        have n4_ := Aside0.mk (Kd.R_below (B.kr HO385) hb)
        have n5_ := Aside0.mk (blk_below (B.kb BK345) hb)
        have n6_ := Aside0.mk (blk_below (B.kb BK352) hb)
        have n7_ := Aside0.mk (below_step (B.bl HB) hb)
        clear HO_346003 HO_353003 HO372 HO379 HO385 BK345 BK352 HB
        have HO_346003 := n0_
        have HO_353003 := n1_
        have HO372 := n2_
        have HO379 := n3_
        have HO385 := n4_
        have BK345 := n5_
        have BK352 := n6_
        have HB := n7_
        clear n0_ n1_ n2_ n3_ n4_ n5_ n6_ n7_
        (try clear hb)
        (try clear hb2)
        (try clear hk)
        (try clear hi)
        refine hK.out _ _ ⟨B.bc BK352 0, B.bc BK352 1, B.bc BK352 2, B.bc BK352 3, B.bc BK345 0, B.bc BK345 1, B.bc BK345 2, B.bc BK345 3⟩ (fun hHeld => ?_)
        clear hK K
        refine norm_ (a' := ?_) ?_ ?_
        rotate_left
        · show Act.put _ (some 35) _ = _
          simp only [Act.put, List.setIfInBounds_toArray, List.set_cons_zero, List.set_cons_succ, i64_w, i32_w]
          rfl
        refine pure_ (i := 10) (N := some 36) (v := ?_) (a' := ?_) #[true, true, true, true, true, true, true, true, true, true, true, false] rfl rfl (any_of HT_.out (by kernel_rfl)) (fun _ _ _ h => h) (Or.inl ⟨by rfl, ?_⟩) ?_ ?_
        rotate_left
        · intro w'
          go_simp
          with_reducible rfl
        rotate_left
        · simp only [Act.put, List.setIfInBounds_toArray, List.set_cons_zero, List.set_cons_succ, i64_w, i32_w]
          rfl
        refine pure_ (i := 11) (N := some 2) (v := ?_) (a' := ?_) #[true, true, true, true, true, true, true, true, true, true, true, true] rfl rfl (any_of HT_.out (by kernel_rfl)) (fun _ _ _ h => h) (Or.inl ⟨by rfl, ?_⟩) ?_ ?_
        rotate_left
        · intro w'
          go_simp
          with_reducible rfl
        rotate_left
        · simp only [Act.put, List.setIfInBounds_toArray, List.set_cons_zero, List.set_cons_succ, i64_w, i32_w]
          rfl
        refine done_ (done_of HT_.out (by kernel_rfl)) ?_
        try go_wp2
        go_ret
        exact ⟨by first | rfl | (simp [errW_none, errW_some] <;> rfl) | (simp [*, errW_none, errW_some] <;> rfl), B.bl HB⟩
      replace c37 := Bool.eq_false_iff.mpr c37
      subst c37
      have H1 : (some false) = some r := by rw [if_neg (show ¬ (false = true) by decide)] at H; exact H
      clear H
      have H := H1
      clear H1
      obtain rfl := Option.some.inj H
      exact absurd ht_.out (by decide)

/-- THE ONE PURE STATEMENT of laws_FnTransposeImage: yours. -/
def laws_FnTransposeImage.Pure : Prop := ∀ (l0 : List Int), l0.length ≤ maxLen → l0.length * 1 ≤ 140737488351232 → (∀ x ∈ l0, (Lit.int .u8 x).wf = true) → ∃ k, laws_FnTransposeImage.f k l0 = some true
theorem laws_FnTransposeImage.walk (P : laws_FnTransposeImage.Pure) (a0 : Option Addr) (len0 cap0 : Nat) (z0 : List Int) (w : World) (w0 : (a0 = none ∧ len0 = 0 ∧ cap0 = 0 ∧ z0 = []) ∨ ∃ x, a0 = some x ∧ len0 ≤ cap0 ∧ cap0 ≤ maxLen ∧ z0.length = cap0 ∧ (∀ i, i < z0.length → w.cell? (x.add i) = some (.int .u8 (z0.getD i 0))) ∧ ∀ n ∈ z0, (Lit.int .u8 n).wf = true) (y0 : len0 * 1 ≤ 140737488351232) :
    Calls Try.prog 4 #[.slice a0 len0 cap0] w fun e w' => e = .returned (.bool true) ∧ Below w.heap.size w w' := by
  obtain ⟨l0, rfl, hr0, hm0, hw0, hc0⟩ := ReadsInt.ofRowC w0
  obtain ⟨k, h⟩ := P l0 hm0 y0 hw0
  refine (laws_FnTransposeImage.calls k _ _ l0 true w (Kd.C_of_reads (d := (0 : Int)) (h1 := fun _ => rfl) hr0) hc0 h ⟨rfl⟩).mono ?_
  rintro e w' ⟨rfl, hd⟩
  exact ⟨rfl, hd⟩

end Go.Proofs.Ytibbkaoghbmncaa.Q
