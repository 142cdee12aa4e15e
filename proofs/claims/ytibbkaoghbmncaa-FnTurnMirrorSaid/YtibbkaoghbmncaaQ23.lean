-- Written by a program of this session (the kit's printer, with hand-proved contracts for the functions that it does not take).
import Derived.Test.YtibbkaoghbmncaaQ0
import Derived.Test.YtibbkaoghbmncaaQ3
import Derived.Test.YtibbkaoghbmncaaQ4
import Derived.Test.YtibbkaoghbmncaaQ5
import Derived.Test.YtibbkaoghbmncaaQ10
import Derived.Test.YtibbkaoghbmncaaQ13
namespace Go.Proofs.Ytibbkaoghbmncaa.Q
open Go.RowKit Go.Proofs.YtibbkaoghbmncaaW.PrintWords Go.Proofs.YtibbkaoghbmncaaW.PrintLast Go.Proofs.YtibbkaoghbmncaaW.PrintMore
attribute [local go_sem] max2_int min2_int max_two min_two max_three min_three max_four min_four   -- for this text's walks alone
set_option linter.unusedVariables false
set_option linter.unusedSimpArgs false

/-! ### laws_FnTurnMirror: function 7 -/
def laws_FnTurnMirror.j0 : Nat → Int → Bool → Int → Int → Int → List Int → Int → Int → Int → List Int → Option (Bool)
  | 0, _, _, _, _, _, _, _, _, _, _ => none
  | k + 1, x4, x28, x554000, x554001, x554002, x554003, x561000, x561001, x561002, x561003 => if x28 = true then ((spec_TurnImage.f k x554000 x554001 x554002 x554003 x4).bind fun bt568 => ((laws_equalImage.f k x561000 x561001 x561002 x561003 bt568.1 bt568.2.1 bt568.2.2.1 bt568.2.2.2).bind fun t574 => (some t574))) else ((impl_MirrorImage.f x554000 x554001 x554002 x554003).bind fun bt575 => ((impl_TurnImage.f bt575.1 bt575.2.1 bt575.2.2.1 bt575.2.2.2 x4).bind fun bt581 => ((impl_MirrorImage.f bt581.1 bt581.2.1 bt581.2.2.1 bt581.2.2.2).bind fun bt588 => ((impl_TurnImage.f bt588.1 bt588.2.1 bt588.2.2.1 bt588.2.2.2 x4).bind fun bt594 => ((laws_equalImage.f k bt594.1 bt594.2.1 bt594.2.2.1 bt594.2.2.2 x554000 x554001 x554002 x554003).bind fun t600 => (some t600))))))
def laws_FnTurnMirror.f (k : Nat) (l0 : List Int) : Option (Bool) := if (l0.length : Int) > 1048576 then (some true) else ((spec_DrawTurnImage.f k l0).bind fun bt546 => ((impl_TurnImage.f bt546.1 bt546.2.1 bt546.2.2.1 bt546.2.2.2.1 bt546.2.2.2.2).bind fun bt554 => ((spec_TurnImage.f k bt546.1 bt546.2.1 bt546.2.2.1 bt546.2.2.2.1 bt546.2.2.2.2).bind fun bt561 => ((laws_equalImage.f k bt554.1 bt554.2.1 bt554.2.2.1 bt554.2.2.2 bt561.1 bt561.2.1 bt561.2.2.1 bt561.2.2.2).bind fun t567 => (if t567 = true then (laws_FnTurnMirror.j0 k bt546.2.2.2.2 (bt554.1 == 0) bt546.1 bt546.2.1 bt546.2.2.1 bt546.2.2.2.1 bt554.1 bt554.2.1 bt554.2.2.1 bt554.2.2.2) else (laws_FnTurnMirror.j0 k bt546.2.2.2.2 true bt546.1 bt546.2.1 bt546.2.2.1 bt546.2.2.2.1 bt554.1 bt554.2.1 bt554.2.2.1 bt554.2.2.2))))))
theorem laws_FnTurnMirror.mono_l : ∀ k, (∀ y0 y1 y2 y3 y4 y5 y6 y7 y8 y9, LeO (laws_FnTurnMirror.j0 k y0 y1 y2 y3 y4 y5 y6 y7 y8 y9) (laws_FnTurnMirror.j0 (k + 1) y0 y1 y2 y3 y4 y5 y6 y7 y8 y9))
  | 0 => fun _ _ _ _ _ _ _ _ _ _ r h => by simp [laws_FnTurnMirror.j0] at h
  | k + 1 => by
    have ih0 := laws_FnTurnMirror.mono_l k
    · intro y0 y1 y2 y3 y4 y5 y6 y7 y8 y9
      unfold laws_FnTurnMirror.j0
      repeat' first
      | (with_reducible exact ih0 _ _ _ _ _ _ _ _ _ _)
      | (with_reducible exact laws_equalImage.mono _ _ _ _ _ _ _ _ _)
      | (with_reducible exact spec_DrawTurnImage.mono _ _)
      | (with_reducible exact spec_TurnImage.mono _ _ _ _ _ _)
      | (with_reducible exact LeO.refl _)
      | (with_reducible exact LeO.none _)
      | (with_reducible refine LeO.ite ?_ ?_)
      | (with_reducible refine LeO.bind ?_ (fun _ => ?_))
      | exact ih0 _ _ _ _ _ _ _ _ _ _
      | exact laws_equalImage.mono _ _ _ _ _ _ _ _ _
      | exact spec_DrawTurnImage.mono _ _
      | exact spec_TurnImage.mono _ _ _ _ _ _
      | exact LeO.none _
      | refine LeO.ite ?_ ?_
      | refine LeO.bind ?_ (fun _ => ?_)
theorem laws_FnTurnMirror.mono : ∀ a0 k, LeO (laws_FnTurnMirror.f k a0) (laws_FnTurnMirror.f (k + 1) a0) := by
  intro a0 k
  have ih0 := laws_FnTurnMirror.mono_l k
  unfold laws_FnTurnMirror.f
  repeat' first
      | (with_reducible exact ih0 _ _ _ _ _ _ _ _ _ _)
      | (with_reducible exact laws_equalImage.mono _ _ _ _ _ _ _ _ _)
      | (with_reducible exact spec_DrawTurnImage.mono _ _)
      | (with_reducible exact spec_TurnImage.mono _ _ _ _ _ _)
      | (with_reducible exact LeO.refl _)
      | (with_reducible exact LeO.none _)
      | (with_reducible refine LeO.ite ?_ ?_)
      | (with_reducible refine LeO.bind ?_ (fun _ => ?_))
      | exact ih0 _ _ _ _ _ _ _ _ _ _
      | exact laws_equalImage.mono _ _ _ _ _ _ _ _ _
      | exact spec_DrawTurnImage.mono _ _
      | exact spec_TurnImage.mono _ _ _ _ _ _
      | exact LeO.none _
      | refine LeO.ite ?_ ?_
      | refine LeO.bind ?_ (fun _ => ?_)
def laws_FnTurnMirror.T5 : Bool × List (List Nat × List Nat) := (true, [([], []), ([], []), ([], []), ([1, 2], [1, 2]), ([0, 3, 3], [0, 3]), ([4], [4]), ([5, 4], [5]), ([6], [6]), ([7, 6], [6, 7]), ([8, 6], [6, 8]), ([6, 9], [6, 9])])
def laws_FnTurnMirror.B5 : List Nat := [0, 0, 0, 6, 15, 31, 63, 127, 255, 511, 1023]
theorem laws_FnTurnMirror.tab5 : rtab .any (opsOf Try.f7 5) = laws_FnTurnMirror.T5 := by kernel_rfl
theorem laws_FnTurnMirror.bits5 : waitsOk laws_FnTurnMirror.T5.2 laws_FnTurnMirror.B5 = true := by kernel_rfl
set_option maxHeartbeats 8000000 in
set_option maxRecDepth 100000 in
theorem laws_FnTurnMirror.calls (k : Nat) (A0 : Option Addr) (c0 : Nat) (l0 : List Int) (r : Bool) (w : World) (hr0 : Kd.C (Kd.int .u8) w A0 l0.length l0) (hc0 : l0.length ≤ c0) (h : laws_FnTurnMirror.f k l0 = some r) (ht_ : Aside0 (r = true)) :
    Calls Try.prog 7 #[.slice A0 l0.length c0] w fun e w' => e = .returned (.bool r) ∧ Below w.heap.size w w' := by
  have hu26 := Try.underlying26
  have HR0 := Aside0.mk hr0
  have HC0 := Aside0.mk hc0
  clear hr0 hc0
  have HB := Aside0.mk (Below.refl w.heap.size w)
  have H : (if (l0.length : Int) > 1048576 then (some true) else ((spec_DrawTurnImage.f k l0).bind fun bt546 => ((impl_TurnImage.f bt546.1 bt546.2.1 bt546.2.2.1 bt546.2.2.2.1 bt546.2.2.2.2).bind fun bt554 => ((spec_TurnImage.f k bt546.1 bt546.2.1 bt546.2.2.1 bt546.2.2.2.1 bt546.2.2.2.2).bind fun bt561 => ((laws_equalImage.f k bt554.1 bt554.2.1 bt554.2.2.1 bt554.2.2.2 bt561.1 bt561.2.1 bt561.2.2.1 bt561.2.2.2).bind fun t567 => (if t567 = true then (laws_FnTurnMirror.j0 k bt546.2.2.2.2 (bt554.1 == 0) bt546.1 bt546.2.1 bt546.2.2.1 bt546.2.2.2.1 bt554.1 bt554.2.1 bt554.2.2.1 bt554.2.2.2) else (laws_FnTurnMirror.j0 k bt546.2.2.2.2 true bt546.1 bt546.2.1 bt546.2.2.1 bt546.2.2.2.1 bt554.1 bt554.2.1 bt554.2.2.1 bt554.2.2.2))))))) = some r := h
  clear h
  by_cases c2 : (l0.length : Int) > 1048576
  · rw [if_pos c2] at H
    have c2b0 : decide (1048576 < (l0.length : Int)) = true := decide_eq_true c2
    have c2b1 : decide (1048576 < l0.length) = true := decide_eq_true (by omega)
    clear c2
    obtain rfl := Option.some.inj H
    simp only [Option.some.injEq, Prod.mk.injEq] at H
    obtain ⟨rfl⟩ := H
    go_enter Try.func7, Try.ntmps7
    go_wp2
    go_ret
    exact ⟨by first | rfl | (simp [errW_none, errW_some] <;> rfl) | (simp [*, errW_none, errW_some] <;> rfl), B.bl HB⟩
  rw [if_neg c2] at H
  have c2b0 : decide (1048576 < (l0.length : Int)) = false := decide_eq_false c2
  have c2b1 : decide (1048576 < l0.length) = false := decide_eq_false (by omega)
  clear c2
  replace H := Option.bind_eq_some_iff.mp H
  obtain ⟨⟨t546, t547, t548, t549, t552⟩, A30, H⟩ := H
  replace H : ((impl_TurnImage.f t546 t547 t548 t549 t552).bind fun bt554 => ((spec_TurnImage.f k t546 t547 t548 t549 t552).bind fun bt561 => ((laws_equalImage.f k bt554.1 bt554.2.1 bt554.2.2.1 bt554.2.2.2 bt561.1 bt561.2.1 bt561.2.2.1 bt561.2.2.2).bind fun t567 => (if t567 = true then (laws_FnTurnMirror.j0 k t552 (bt554.1 == 0) t546 t547 t548 t549 bt554.1 bt554.2.1 bt554.2.2.1 bt554.2.2.2) else (laws_FnTurnMirror.j0 k t552 true t546 t547 t548 t549 bt554.1 bt554.2.1 bt554.2.2.1 bt554.2.2.2))))) = some r := H
  have A3 := Aside0.mk A30
  clear A30
  replace H := Option.bind_eq_some_iff.mp H
  obtain ⟨⟨t554, t555, t556, t557⟩, A40, H⟩ := H
  replace H : ((spec_TurnImage.f k t546 t547 t548 t549 t552).bind fun bt561 => ((laws_equalImage.f k t554 t555 t556 t557 bt561.1 bt561.2.1 bt561.2.2.1 bt561.2.2.2).bind fun t567 => (if t567 = true then (laws_FnTurnMirror.j0 k t552 (t554 == 0) t546 t547 t548 t549 t554 t555 t556 t557) else (laws_FnTurnMirror.j0 k t552 true t546 t547 t548 t549 t554 t555 t556 t557)))) = some r := H
  have A4 := Aside0.mk A40
  clear A40
  have HC5 := Aside0.mk H
  clear H
  go_enter Try.func7, Try.ntmps7
  go_upto_region 5 with (first | ((with_reducible refine gate_callee (f := 23) rfl ?_); refine goesL_ (some 12) rfl rfl Try.func23 (by kernel_rfl) rfl #[.slice A0 l0.length c0] rfl B.am ?_; (with_reducible refine (spec_DrawTurnImage.calls k _ _ l0 t546 t547 t548 t549 t552 _ ?side1 ?side2 A3.out).mono ?_); (case side1 => exact B.kc (HR0.out)); (case side2 => exact HC0.out); rintro e w6 ⟨v550, rfl, ho0, hb⟩; refine ⟨_, rfl, ?_⟩; have n0_ := Aside0.mk (Kd.Q_lower ho0 (below_size (B.bl HB))); have n1_ := Aside0.mk (below_step (B.bl HB) hb); clear HB; have HO551 := n0_; have HB := n1_; clear n0_ n1_; (try clear hb); (try clear hb2); (try clear hk); (try clear hi); (try clear ho0)) | ((with_reducible refine gate_dst (N := 3) rfl ?_); refine box_event ?hg (N := 3) ?hd (cs := #[.int .i64 0, .int .i64 0, .int .i64 0, .slice none 0 0]) (t := 26) ?hr ?_; (case hd => rfl); (case hg => rfl); (case hr => first | (go_simp; done) | (go_simp; rfl)); intro gb553 hg w7 hbox hb; have n0_ := Aside0.mk (Kd.Q_below (B.kq HO551) hb); have n1_ := Aside0.mk (below_step (B.bl HB) hb); have n2_ := Aside0.mk (hbox); have n3_ := Aside0.mk (B.nle hg (below_size (B.bl HB))); have n4_ := Aside0.mk (B.nle hg (below_size (B.bl HB))); clear HO551 HB; have HO551 := n0_; have HB := n1_; have BK553 := n2_; have GW553 := n3_; have GE553 := n4_; clear n0_ n1_ n2_ n3_ n4_; clear hb hbox hg; have hcz8_0 : w7.cell? ⟨gb553, 0, none⟩ = some (.int .i64 0) := B.bc BK553 0; have hcz8_1 : w7.cell? ⟨gb553, 1, none⟩ = some (.int .i64 0) := B.bc BK553 1; have hcz8_2 : w7.cell? ⟨gb553, 2, none⟩ = some (.int .i64 0) := B.bc BK553 2; have hcz8_3 : w7.cell? ⟨gb553, 3, none⟩ = some (.slice none 0 0) := B.bc BK553 3; have hfz8_0 := blk_frozen BK553.out 0; have hfz8_1 := blk_frozen BK553.out 1; have hfz8_2 := blk_frozen BK553.out 2; have hfz8_3 := blk_frozen BK553.out 3; obtain ⟨Ao9, co9, eo9, _⟩ := Kd.Q_slice HO551.out; subst eo9) | ((with_reducible refine gate_callee (f := 22) rfl ?_); refine goesL_ (some 17) rfl rfl Try.func22 (by kernel_rfl) rfl #[.agg #[.int .i64 t546, .int .i64 t547, .int .i64 t548, .slice Ao9 t549.length co9], .int .i64 t552] rfl B.am ?_; (with_reducible refine (impl_TurnImage.calls t546 t547 t548 _ _ t549 t552 t554 t555 t556 t557 _ ?side1 ?side2 A4.out).mono ?_); (case side1 => refine (Kd.Q_reads' (e := 3) (base := w.heap.size) (ok := fun k_ => True) (n := t549.length) (c := co9) ?_).2.2; exact (by (with_reducible repeat (first | apply Kd.Q_alloc | apply Kd.Q_drewN | apply Kd.Q_drew)); exact (Kd.Q_mono (Kd.Q_far (p := ⟨gb553, 3, none⟩) (Kd.Q_far (p := ⟨gb553, 2, none⟩) (Kd.Q_far (p := ⟨gb553, 1, none⟩) (Kd.Q_far (p := ⟨gb553, 0, none⟩) (Kd.Q_types HO551.out BK553.out (by decide)) (fun _ hk => hk.2) (.int .i64 t546)) (fun _ hk => hk.2) (.int .i64 t547)) (fun _ hk => hk.2) (.int .i64 t548)) (fun _ hk => hk.2) (.slice Ao9 t549.length co9)) (fun _ h_ => h_.1)))); (case side2 => exact (Kd.Q_reads' HO551.out).2.1); rintro e w10 ⟨v558, rfl, ho0, hb⟩; refine ⟨_, rfl, ?_⟩; have n0_ := Aside0.mk (Kd.Q_elder' (by (with_reducible repeat (first | apply Kd.Q_alloc | apply Kd.Q_drewN | apply Kd.Q_drew)); exact (Kd.Q_mono (Kd.Q_far (p := ⟨gb553, 3, none⟩) (Kd.Q_far (p := ⟨gb553, 2, none⟩) (Kd.Q_far (p := ⟨gb553, 1, none⟩) (Kd.Q_far (p := ⟨gb553, 0, none⟩) (Kd.Q_types HO551.out BK553.out (by decide)) (fun _ hk => hk.2) (.int .i64 t546)) (fun _ hk => hk.2) (.int .i64 t547)) (fun _ hk => hk.2) (.int .i64 t548)) (fun _ hk => hk.2) (.slice Ao9 t549.length co9)) (fun _ h_ => h_.1))) (Kd.R_base ho0) hb); have n1_ := Aside0.mk (Kd.R_lower (Kd.R_new' ho0 (Kd.Q_lt (by (with_reducible repeat (first | apply Kd.Q_alloc | apply Kd.Q_drewN | apply Kd.Q_drew)); exact (Kd.Q_mono (Kd.Q_far (p := ⟨gb553, 3, none⟩) (Kd.Q_far (p := ⟨gb553, 2, none⟩) (Kd.Q_far (p := ⟨gb553, 1, none⟩) (Kd.Q_far (p := ⟨gb553, 0, none⟩) (Kd.Q_types HO551.out BK553.out (by decide)) (fun _ hk => hk.2) (.int .i64 t546)) (fun _ hk => hk.2) (.int .i64 t547)) (fun _ hk => hk.2) (.int .i64 t548)) (fun _ hk => hk.2) (.slice Ao9 t549.length co9)) (fun _ h_ => h_.1))))) (below_size (B.bl HB))); have n2_ := Aside0.mk (blk_below (g := gb553) (o := .cells #[.int .i64 t546, .int .i64 t547, .int .i64 t548, .slice Ao9 t549.length co9] 26 (0, 0)) (B.kb0 (B.bp4 BK553)) hb); have n3_ := Aside0.mk (below_step (B.bl HB) hb); clear HO551 BK553 HB; have HO551 := n0_; have HO559 := n1_; have BK553 := n2_; have HB := n3_; clear n0_ n1_ n2_ n3_; (try clear hb); (try clear hb2); (try clear hk); (try clear hi); (try clear ho0)) | ((with_reducible refine gate_dst (N := 5) rfl ?_); refine box_event ?hg (N := 5) ?hd (cs := #[.int .i64 0, .int .i64 0, .int .i64 0, .slice none 0 0]) (t := 26) ?hr ?_; (case hd => rfl); (case hg => rfl); (case hr => first | (go_simp; done) | (go_simp; rfl)); intro gb560 hg w11 hbox hb; have n0_ := Aside0.mk (Kd.Q_below (B.kq HO551) hb); have n1_ := Aside0.mk (Kd.R_below (B.kr HO559) hb); have n2_ := Aside0.mk (blk_below (B.kb BK553) hb); have n3_ := Aside0.mk (below_step (B.bl HB) hb); have n4_ := Aside0.mk (hbox); have n5_ := Aside0.mk (B.nle hg (below_size (B.bl HB))); have n6_ := Aside0.mk (B.nle hg (below_size (B.bl HB))); have n7_ := Aside0.mk (B.nlt hg (blk_lt (B.kb BK553))); have n8_ := Aside0.mk (B.ngt hg (blk_lt (B.kb BK553))); clear HO551 HO559 BK553 HB; have HO551 := n0_; have HO559 := n1_; have BK553 := n2_; have HB := n3_; have BK560 := n4_; have GW560 := n5_; have GE560 := n6_; have NB553_560 := n7_; have NB560_553 := n8_; clear n0_ n1_ n2_ n3_ n4_ n5_ n6_ n7_ n8_; clear hb hbox hg; have hnb12 := NB560_553.out; have hnc12 := NB553_560.out; have hcz13_0 : w11.cell? ⟨gb560, 0, none⟩ = some (.int .i64 0) := B.bc BK560 0; have hcz13_1 : w11.cell? ⟨gb560, 1, none⟩ = some (.int .i64 0) := B.bc BK560 1; have hcz13_2 : w11.cell? ⟨gb560, 2, none⟩ = some (.int .i64 0) := B.bc BK560 2; have hcz13_3 : w11.cell? ⟨gb560, 3, none⟩ = some (.slice none 0 0) := B.bc BK560 3; have hfz13_0 := blk_frozen BK560.out 0; have hfz13_1 := blk_frozen BK560.out 1; have hfz13_2 := blk_frozen BK560.out 2; have hfz13_3 := blk_frozen BK560.out 3; obtain ⟨Ao14, co14, eo14⟩ := Kd.R_slice HO559.out; subst eo14))
  (try simp only [Act.put, List.setIfInBounds_toArray, List.set_cons_zero, List.set_cons_succ])
  go_cut [28] (fun v28 wc => ∃ (kq : Nat) (x28_4 : Bool), v28 = .bool x28_4 ∧ Aside0 (laws_FnTurnMirror.j0 kq t552 x28_4 t546 t547 t548 t549 t554 t555 t556 t557 = some r) ∧ Aside0 (kq ≤ k) ∧ Aside0 (Kd.Q (Kd.int .i64) 3 wc w.heap.size (fun k_ => some k_ ≠ ((.slice Ao14 t557.length co14) : Value).ownBlock) (.slice Ao9 t549.length co9) t549) ∧ Aside0 (Kd.Q (Kd.int .i64) 3 wc w.heap.size (fun k_ => some k_ ≠ ((.slice Ao9 t549.length co9) : Value).ownBlock) (.slice Ao14 t557.length co14) t557) ∧ Aside0 (wc.heap[gb553]? = some (.cells #[.int .i64 t546, .int .i64 t547, .int .i64 t548, (.slice Ao9 t549.length co9)] 26 (0, 0))) ∧ Aside0 (wc.heap[gb560]? = some (.cells #[.int .i64 t554, .int .i64 t555, .int .i64 t556, (.slice Ao14 t557.length co14)] 26 (0, 0))) ∧ Aside0 (Below w.heap.size w wc))
  case first =>
    have H := HC5.out
    clear HC5
    replace H := Option.bind_eq_some_iff.mp H
    obtain ⟨⟨t561, t562, t563, t564⟩, A150, H⟩ := H
    replace H : ((laws_equalImage.f k t554 t555 t556 t557 t561 t562 t563 t564).bind fun t567 => (if t567 = true then (laws_FnTurnMirror.j0 k t552 (t554 == 0) t546 t547 t548 t549 t554 t555 t556 t557) else (laws_FnTurnMirror.j0 k t552 true t546 t547 t548 t549 t554 t555 t556 t557))) = some r := H
    have A15 := Aside0.mk A150
    clear A150
    replace H := Option.bind_eq_some_iff.mp H
    obtain ⟨t567, A160, H⟩ := H
    replace H : (if t567 = true then (laws_FnTurnMirror.j0 k t552 (t554 == 0) t546 t547 t548 t549 t554 t555 t556 t557) else (laws_FnTurnMirror.j0 k t552 true t546 t547 t548 t549 t554 t555 t556 t557)) = some r := H
    have A16 := Aside0.mk A160
    clear A160
    by_cases c17 : t567 = true
    · subst c17
      have H1 : (laws_FnTurnMirror.j0 k t552 (t554 == 0) t546 t547 t548 t549 t554 t555 t556 t557) = some r := by rw [if_pos rfl] at H; exact H
      clear H
      have H := H1
      clear H1
      have H' := Aside0.mk H
      clear H
      try go_wp2
      have n0_ : Aside0 (Kd.Q (Kd.int .i64) 3 ((((w11.setCell ⟨gb560, 0, none⟩ (.int .i64 t554)).setCell ⟨gb560, 1, none⟩ (.int .i64 t555)).setCell ⟨gb560, 2, none⟩ (.int .i64 t556)).setCell ⟨gb560, 3, none⟩ (.slice Ao14 t557.length co14)) w.heap.size (fun k_ => some k_ ≠ (.slice Ao14 t557.length co14 : Value).ownBlock) (.slice Ao9 t549.length co9) t549) := ⟨by (with_reducible repeat (first | apply Kd.Q_alloc | apply Kd.Q_drewN | apply Kd.Q_drew)); exact Kd.Q_mono (Kd.Q_far (p := ⟨gb560, 3, none⟩) (Kd.Q_far (p := ⟨gb560, 2, none⟩) (Kd.Q_far (p := ⟨gb560, 1, none⟩) (Kd.Q_far (p := ⟨gb560, 0, none⟩) (Kd.Q_types HO551.out BK560.out (by decide)) (fun _ hk => hk.2) (.int .i64 t554)) (fun _ hk => hk.2) (.int .i64 t555)) (fun _ hk => hk.2) (.int .i64 t556)) (fun _ hk => hk.2) (.slice Ao14 t557.length co14)) (fun _ hk => hk.1.2)⟩
      have n1_ : Aside0 (Kd.R (Kd.int .i64) 3 ((((w11.setCell ⟨gb560, 0, none⟩ (.int .i64 t554)).setCell ⟨gb560, 1, none⟩ (.int .i64 t555)).setCell ⟨gb560, 2, none⟩ (.int .i64 t556)).setCell ⟨gb560, 3, none⟩ (.slice Ao14 t557.length co14)) w.heap.size (fun k_ => some k_ ≠ (.slice Ao9 t549.length co9 : Value).ownBlock) (.slice Ao14 t557.length co14) t557) := ⟨B.kr0 (Kd.R_mono (B.rf4 HO559 BK560) (fun _ hk => hk.1.2))⟩
      have n2_ : Aside0 (((((w11.setCell ⟨gb560, 0, none⟩ (.int .i64 t554)).setCell ⟨gb560, 1, none⟩ (.int .i64 t555)).setCell ⟨gb560, 2, none⟩ (.int .i64 t556)).setCell ⟨gb560, 3, none⟩ (.slice Ao14 t557.length co14)).heap[gb553]? = some (.cells #[.int .i64 t546, .int .i64 t547, .int .i64 t548, .slice Ao9 t549.length co9] 26 (0, 0))) := ⟨B.kb0 (B.bf4 BK553 NB553_560)⟩
      have n3_ : Aside0 (((((w11.setCell ⟨gb560, 0, none⟩ (.int .i64 t554)).setCell ⟨gb560, 1, none⟩ (.int .i64 t555)).setCell ⟨gb560, 2, none⟩ (.int .i64 t556)).setCell ⟨gb560, 3, none⟩ (.slice Ao14 t557.length co14)).heap[gb560]? = some (.cells #[.int .i64 t554, .int .i64 t555, .int .i64 t556, .slice Ao14 t557.length co14] 26 (0, 0))) := ⟨B.kb0 (B.bp4 BK560)⟩
      have n4_ : Aside0 (Below w.heap.size w ((((w11.setCell ⟨gb560, 0, none⟩ (.int .i64 t554)).setCell ⟨gb560, 1, none⟩ (.int .i64 t555)).setCell ⟨gb560, 2, none⟩ (.int .i64 t556)).setCell ⟨gb560, 3, none⟩ (.slice Ao14 t557.length co14))) := ⟨B.bl HB⟩
      (try clear HO551)
      (try clear HO559)
      (try clear BK553)
      (try clear BK560)
      (try clear HB)
      generalize ((((w11.setCell ⟨gb560, 0, none⟩ (.int .i64 t554)).setCell ⟨gb560, 1, none⟩ (.int .i64 t555)).setCell ⟨gb560, 2, none⟩ (.int .i64 t556)).setCell ⟨gb560, 3, none⟩ (.slice Ao14 t557.length co14)) = w18 at n0_ n1_ n2_ n3_ n4_ ⊢
      have HO551 := n0_
      have HO559 := n1_
      have BK553 := n2_
      have BK560 := n3_
      have HB := n4_
      clear n0_ n1_ n2_ n3_ n4_
      have n0_ := Aside0.mk (Kd.Q_drew HO551.out)
      have n1_ := Aside0.mk (Kd.R_drew HO559.out)
      have n2_ := Aside0.mk (blk_drew BK553.out)
      have n3_ := Aside0.mk (blk_drew BK560.out)
      have n4_ := Aside0.mk (below_drew1 HB.out)
      clear HO551 HO559 BK553 BK560 HB
      have HO551 := n0_
      have HO559 := n1_
      have BK553 := n2_
      have BK560 := n3_
      have HB := n4_
      clear n0_ n1_ n2_ n3_ n4_
      refine start_ (n := 11) (S := fun w' => w'.cell? ⟨gb560, 0, none⟩ = some (.int .i64 t554) ∧ w'.cell? ⟨gb560, 1, none⟩ = some (.int .i64 t555) ∧ w'.cell? ⟨gb560, 2, none⟩ = some (.int .i64 t556) ∧ w'.cell? ⟨gb560, 3, none⟩ = some (.slice Ao14 t557.length co14) ∧ w'.cell? ⟨gb553, 0, none⟩ = some (.int .i64 t546) ∧ w'.cell? ⟨gb553, 1, none⟩ = some (.int .i64 t547) ∧ w'.cell? ⟨gb553, 2, none⟩ = some (.int .i64 t548) ∧ w'.cell? ⟨gb553, 3, none⟩ = some (.slice Ao9 t549.length co9)) (ds := []) #[false, false, false, false, false, false, false, false, false, false, false] (by kernel_rfl) rfl rfl ⟨B.bc BK560 0, B.bc BK560 1, B.bc BK560 2, B.bc BK560 3, B.bc BK553 0, B.bc BK553 1, B.bc BK553 2, B.bc BK553 3⟩ (fun hHeld => ?_); refine with_tabW laws_FnTurnMirror.tab5 laws_FnTurnMirror.bits5 (fun HT_ HW_ => ?_)
      generalize w18.drew = w19 at HO551 HO559 BK553 BK560 HB hHeld ⊢
      refine pure_ (i := 2) (N := some 20) (v := ?_) (a' := ?_) #[false, false, true, false, false, false, false, false, false, false, false] rfl rfl (any_of HT_.out (by kernel_rfl)) (fun _ _ _ h => h) (Or.inl ⟨by rfl, ?_⟩) ?_ ?_
      rotate_left
      · intro w'
        go_simp
        with_reducible rfl
      rotate_left
      · simp only [Act.put, List.setIfInBounds_toArray, List.set_cons_zero, List.set_cons_succ, i64_w, i32_w]
        rfl
      refine take_ (i := 0) (N := some 18) (v := ?_) (a' := ?_) #[true, false, true, false, false, false, false, false, false, false, false] rfl rfl (take_ofW HT_.out HW_.out (by kernel_rfl)) (fun _ _ _ h => h) (Or.inl ⟨by rfl, ?_⟩) hHeld ?_ ?_
      rotate_left
      · rintro w' ⟨s0, s1, s2, s3, s4, s5, s6, s7⟩
        go_simp
        with_reducible rfl
      rotate_left
      · simp only [Act.put, List.setIfInBounds_toArray, List.set_cons_zero, List.set_cons_succ, i64_w, i32_w]
        rfl
      refine take_ (i := 1) (N := some 19) (v := ?_) (a' := ?_) #[true, true, true, false, false, false, false, false, false, false, false] rfl rfl (take_ofW HT_.out HW_.out (by kernel_rfl)) (fun _ _ _ h => h) (Or.inl ⟨by rfl, ?_⟩) hHeld ?_ ?_
      rotate_left
      · rintro w' ⟨s0, s1, s2, s3, s4, s5, s6, s7⟩
        go_simp
        with_reducible rfl
      rotate_left
      · simp only [Act.put, List.setIfInBounds_toArray, List.set_cons_zero, List.set_cons_succ, i64_w, i32_w]
        rfl
      refine one_ (i := 3) (N := some 21) #[true, true, true, true, false, false, false, false, false, false, false] rfl rfl (one_of HT_.out (by kernel_rfl)) (by decide) (fun K hK => ?_)
      refine goes_ Try.func24 (by kernel_rfl) rfl #[.agg #[.int .i64 t546, .int .i64 t547, .int .i64 t548, .slice Ao9 t549.length co9], .int .i64 t552] (by rfl) rfl rfl B.am ?_
      with_reducible refine (spec_TurnImage.calls k t546 t547 t548 _ _ t549 t552 t561 t562 t563 t564 _ ?side1 ?side2 A15.out).mono ?_
      (case side1 => exact B.kc ((Kd.Q_reads' HO551.out).2.2))
      (case side2 => exact (Kd.Q_reads' HO551.out).2.1)
      rintro e w20 ⟨v565, rfl, ho0, hb⟩
      refine ⟨_, rfl, ?_⟩
      have n0_ := Aside0.mk (Kd.Q_elder' (B.kq HO551) (Kd.R_base ho0) hb)
      have n1_ := Aside0.mk (Kd.R_elder' (B.kr HO559) (Kd.R_base ho0) hb)
      have n2_ := Aside0.mk (Kd.R_lower (Kd.R_new' (Kd.R_new' ho0 (Kd.Q_lt (B.kq HO551))) (Kd.R_lt (B.kr HO559))) (below_size (B.bl HB)))
      have n3_ := Aside0.mk (blk_below (B.kb BK553) hb)
      have n4_ := Aside0.mk (blk_below (B.kb BK560) hb)
      have n5_ := Aside0.mk (below_step (B.bl HB) hb)
      clear HO551 HO559 BK553 BK560 HB
      have HO551 := n0_
      have HO559 := n1_
      have HO566 := n2_
      have BK553 := n3_
      have BK560 := n4_
      have HB := n5_
      clear n0_ n1_ n2_ n3_ n4_ n5_
      (try clear hb)
      (try clear hb2)
      (try clear hk)
      (try clear hi)
      (try clear ho0)
      obtain ⟨Ao21, co21, eo21⟩ := Kd.R_slice HO566.out
      (first | subst eo21 | (injection eo21 with f1_ f2_ f3_; have f4_ := f1_.symm; have f5_ := f3_.symm; clear f1_ f2_ f3_; subst f4_; subst f5_))
      refine hK.out _ _ ⟨B.bc BK560 0, B.bc BK560 1, B.bc BK560 2, B.bc BK560 3, B.bc BK553 0, B.bc BK553 1, B.bc BK553 2, B.bc BK553 3⟩ (fun hHeld => ?_)
      clear hK K
      refine norm_ (a' := ?_) ?_ ?_
      rotate_left
      · show Act.put _ (some 21) _ = _
        simp only [Act.put, List.setIfInBounds_toArray, List.set_cons_zero, List.set_cons_succ, i64_w, i32_w]
        rfl
      refine one_ (i := 4) (N := some 22) #[true, true, true, true, true, false, false, false, false, false, false] rfl rfl (one_of HT_.out (by kernel_rfl)) (by decide) (fun K hK => ?_)
      refine goes_ Try.func20 (by kernel_rfl) rfl #[.agg #[.int .i64 t554, .int .i64 t555, .int .i64 t556, .slice Ao14 t557.length co14], .agg #[.int .i64 t561, .int .i64 t562, .int .i64 t563, .slice Ao21 t564.length co21]] (by rfl) rfl rfl B.am ?_
      with_reducible refine (laws_equalImage.calls k t554 t555 t556 _ _ t557 t561 t562 t563 _ _ t564 true _ ?side1 ?side2 ?side3 ?side4 A16.out).mono ?_
      (case side1 => exact B.kc ((Kd.R_reads' HO559.out).2.2))
      (case side2 => exact (Kd.R_reads' HO559.out).2.1)
      (case side3 => exact B.kc ((Kd.R_reads' HO566.out).2.2))
      (case side4 => exact (Kd.R_reads' HO566.out).2.1)
      rintro e w22 ⟨rfl, hb⟩
      refine ⟨_, rfl, ?_⟩
      have n0_ := Aside0.mk (Kd.Q_below (B.kq HO551) hb)
      have n1_ := Aside0.mk (Kd.R_below (B.kr HO559) hb)
      have n2_ := Aside0.mk (Kd.R_below (B.kr HO566) hb)
      have n3_ := Aside0.mk (blk_below (B.kb BK553) hb)
      have n4_ := Aside0.mk (blk_below (B.kb BK560) hb)
      have n5_ := Aside0.mk (below_step (B.bl HB) hb)
      clear HO551 HO559 HO566 BK553 BK560 HB
      have HO551 := n0_
      have HO559 := n1_
      have HO566 := n2_
      have BK553 := n3_
      have BK560 := n4_
      have HB := n5_
      clear n0_ n1_ n2_ n3_ n4_ n5_
      (try clear hb)
      (try clear hb2)
      (try clear hk)
      (try clear hi)
      refine hK.out _ _ ⟨B.bc BK560 0, B.bc BK560 1, B.bc BK560 2, B.bc BK560 3, B.bc BK553 0, B.bc BK553 1, B.bc BK553 2, B.bc BK553 3⟩ (fun hHeld => ?_)
      clear hK K
      refine norm_ (a' := ?_) ?_ ?_
      rotate_left
      · show Act.put _ (some 22) _ = _
        simp only [Act.put, List.setIfInBounds_toArray, List.set_cons_zero, List.set_cons_succ, i64_w, i32_w]
        rfl
      refine pure_ (i := 5) (N := some 23) (v := ?_) (a' := ?_) #[true, true, true, true, true, true, false, false, false, false, false] rfl rfl (any_of HT_.out (by kernel_rfl)) (fun _ _ _ h => h) (Or.inl ⟨by rfl, ?_⟩) ?_ ?_
      rotate_left
      · intro w'
        go_simp
        with_reducible rfl
      rotate_left
      · simp only [Act.put, List.setIfInBounds_toArray, List.set_cons_zero, List.set_cons_succ, i64_w, i32_w]
        rfl
      refine pure_ (i := 6) (N := some 24) (v := ?_) (a' := ?_) #[true, true, true, true, true, true, true, false, false, false, false] rfl rfl (any_of HT_.out (by kernel_rfl)) (fun _ _ _ h => h) (Or.inl ⟨by rfl, ?_⟩) ?_ ?_
      rotate_left
      · intro w'
        go_simp
        with_reducible rfl
      rotate_left
      · simp only [Act.put, List.setIfInBounds_toArray, List.set_cons_zero, List.set_cons_succ, i64_w, i32_w]
        rfl
      refine pure_ (i := 7) (N := some 25) (v := ?_) (a' := ?_) #[true, true, true, true, true, true, true, true, false, false, false] rfl rfl (any_of HT_.out (by kernel_rfl)) (fun _ _ _ h => h) (Or.inl ⟨by rfl, ?_⟩) ?_ ?_
      rotate_left
      · intro w'
        go_simp
        with_reducible rfl
      rotate_left
      · simp only [Act.put, List.setIfInBounds_toArray, List.set_cons_zero, List.set_cons_succ, i64_w, i32_w]
        rfl
      refine take_ (i := 8) (N := some 26) (v := ?_) (a' := ?_) #[true, true, true, true, true, true, true, true, true, false, false] rfl rfl (take_ofW HT_.out HW_.out (by kernel_rfl)) (fun _ _ _ h => h) (Or.inl ⟨by rfl, ?_⟩) hHeld ?_ ?_
      rotate_left
      · rintro w' ⟨s0, s1, s2, s3, s4, s5, s6, s7⟩
        go_simp
        with_reducible rfl
      rotate_left
      · simp only [Act.put, List.setIfInBounds_toArray, List.set_cons_zero, List.set_cons_succ, i64_w, i32_w]
        rfl
      refine pure_ (i := 9) (N := some 27) (v := ?_) (a' := ?_) #[true, true, true, true, true, true, true, true, true, true, false] rfl rfl (any_of HT_.out (by kernel_rfl)) (fun _ _ _ h => h) (Or.inl ⟨by rfl, ?_⟩) ?_ ?_
      rotate_left
      · intro w'
        go_simp
        with_reducible rfl
      rotate_left
      · simp only [Act.put, List.setIfInBounds_toArray, List.set_cons_zero, List.set_cons_succ, i64_w, i32_w]
        rfl
      refine pure_ (i := 10) (N := some 28) (v := ?_) (a' := ?_) #[true, true, true, true, true, true, true, true, true, true, true] rfl rfl (any_of HT_.out (by kernel_rfl)) (fun _ _ _ h => h) (Or.inl ⟨by rfl, ?_⟩) ?_ ?_
      rotate_left
      · intro w'
        go_simp
        with_reducible rfl
      rotate_left
      · simp only [Act.put, List.setIfInBounds_toArray, List.set_cons_zero, List.set_cons_succ, i64_w, i32_w]
        rfl
      refine done_ (done_of HT_.out (by kernel_rfl)) ?_
      try go_wp2
      go_meet
      case rel => exact ⟨_, ((t554 == 0)), (by first | rfl | (simp; done) | (simp [*]; done)), H', ⟨by first | omega | exact Nat.le_refl _⟩, ⟨by (with_reducible repeat (first | apply Kd.Q_alloc | apply Kd.Q_drewN | apply Kd.Q_drew)); exact Kd.Q_mono HO551.out (fun _ hk => hk.1)⟩, ⟨Kd.Q_of_R (B.kr0 (Kd.R_mono HO559.out (fun _ hk => hk.1)))⟩, ⟨B.kb BK553⟩, ⟨B.kb BK560⟩, ⟨B.bl HB⟩⟩
    replace c17 := Bool.eq_false_iff.mpr c17
    subst c17
    have H1 : (laws_FnTurnMirror.j0 k t552 true t546 t547 t548 t549 t554 t555 t556 t557) = some r := by rw [if_neg (show ¬ (false = true) by decide)] at H; exact H
    clear H
    have H := H1
    clear H1
    have H' := Aside0.mk H
    clear H
    try go_wp2
    have n0_ : Aside0 (Kd.Q (Kd.int .i64) 3 ((((w11.setCell ⟨gb560, 0, none⟩ (.int .i64 t554)).setCell ⟨gb560, 1, none⟩ (.int .i64 t555)).setCell ⟨gb560, 2, none⟩ (.int .i64 t556)).setCell ⟨gb560, 3, none⟩ (.slice Ao14 t557.length co14)) w.heap.size (fun k_ => some k_ ≠ (.slice Ao14 t557.length co14 : Value).ownBlock) (.slice Ao9 t549.length co9) t549) := ⟨by (with_reducible repeat (first | apply Kd.Q_alloc | apply Kd.Q_drewN | apply Kd.Q_drew)); exact Kd.Q_mono (Kd.Q_far (p := ⟨gb560, 3, none⟩) (Kd.Q_far (p := ⟨gb560, 2, none⟩) (Kd.Q_far (p := ⟨gb560, 1, none⟩) (Kd.Q_far (p := ⟨gb560, 0, none⟩) (Kd.Q_types HO551.out BK560.out (by decide)) (fun _ hk => hk.2) (.int .i64 t554)) (fun _ hk => hk.2) (.int .i64 t555)) (fun _ hk => hk.2) (.int .i64 t556)) (fun _ hk => hk.2) (.slice Ao14 t557.length co14)) (fun _ hk => hk.1.2)⟩
    have n1_ : Aside0 (Kd.R (Kd.int .i64) 3 ((((w11.setCell ⟨gb560, 0, none⟩ (.int .i64 t554)).setCell ⟨gb560, 1, none⟩ (.int .i64 t555)).setCell ⟨gb560, 2, none⟩ (.int .i64 t556)).setCell ⟨gb560, 3, none⟩ (.slice Ao14 t557.length co14)) w.heap.size (fun k_ => some k_ ≠ (.slice Ao9 t549.length co9 : Value).ownBlock) (.slice Ao14 t557.length co14) t557) := ⟨B.kr0 (Kd.R_mono (B.rf4 HO559 BK560) (fun _ hk => hk.1.2))⟩
    have n2_ : Aside0 (((((w11.setCell ⟨gb560, 0, none⟩ (.int .i64 t554)).setCell ⟨gb560, 1, none⟩ (.int .i64 t555)).setCell ⟨gb560, 2, none⟩ (.int .i64 t556)).setCell ⟨gb560, 3, none⟩ (.slice Ao14 t557.length co14)).heap[gb553]? = some (.cells #[.int .i64 t546, .int .i64 t547, .int .i64 t548, .slice Ao9 t549.length co9] 26 (0, 0))) := ⟨B.kb0 (B.bf4 BK553 NB553_560)⟩
    have n3_ : Aside0 (((((w11.setCell ⟨gb560, 0, none⟩ (.int .i64 t554)).setCell ⟨gb560, 1, none⟩ (.int .i64 t555)).setCell ⟨gb560, 2, none⟩ (.int .i64 t556)).setCell ⟨gb560, 3, none⟩ (.slice Ao14 t557.length co14)).heap[gb560]? = some (.cells #[.int .i64 t554, .int .i64 t555, .int .i64 t556, .slice Ao14 t557.length co14] 26 (0, 0))) := ⟨B.kb0 (B.bp4 BK560)⟩
    have n4_ : Aside0 (Below w.heap.size w ((((w11.setCell ⟨gb560, 0, none⟩ (.int .i64 t554)).setCell ⟨gb560, 1, none⟩ (.int .i64 t555)).setCell ⟨gb560, 2, none⟩ (.int .i64 t556)).setCell ⟨gb560, 3, none⟩ (.slice Ao14 t557.length co14))) := ⟨B.bl HB⟩
    (try clear HO551)
    (try clear HO559)
    (try clear BK553)
    (try clear BK560)
    (try clear HB)
    generalize ((((w11.setCell ⟨gb560, 0, none⟩ (.int .i64 t554)).setCell ⟨gb560, 1, none⟩ (.int .i64 t555)).setCell ⟨gb560, 2, none⟩ (.int .i64 t556)).setCell ⟨gb560, 3, none⟩ (.slice Ao14 t557.length co14)) = w23 at n0_ n1_ n2_ n3_ n4_ ⊢
    have HO551 := n0_
    have HO559 := n1_
    have BK553 := n2_
    have BK560 := n3_
    have HB := n4_
    clear n0_ n1_ n2_ n3_ n4_
    have n0_ := Aside0.mk (Kd.Q_drew HO551.out)
    have n1_ := Aside0.mk (Kd.R_drew HO559.out)
    have n2_ := Aside0.mk (blk_drew BK553.out)
    have n3_ := Aside0.mk (blk_drew BK560.out)
    have n4_ := Aside0.mk (below_drew1 HB.out)
    clear HO551 HO559 BK553 BK560 HB
    have HO551 := n0_
    have HO559 := n1_
    have BK553 := n2_
    have BK560 := n3_
    have HB := n4_
    clear n0_ n1_ n2_ n3_ n4_
    refine start_ (n := 11) (S := fun w' => w'.cell? ⟨gb560, 0, none⟩ = some (.int .i64 t554) ∧ w'.cell? ⟨gb560, 1, none⟩ = some (.int .i64 t555) ∧ w'.cell? ⟨gb560, 2, none⟩ = some (.int .i64 t556) ∧ w'.cell? ⟨gb560, 3, none⟩ = some (.slice Ao14 t557.length co14) ∧ w'.cell? ⟨gb553, 0, none⟩ = some (.int .i64 t546) ∧ w'.cell? ⟨gb553, 1, none⟩ = some (.int .i64 t547) ∧ w'.cell? ⟨gb553, 2, none⟩ = some (.int .i64 t548) ∧ w'.cell? ⟨gb553, 3, none⟩ = some (.slice Ao9 t549.length co9)) (ds := []) #[false, false, false, false, false, false, false, false, false, false, false] (by kernel_rfl) rfl rfl ⟨B.bc BK560 0, B.bc BK560 1, B.bc BK560 2, B.bc BK560 3, B.bc BK553 0, B.bc BK553 1, B.bc BK553 2, B.bc BK553 3⟩ (fun hHeld => ?_); refine with_tabW laws_FnTurnMirror.tab5 laws_FnTurnMirror.bits5 (fun HT_ HW_ => ?_)
    generalize w23.drew = w24 at HO551 HO559 BK553 BK560 HB hHeld ⊢
    refine pure_ (i := 2) (N := some 20) (v := ?_) (a' := ?_) #[false, false, true, false, false, false, false, false, false, false, false] rfl rfl (any_of HT_.out (by kernel_rfl)) (fun _ _ _ h => h) (Or.inl ⟨by rfl, ?_⟩) ?_ ?_
    rotate_left
    · intro w'
      go_simp
      with_reducible rfl
    rotate_left
    · simp only [Act.put, List.setIfInBounds_toArray, List.set_cons_zero, List.set_cons_succ, i64_w, i32_w]
      rfl
    refine take_ (i := 0) (N := some 18) (v := ?_) (a' := ?_) #[true, false, true, false, false, false, false, false, false, false, false] rfl rfl (take_ofW HT_.out HW_.out (by kernel_rfl)) (fun _ _ _ h => h) (Or.inl ⟨by rfl, ?_⟩) hHeld ?_ ?_
    rotate_left
    · rintro w' ⟨s0, s1, s2, s3, s4, s5, s6, s7⟩
      go_simp
      with_reducible rfl
    rotate_left
    · simp only [Act.put, List.setIfInBounds_toArray, List.set_cons_zero, List.set_cons_succ, i64_w, i32_w]
      rfl
    refine take_ (i := 1) (N := some 19) (v := ?_) (a' := ?_) #[true, true, true, false, false, false, false, false, false, false, false] rfl rfl (take_ofW HT_.out HW_.out (by kernel_rfl)) (fun _ _ _ h => h) (Or.inl ⟨by rfl, ?_⟩) hHeld ?_ ?_
    rotate_left
    · rintro w' ⟨s0, s1, s2, s3, s4, s5, s6, s7⟩
      go_simp
      with_reducible rfl
    rotate_left
    · simp only [Act.put, List.setIfInBounds_toArray, List.set_cons_zero, List.set_cons_succ, i64_w, i32_w]
      rfl
    refine one_ (i := 3) (N := some 21) #[true, true, true, true, false, false, false, false, false, false, false] rfl rfl (one_of HT_.out (by kernel_rfl)) (by decide) (fun K hK => ?_)
    refine goes_ Try.func24 (by kernel_rfl) rfl #[.agg #[.int .i64 t546, .int .i64 t547, .int .i64 t548, .slice Ao9 t549.length co9], .int .i64 t552] (by rfl) rfl rfl B.am ?_
    with_reducible refine (spec_TurnImage.calls k t546 t547 t548 _ _ t549 t552 t561 t562 t563 t564 _ ?side1 ?side2 A15.out).mono ?_
    (case side1 => exact B.kc ((Kd.Q_reads' HO551.out).2.2))
    (case side2 => exact (Kd.Q_reads' HO551.out).2.1)
    rintro e w25 ⟨v565, rfl, ho0, hb⟩
    refine ⟨_, rfl, ?_⟩
    have n0_ := Aside0.mk (Kd.Q_elder' (B.kq HO551) (Kd.R_base ho0) hb)
    have n1_ := Aside0.mk (Kd.R_elder' (B.kr HO559) (Kd.R_base ho0) hb)
    have n2_ := Aside0.mk (Kd.R_lower (Kd.R_new' (Kd.R_new' ho0 (Kd.Q_lt (B.kq HO551))) (Kd.R_lt (B.kr HO559))) (below_size (B.bl HB)))
    have n3_ := Aside0.mk (blk_below (B.kb BK553) hb)
    have n4_ := Aside0.mk (blk_below (B.kb BK560) hb)
    have n5_ := Aside0.mk (below_step (B.bl HB) hb)
    clear HO551 HO559 BK553 BK560 HB
    have HO551 := n0_
    have HO559 := n1_
    have HO566 := n2_
    have BK553 := n3_
    have BK560 := n4_
    have HB := n5_
    clear n0_ n1_ n2_ n3_ n4_ n5_
    (try clear hb)
    (try clear hb2)
    (try clear hk)
    (try clear hi)
    (try clear ho0)
    obtain ⟨Ao26, co26, eo26⟩ := Kd.R_slice HO566.out
    (first | subst eo26 | (injection eo26 with f1_ f2_ f3_; have f4_ := f1_.symm; have f5_ := f3_.symm; clear f1_ f2_ f3_; subst f4_; subst f5_))
    refine hK.out _ _ ⟨B.bc BK560 0, B.bc BK560 1, B.bc BK560 2, B.bc BK560 3, B.bc BK553 0, B.bc BK553 1, B.bc BK553 2, B.bc BK553 3⟩ (fun hHeld => ?_)
    clear hK K
    refine norm_ (a' := ?_) ?_ ?_
    rotate_left
    · show Act.put _ (some 21) _ = _
      simp only [Act.put, List.setIfInBounds_toArray, List.set_cons_zero, List.set_cons_succ, i64_w, i32_w]
      rfl
    refine one_ (i := 4) (N := some 22) #[true, true, true, true, true, false, false, false, false, false, false] rfl rfl (one_of HT_.out (by kernel_rfl)) (by decide) (fun K hK => ?_)
    refine goes_ Try.func20 (by kernel_rfl) rfl #[.agg #[.int .i64 t554, .int .i64 t555, .int .i64 t556, .slice Ao14 t557.length co14], .agg #[.int .i64 t561, .int .i64 t562, .int .i64 t563, .slice Ao26 t564.length co26]] (by rfl) rfl rfl B.am ?_
    with_reducible refine (laws_equalImage.calls k t554 t555 t556 _ _ t557 t561 t562 t563 _ _ t564 false _ ?side1 ?side2 ?side3 ?side4 A16.out).mono ?_
    (case side1 => exact B.kc ((Kd.R_reads' HO559.out).2.2))
    (case side2 => exact (Kd.R_reads' HO559.out).2.1)
    (case side3 => exact B.kc ((Kd.R_reads' HO566.out).2.2))
    (case side4 => exact (Kd.R_reads' HO566.out).2.1)
    rintro e w27 ⟨rfl, hb⟩
    refine ⟨_, rfl, ?_⟩
    have n0_ := Aside0.mk (Kd.Q_below (B.kq HO551) hb)
    have n1_ := Aside0.mk (Kd.R_below (B.kr HO559) hb)
    have n2_ := Aside0.mk (Kd.R_below (B.kr HO566) hb)
    have n3_ := Aside0.mk (blk_below (B.kb BK553) hb)
    have n4_ := Aside0.mk (blk_below (B.kb BK560) hb)
    have n5_ := Aside0.mk (below_step (B.bl HB) hb)
    clear HO551 HO559 HO566 BK553 BK560 HB
    have HO551 := n0_
    have HO559 := n1_
    have HO566 := n2_
    have BK553 := n3_
    have BK560 := n4_
    have HB := n5_
    clear n0_ n1_ n2_ n3_ n4_ n5_
    (try clear hb)
    (try clear hb2)
    (try clear hk)
    (try clear hi)
    refine hK.out _ _ ⟨B.bc BK560 0, B.bc BK560 1, B.bc BK560 2, B.bc BK560 3, B.bc BK553 0, B.bc BK553 1, B.bc BK553 2, B.bc BK553 3⟩ (fun hHeld => ?_)
    clear hK K
    refine norm_ (a' := ?_) ?_ ?_
    rotate_left
    · show Act.put _ (some 22) _ = _
      simp only [Act.put, List.setIfInBounds_toArray, List.set_cons_zero, List.set_cons_succ, i64_w, i32_w]
      rfl
    refine pure_ (i := 5) (N := some 23) (v := ?_) (a' := ?_) #[true, true, true, true, true, true, false, false, false, false, false] rfl rfl (any_of HT_.out (by kernel_rfl)) (fun _ _ _ h => h) (Or.inl ⟨by rfl, ?_⟩) ?_ ?_
    rotate_left
    · intro w'
      go_simp
      with_reducible rfl
    rotate_left
    · simp only [Act.put, List.setIfInBounds_toArray, List.set_cons_zero, List.set_cons_succ, i64_w, i32_w]
      rfl
    refine pure_ (i := 6) (N := some 24) (v := ?_) (a' := ?_) #[true, true, true, true, true, true, true, false, false, false, false] rfl rfl (any_of HT_.out (by kernel_rfl)) (fun _ _ _ h => h) (Or.inl ⟨by rfl, ?_⟩) ?_ ?_
    rotate_left
    · intro w'
      go_simp
      with_reducible rfl
    rotate_left
    · simp only [Act.put, List.setIfInBounds_toArray, List.set_cons_zero, List.set_cons_succ, i64_w, i32_w]
      rfl
    refine pure_ (i := 7) (N := some 25) (v := undef) (a' := ?_) #[true, true, true, true, true, true, true, true, false, false, false] rfl rfl (any_of HT_.out (by kernel_rfl)) (fun _ _ _ h => h) (Or.inr ⟨by rfl, rfl⟩) ?_ ?_
    rotate_left
    · simp only [Act.put, List.setIfInBounds_toArray, List.set_cons_zero, List.set_cons_succ, i64_w, i32_w]
      rfl
    refine pure_ (i := 8) (N := some 26) (v := undef) (a' := ?_) #[true, true, true, true, true, true, true, true, true, false, false] rfl rfl (any_of HT_.out (by kernel_rfl)) (fun _ _ _ h => h) (Or.inr ⟨by rfl, rfl⟩) ?_ ?_
    rotate_left
    · simp only [Act.put, List.setIfInBounds_toArray, List.set_cons_zero, List.set_cons_succ, i64_w, i32_w]
      rfl
    refine pure_ (i := 9) (N := some 27) (v := undef) (a' := ?_) #[true, true, true, true, true, true, true, true, true, true, false] rfl rfl (any_of HT_.out (by kernel_rfl)) (fun _ _ _ h => h) (Or.inr ⟨by rfl, rfl⟩) ?_ ?_
    rotate_left
    · simp only [Act.put, List.setIfInBounds_toArray, List.set_cons_zero, List.set_cons_succ, i64_w, i32_w]
      rfl
    refine pure_ (i := 10) (N := some 28) (v := ?_) (a' := ?_) #[true, true, true, true, true, true, true, true, true, true, true] rfl rfl (any_of HT_.out (by kernel_rfl)) (fun _ _ _ h => h) (Or.inl ⟨by rfl, ?_⟩) ?_ ?_
    rotate_left
    · intro w'
      go_simp
      with_reducible rfl
    rotate_left
    · simp only [Act.put, List.setIfInBounds_toArray, List.set_cons_zero, List.set_cons_succ, i64_w, i32_w]
      rfl
    refine done_ (done_of HT_.out (by kernel_rfl)) ?_
    try go_wp2
    go_meet
    case rel => exact ⟨_, (true), (by first | rfl | (simp; done) | (simp [*]; done)), H', ⟨by first | omega | exact Nat.le_refl _⟩, ⟨by (with_reducible repeat (first | apply Kd.Q_alloc | apply Kd.Q_drewN | apply Kd.Q_drew)); exact Kd.Q_mono HO551.out (fun _ hk => hk.1)⟩, ⟨Kd.Q_of_R (B.kr0 (Kd.R_mono HO559.out (fun _ hk => hk.1)))⟩, ⟨B.kb BK553⟩, ⟨B.kb BK560⟩, ⟨B.bl HB⟩⟩
  case rest =>
    clear HC5
    try clear c1
    try clear c2
    try clear c2b0
    try clear c2b1
    try clear p2
    try clear c7
    try clear c12
    try clear c17
    try clear c20
    try clear c22
    try clear c23
    try clear c24
    try clear hcz13_0
    try clear hcz13_1
    try clear hcz13_2
    try clear hcz13_3
    try clear hcz8_0
    try clear hcz8_1
    try clear hcz8_2
    try clear hcz8_3
    try clear hfz13_0
    try clear hfz13_1
    try clear hfz13_2
    try clear hfz13_3
    try clear hfz8_0
    try clear hfz8_1
    try clear hfz8_2
    try clear hfz8_3
    obtain ⟨kq, x28_4, rfl, HA, HJ4, HO_554003, HO_561003, BK553, BK560, HB⟩ := hcut
    cases kq with
    | zero => exact absurd HA.out (by simp [laws_FnTurnMirror.j0])
    | succ kj4 =>
      have H := HA.out
      clear HA
      simp only [laws_FnTurnMirror.j0] at H
      by_cases c28 : x28_4 = true
      · subst c28
        have H1 : ((spec_TurnImage.f kj4 t546 t547 t548 t549 t552).bind fun bt568 => ((laws_equalImage.f kj4 t554 t555 t556 t557 bt568.1 bt568.2.1 bt568.2.2.1 bt568.2.2.2).bind fun t574 => (some t574))) = some r := by rw [if_pos rfl] at H; exact H
        clear H
        have H := H1
        clear H1
        replace H := Option.bind_eq_some_iff.mp H
        obtain ⟨⟨t568, t569, t570, t571⟩, A290, H⟩ := H
        replace H : ((laws_equalImage.f kj4 t554 t555 t556 t557 t568 t569 t570 t571).bind fun t574 => (some t574)) = some r := H
        have A29 := Aside0.mk A290
        clear A290
        replace H := Option.bind_eq_some_iff.mp H
        obtain ⟨t574, A300, H⟩ := H
        replace H : (some t574) = some r := H
        have A30 := Aside0.mk A300
        clear A300
        obtain rfl := Option.some.inj H
        simp only [Option.some.injEq, Prod.mk.injEq] at H
        obtain ⟨rfl⟩ := H
        try go_wp2
        have n0_ := Aside0.mk (Kd.Q_drew HO_554003.out)
        have n1_ := Aside0.mk (Kd.Q_drew HO_561003.out)
        have n2_ := Aside0.mk (blk_drew BK553.out)
        have n3_ := Aside0.mk (blk_drew BK560.out)
        have n4_ := Aside0.mk (below_drew1 HB.out)
        clear HO_554003 HO_561003 BK553 BK560 HB
        have HO_554003 := n0_
        have HO_561003 := n1_
        have BK553 := n2_
        have BK560 := n3_
        have HB := n4_
        clear n0_ n1_ n2_ n3_ n4_
        refine start_ (n := 6) (S := fun w' => w'.cell? ⟨gb560, 0, none⟩ = some (.int .i64 t554) ∧ w'.cell? ⟨gb560, 1, none⟩ = some (.int .i64 t555) ∧ w'.cell? ⟨gb560, 2, none⟩ = some (.int .i64 t556) ∧ w'.cell? ⟨gb560, 3, none⟩ = some (.slice Ao14 t557.length co14) ∧ w'.cell? ⟨gb553, 0, none⟩ = some (.int .i64 t546) ∧ w'.cell? ⟨gb553, 1, none⟩ = some (.int .i64 t547) ∧ w'.cell? ⟨gb553, 2, none⟩ = some (.int .i64 t548) ∧ w'.cell? ⟨gb553, 3, none⟩ = some (.slice Ao9 t549.length co9)) (ds := []) #[false, false, false, false, false, false] (by kernel_rfl) rfl rfl ⟨B.bc BK560 0, B.bc BK560 1, B.bc BK560 2, B.bc BK560 3, B.bc BK553 0, B.bc BK553 1, B.bc BK553 2, B.bc BK553 3⟩ (fun hHeld => ?_)
        generalize wc.drew = w31 at HO_554003 HO_561003 BK553 BK560 HB hHeld ⊢
        refine pure_ (i := 2) (N := some 31) (v := ?_) (a' := ?_) #[false, false, true, false, false, false] rfl rfl (by kernel_rfl) (fun _ _ _ h => h) (Or.inl ⟨by rfl, ?_⟩) ?_ ?_
        rotate_left
        · intro w'
          go_simp
          with_reducible rfl
        rotate_left
        · simp only [Act.put, List.setIfInBounds_toArray, List.set_cons_zero, List.set_cons_succ, i64_w, i32_w]
          rfl
        refine take_ (i := 0) (N := some 29) (v := ?_) (a' := ?_) #[true, false, true, false, false, false] rfl rfl (by kernel_rfl) (fun _ _ _ h => h) (Or.inl ⟨by rfl, ?_⟩) hHeld ?_ ?_
        rotate_left
        · rintro w' ⟨s0, s1, s2, s3, s4, s5, s6, s7⟩
          go_simp
          with_reducible rfl
        rotate_left
        · simp only [Act.put, List.setIfInBounds_toArray, List.set_cons_zero, List.set_cons_succ, i64_w, i32_w]
          rfl
        refine take_ (i := 1) (N := some 30) (v := ?_) (a' := ?_) #[true, true, true, false, false, false] rfl rfl (by kernel_rfl) (fun _ _ _ h => h) (Or.inl ⟨by rfl, ?_⟩) hHeld ?_ ?_
        rotate_left
        · rintro w' ⟨s0, s1, s2, s3, s4, s5, s6, s7⟩
          go_simp
          with_reducible rfl
        rotate_left
        · simp only [Act.put, List.setIfInBounds_toArray, List.set_cons_zero, List.set_cons_succ, i64_w, i32_w]
          rfl
        refine one_ (i := 3) (N := some 32) #[true, true, true, true, false, false] rfl rfl (by kernel_rfl) (by decide) (fun K hK => ?_)
        refine goes_ Try.func24 (by kernel_rfl) rfl #[.agg #[.int .i64 t546, .int .i64 t547, .int .i64 t548, .slice Ao9 t549.length co9], .int .i64 t552] (by rfl) rfl rfl B.am ?_
        with_reducible refine (spec_TurnImage.calls kj4 t546 t547 t548 _ _ t549 t552 t568 t569 t570 t571 _ ?side1 ?side2 A29.out).mono ?_
        (case side1 => exact B.kc ((Kd.Q_reads' HO_554003.out).2.2))
        (case side2 => exact (Kd.Q_reads' HO_554003.out).2.1)
        rintro e w32 ⟨v572, rfl, ho0, hb⟩
        refine ⟨_, rfl, ?_⟩
        have n0_ := Aside0.mk (Kd.Q_elder' (B.kq HO_554003) (Kd.R_base ho0) hb)
        have n1_ := Aside0.mk (Kd.Q_elder' (B.kq HO_561003) (Kd.R_base ho0) hb)
        have n2_ := Aside0.mk (Kd.R_lower (Kd.R_new' (Kd.R_new' ho0 (Kd.Q_lt (B.kq HO_554003))) (Kd.Q_lt (B.kq HO_561003))) (below_size (B.bl HB)))
        have n3_ := Aside0.mk (blk_below (B.kb BK553) hb)
        have n4_ := Aside0.mk (blk_below (B.kb BK560) hb)
        have n5_ := Aside0.mk (below_step (B.bl HB) hb)
        clear HO_554003 HO_561003 BK553 BK560 HB
        have HO_554003 := n0_
        have HO_561003 := n1_
        have HO573 := n2_
        have BK553 := n3_
        have BK560 := n4_
        have HB := n5_
        clear n0_ n1_ n2_ n3_ n4_ n5_
        (try clear hb)
        (try clear hb2)
        (try clear hk)
        (try clear hi)
        (try clear ho0)
        obtain ⟨Ao33, co33, eo33⟩ := Kd.R_slice HO573.out
        (first | subst eo33 | (injection eo33 with f1_ f2_ f3_; have f4_ := f1_.symm; have f5_ := f3_.symm; clear f1_ f2_ f3_; subst f4_; subst f5_))
        refine hK.out _ _ ⟨B.bc BK560 0, B.bc BK560 1, B.bc BK560 2, B.bc BK560 3, B.bc BK553 0, B.bc BK553 1, B.bc BK553 2, B.bc BK553 3⟩ (fun hHeld => ?_)
        clear hK K
        refine norm_ (a' := ?_) ?_ ?_
        rotate_left
        · show Act.put _ (some 32) _ = _
          simp only [Act.put, List.setIfInBounds_toArray, List.set_cons_zero, List.set_cons_succ, i64_w, i32_w]
          rfl
        refine one_ (i := 4) (N := some 33) #[true, true, true, true, true, false] rfl rfl (by kernel_rfl) (by decide) (fun K hK => ?_)
        refine goes_ Try.func20 (by kernel_rfl) rfl #[.agg #[.int .i64 t554, .int .i64 t555, .int .i64 t556, .slice Ao14 t557.length co14], .agg #[.int .i64 t568, .int .i64 t569, .int .i64 t570, .slice Ao33 t571.length co33]] (by rfl) rfl rfl B.am ?_
        with_reducible refine (laws_equalImage.calls kj4 t554 t555 t556 _ _ t557 t568 t569 t570 _ _ t571 t574 _ ?side1 ?side2 ?side3 ?side4 A30.out).mono ?_
        (case side1 => exact B.kc ((Kd.Q_reads' HO_561003.out).2.2))
        (case side2 => exact (Kd.Q_reads' HO_561003.out).2.1)
        (case side3 => exact B.kc ((Kd.R_reads' HO573.out).2.2))
        (case side4 => exact (Kd.R_reads' HO573.out).2.1)
        rintro e w34 ⟨rfl, hb⟩
        refine ⟨_, rfl, ?_⟩
        have n0_ := Aside0.mk (Kd.Q_below (B.kq HO_554003) hb)
        have n1_ := Aside0.mk (Kd.Q_below (B.kq HO_561003) hb)
        have n2_ := Aside0.mk (Kd.R_below (B.kr HO573) hb)
        have n3_ := Aside0.mk (blk_below (B.kb BK553) hb)
        have n4_ := Aside0.mk (blk_below (B.kb BK560) hb)
        have n5_ := Aside0.mk (below_step (B.bl HB) hb)
        clear HO_554003 HO_561003 HO573 BK553 BK560 HB
        have HO_554003 := n0_
        have HO_561003 := n1_
        have HO573 := n2_
        have BK553 := n3_
        have BK560 := n4_
        have HB := n5_
        clear n0_ n1_ n2_ n3_ n4_ n5_
        (try clear hb)
        (try clear hb2)
        (try clear hk)
        (try clear hi)
        refine hK.out _ _ ⟨B.bc BK560 0, B.bc BK560 1, B.bc BK560 2, B.bc BK560 3, B.bc BK553 0, B.bc BK553 1, B.bc BK553 2, B.bc BK553 3⟩ (fun hHeld => ?_)
        clear hK K
        refine norm_ (a' := ?_) ?_ ?_
        rotate_left
        · show Act.put _ (some 33) _ = _
          simp only [Act.put, List.setIfInBounds_toArray, List.set_cons_zero, List.set_cons_succ, i64_w, i32_w]
          rfl
        refine pure_ (i := 5) (N := some 2) (v := ?_) (a' := ?_) #[true, true, true, true, true, true] rfl rfl (by kernel_rfl) (fun _ _ _ h => h) (Or.inl ⟨by rfl, ?_⟩) ?_ ?_
        rotate_left
        · intro w'
          go_simp
          with_reducible rfl
        rotate_left
        · simp only [Act.put, List.setIfInBounds_toArray, List.set_cons_zero, List.set_cons_succ, i64_w, i32_w]
          rfl
        refine done_ (by kernel_rfl) ?_
        try go_wp2
        go_ret
        exact ⟨by first | rfl | (simp [errW_none, errW_some] <;> rfl) | (simp [*, errW_none, errW_some] <;> rfl), B.bl HB⟩
      replace c28 := Bool.eq_false_iff.mpr c28
      subst c28
      have H1 : ((impl_MirrorImage.f t546 t547 t548 t549).bind fun bt575 => ((impl_TurnImage.f bt575.1 bt575.2.1 bt575.2.2.1 bt575.2.2.2 t552).bind fun bt581 => ((impl_MirrorImage.f bt581.1 bt581.2.1 bt581.2.2.1 bt581.2.2.2).bind fun bt588 => ((impl_TurnImage.f bt588.1 bt588.2.1 bt588.2.2.1 bt588.2.2.2 t552).bind fun bt594 => ((laws_equalImage.f kj4 bt594.1 bt594.2.1 bt594.2.2.1 bt594.2.2.2 t546 t547 t548 t549).bind fun t600 => (some t600)))))) = some r := by rw [if_neg (show ¬ (false = true) by decide)] at H; exact H
      clear H
      have H := H1
      clear H1
      replace H := Option.bind_eq_some_iff.mp H
      obtain ⟨⟨t575, t576, t577, t578⟩, A350, H⟩ := H
      replace H : ((impl_TurnImage.f t575 t576 t577 t578 t552).bind fun bt581 => ((impl_MirrorImage.f bt581.1 bt581.2.1 bt581.2.2.1 bt581.2.2.2).bind fun bt588 => ((impl_TurnImage.f bt588.1 bt588.2.1 bt588.2.2.1 bt588.2.2.2 t552).bind fun bt594 => ((laws_equalImage.f kj4 bt594.1 bt594.2.1 bt594.2.2.1 bt594.2.2.2 t546 t547 t548 t549).bind fun t600 => (some t600))))) = some r := H
      have A35 := Aside0.mk A350
      clear A350
      replace H := Option.bind_eq_some_iff.mp H
      obtain ⟨⟨t581, t582, t583, t584⟩, A360, H⟩ := H
      replace H : ((impl_MirrorImage.f t581 t582 t583 t584).bind fun bt588 => ((impl_TurnImage.f bt588.1 bt588.2.1 bt588.2.2.1 bt588.2.2.2 t552).bind fun bt594 => ((laws_equalImage.f kj4 bt594.1 bt594.2.1 bt594.2.2.1 bt594.2.2.2 t546 t547 t548 t549).bind fun t600 => (some t600)))) = some r := H
      have A36 := Aside0.mk A360
      clear A360
      replace H := Option.bind_eq_some_iff.mp H
      obtain ⟨⟨t588, t589, t590, t591⟩, A370, H⟩ := H
      replace H : ((impl_TurnImage.f t588 t589 t590 t591 t552).bind fun bt594 => ((laws_equalImage.f kj4 bt594.1 bt594.2.1 bt594.2.2.1 bt594.2.2.2 t546 t547 t548 t549).bind fun t600 => (some t600))) = some r := H
      have A37 := Aside0.mk A370
      clear A370
      replace H := Option.bind_eq_some_iff.mp H
      obtain ⟨⟨t594, t595, t596, t597⟩, A380, H⟩ := H
      replace H : ((laws_equalImage.f kj4 t594 t595 t596 t597 t546 t547 t548 t549).bind fun t600 => (some t600)) = some r := H
      have A38 := Aside0.mk A380
      clear A380
      replace H := Option.bind_eq_some_iff.mp H
      obtain ⟨t600, A390, H⟩ := H
      replace H : (some t600) = some r := H
      have A39 := Aside0.mk A390
      clear A390
      obtain rfl := Option.some.inj H
      simp only [Option.some.injEq, Prod.mk.injEq] at H
      obtain ⟨rfl⟩ := H
      have hnb40 := NB553_560.out
      have hnc40 := NB560_553.out
      have hcz41_0 : wc.cell? ⟨gb553, 0, none⟩ = some (.int .i64 t546) := B.bc BK553 0
      have hcz41_1 : wc.cell? ⟨gb553, 1, none⟩ = some (.int .i64 t547) := B.bc BK553 1
      have hcz41_2 : wc.cell? ⟨gb553, 2, none⟩ = some (.int .i64 t548) := B.bc BK553 2
      have hcz41_3 : wc.cell? ⟨gb553, 3, none⟩ = some (.slice Ao9 t549.length co9) := B.bc BK553 3
      have hfz41_0 := blk_frozen BK553.out 0
      have hfz41_1 := blk_frozen BK553.out 1
      have hfz41_2 := blk_frozen BK553.out 2
      have hfz41_3 := blk_frozen BK553.out 3
      try go_wp2_with (first | ((with_reducible refine gate_callee (f := 21) rfl ?_); refine goesL_ (some 35) rfl rfl Try.func21 (by kernel_rfl) rfl #[.agg #[.int .i64 t546, .int .i64 t547, .int .i64 t548, .slice Ao9 t549.length co9]] rfl B.am ?_; (with_reducible refine (impl_MirrorImage.calls t546 t547 t548 _ _ t549 t575 t576 t577 t578 _ ?side1 ?side2 A35.out).mono ?_); (case side1 => exact B.kc ((Kd.Q_reads' HO_554003.out).2.2)); (case side2 => exact (Kd.Q_reads' HO_554003.out).2.1); rintro e w42 ⟨v579, rfl, ho0, hb⟩; refine ⟨_, rfl, ?_⟩; have n0_ := Aside0.mk (Kd.Q_elder' (B.kq HO_554003) (Kd.R_base ho0) hb); have n1_ := Aside0.mk (Kd.Q_elder' (B.kq HO_561003) (Kd.R_base ho0) hb); have n2_ := Aside0.mk (Kd.R_lower (Kd.R_new' (Kd.R_new' ho0 (Kd.Q_lt (B.kq HO_554003))) (Kd.Q_lt (B.kq HO_561003))) (below_size (B.bl HB))); have n3_ := Aside0.mk (blk_below (B.kb BK553) hb); have n4_ := Aside0.mk (blk_below (B.kb BK560) hb); have n5_ := Aside0.mk (below_step (B.bl HB) hb); clear HO_554003 HO_561003 BK553 BK560 HB; have HO_554003 := n0_; have HO_561003 := n1_; have HO580 := n2_; have BK553 := n3_; have BK560 := n4_; have HB := n5_; clear n0_ n1_ n2_ n3_ n4_ n5_; (try clear hb); (try clear hb2); (try clear hk); (try clear hi); (try clear ho0); obtain ⟨Ao43, co43, eo43⟩ := Kd.R_slice HO580.out; subst eo43) | ((with_reducible refine gate_callee (f := 22) rfl ?_); refine goesL_ (some 37) rfl rfl Try.func22 (by kernel_rfl) rfl #[.agg #[.int .i64 t575, .int .i64 t576, .int .i64 t577, .slice Ao43 t578.length co43], .int .i64 t552] rfl B.am ?_; (with_reducible refine (impl_TurnImage.calls t575 t576 t577 _ _ t578 t552 t581 t582 t583 t584 _ ?side1 ?side2 A36.out).mono ?_); (case side1 => exact B.kc ((Kd.R_reads' HO580.out).2.2)); (case side2 => exact (Kd.R_reads' HO580.out).2.1); rintro e w44 ⟨v585, rfl, ho0, hb⟩; refine ⟨_, rfl, ?_⟩; have n0_ := Aside0.mk (Kd.Q_elder' (B.kq HO_554003) (Kd.R_base ho0) hb); have n1_ := Aside0.mk (Kd.Q_elder' (B.kq HO_561003) (Kd.R_base ho0) hb); have n2_ := Aside0.mk (Kd.R_elder' (B.kr HO580) (Kd.R_base ho0) hb); have n3_ := Aside0.mk (Kd.R_lower (Kd.R_new' (Kd.R_new' (Kd.R_new' ho0 (Kd.Q_lt (B.kq HO_554003))) (Kd.Q_lt (B.kq HO_561003))) (Kd.R_lt (B.kr HO580))) (below_size (B.bl HB))); have n4_ := Aside0.mk (blk_below (B.kb BK553) hb); have n5_ := Aside0.mk (blk_below (B.kb BK560) hb); have n6_ := Aside0.mk (below_step (B.bl HB) hb); clear HO_554003 HO_561003 HO580 BK553 BK560 HB; have HO_554003 := n0_; have HO_561003 := n1_; have HO580 := n2_; have HO586 := n3_; have BK553 := n4_; have BK560 := n5_; have HB := n6_; clear n0_ n1_ n2_ n3_ n4_ n5_ n6_; (try clear hb); (try clear hb2); (try clear hk); (try clear hi); (try clear ho0)) | ((with_reducible refine gate_dst (N := 6) rfl ?_); refine box_event ?hg (N := 6) ?hd (cs := #[.int .i64 0, .int .i64 0, .int .i64 0, .slice none 0 0]) (t := 26) ?hr ?_; (case hd => rfl); (case hg => rfl); (case hr => first | (go_simp; done) | (go_simp; rfl)); intro gb587 hg w45 hbox hb; have n0_ := Aside0.mk (Kd.Q_below (B.kq HO_554003) hb); have n1_ := Aside0.mk (Kd.Q_below (B.kq HO_561003) hb); have n2_ := Aside0.mk (Kd.R_below (B.kr HO580) hb); have n3_ := Aside0.mk (Kd.R_below (B.kr HO586) hb); have n4_ := Aside0.mk (blk_below (B.kb BK553) hb); have n5_ := Aside0.mk (blk_below (B.kb BK560) hb); have n6_ := Aside0.mk (below_step (B.bl HB) hb); have n7_ := Aside0.mk (hbox); have n8_ := Aside0.mk (B.nle hg (below_size (B.bl HB))); have n9_ := Aside0.mk (B.nle hg (below_size (B.bl HB))); have n10_ := Aside0.mk (B.nlt hg (blk_lt (B.kb BK553))); have n11_ := Aside0.mk (B.ngt hg (blk_lt (B.kb BK553))); have n12_ := Aside0.mk (B.nlt hg (blk_lt (B.kb BK560))); have n13_ := Aside0.mk (B.ngt hg (blk_lt (B.kb BK560))); clear HO_554003 HO_561003 HO580 HO586 BK553 BK560 HB; have HO_554003 := n0_; have HO_561003 := n1_; have HO580 := n2_; have HO586 := n3_; have BK553 := n4_; have BK560 := n5_; have HB := n6_; have BK587 := n7_; have GW587 := n8_; have GE587 := n9_; have NB553_587 := n10_; have NB587_553 := n11_; have NB560_587 := n12_; have NB587_560 := n13_; clear n0_ n1_ n2_ n3_ n4_ n5_ n6_ n7_ n8_ n9_ n10_ n11_ n12_ n13_; clear hb hbox hg; have hnb46 := NB587_553.out; have hnc46 := NB553_587.out; have hnb47 := NB587_560.out; have hnc47 := NB560_587.out; have hcz48_0 : w45.cell? ⟨gb587, 0, none⟩ = some (.int .i64 0) := B.bc BK587 0; have hcz48_1 : w45.cell? ⟨gb587, 1, none⟩ = some (.int .i64 0) := B.bc BK587 1; have hcz48_2 : w45.cell? ⟨gb587, 2, none⟩ = some (.int .i64 0) := B.bc BK587 2; have hcz48_3 : w45.cell? ⟨gb587, 3, none⟩ = some (.slice none 0 0) := B.bc BK587 3; have hfz48_0 := blk_frozen BK587.out 0; have hfz48_1 := blk_frozen BK587.out 1; have hfz48_2 := blk_frozen BK587.out 2; have hfz48_3 := blk_frozen BK587.out 3; obtain ⟨Ao49, co49, eo49⟩ := Kd.R_slice HO586.out; subst eo49))
      have n0_ : Aside0 (Kd.Q (Kd.int .i64) 3 ((((w45.setCell ⟨gb587, 0, none⟩ (.int .i64 t581)).setCell ⟨gb587, 1, none⟩ (.int .i64 t582)).setCell ⟨gb587, 2, none⟩ (.int .i64 t583)).setCell ⟨gb587, 3, none⟩ (.slice Ao49 t584.length co49)) w.heap.size (fun k_ => some k_ ≠ (.slice Ao14 t557.length co14 : Value).ownBlock ∧ some k_ ≠ (.slice Ao43 t578.length co43 : Value).ownBlock ∧ some k_ ≠ (.slice Ao49 t584.length co49 : Value).ownBlock) (.slice Ao9 t549.length co9) t549) := ⟨by (with_reducible repeat (first | apply Kd.Q_alloc | apply Kd.Q_drewN | apply Kd.Q_drew)); exact Kd.Q_mono (Kd.Q_far (p := ⟨gb587, 3, none⟩) (Kd.Q_far (p := ⟨gb587, 2, none⟩) (Kd.Q_far (p := ⟨gb587, 1, none⟩) (Kd.Q_far (p := ⟨gb587, 0, none⟩) (Kd.Q_types HO_554003.out BK587.out (by decide)) (fun _ hk => hk.2) (.int .i64 t581)) (fun _ hk => hk.2) (.int .i64 t582)) (fun _ hk => hk.2) (.int .i64 t583)) (fun _ hk => hk.2) (.slice Ao49 t584.length co49)) (fun _ hk => ⟨hk.1.1.1, ⟨hk.1.1.2, hk.1.2⟩⟩)⟩
      have n1_ : Aside0 (Kd.Q (Kd.int .i64) 3 ((((w45.setCell ⟨gb587, 0, none⟩ (.int .i64 t581)).setCell ⟨gb587, 1, none⟩ (.int .i64 t582)).setCell ⟨gb587, 2, none⟩ (.int .i64 t583)).setCell ⟨gb587, 3, none⟩ (.slice Ao49 t584.length co49)) w.heap.size (fun k_ => some k_ ≠ (.slice Ao9 t549.length co9 : Value).ownBlock ∧ some k_ ≠ (.slice Ao43 t578.length co43 : Value).ownBlock ∧ some k_ ≠ (.slice Ao49 t584.length co49 : Value).ownBlock) (.slice Ao14 t557.length co14) t557) := ⟨by (with_reducible repeat (first | apply Kd.Q_alloc | apply Kd.Q_drewN | apply Kd.Q_drew)); exact Kd.Q_mono (Kd.Q_far (p := ⟨gb587, 3, none⟩) (Kd.Q_far (p := ⟨gb587, 2, none⟩) (Kd.Q_far (p := ⟨gb587, 1, none⟩) (Kd.Q_far (p := ⟨gb587, 0, none⟩) (Kd.Q_types HO_561003.out BK587.out (by decide)) (fun _ hk => hk.2) (.int .i64 t581)) (fun _ hk => hk.2) (.int .i64 t582)) (fun _ hk => hk.2) (.int .i64 t583)) (fun _ hk => hk.2) (.slice Ao49 t584.length co49)) (fun _ hk => ⟨hk.1.1.1, ⟨hk.1.1.2, hk.1.2⟩⟩)⟩
      have n2_ : Aside0 (Kd.R (Kd.int .i64) 3 ((((w45.setCell ⟨gb587, 0, none⟩ (.int .i64 t581)).setCell ⟨gb587, 1, none⟩ (.int .i64 t582)).setCell ⟨gb587, 2, none⟩ (.int .i64 t583)).setCell ⟨gb587, 3, none⟩ (.slice Ao49 t584.length co49)) w.heap.size (fun k_ => some k_ ≠ (.slice Ao9 t549.length co9 : Value).ownBlock ∧ some k_ ≠ (.slice Ao14 t557.length co14 : Value).ownBlock ∧ some k_ ≠ (.slice Ao49 t584.length co49 : Value).ownBlock) (.slice Ao43 t578.length co43) t578) := ⟨B.kr0 (Kd.R_mono (B.rf4 HO580 BK587) (fun _ hk => ⟨hk.1.1.1.2, ⟨hk.1.1.2, hk.1.2⟩⟩))⟩
      have n3_ : Aside0 (Kd.R (Kd.int .i64) 3 ((((w45.setCell ⟨gb587, 0, none⟩ (.int .i64 t581)).setCell ⟨gb587, 1, none⟩ (.int .i64 t582)).setCell ⟨gb587, 2, none⟩ (.int .i64 t583)).setCell ⟨gb587, 3, none⟩ (.slice Ao49 t584.length co49)) w.heap.size (fun k_ => some k_ ≠ (.slice Ao9 t549.length co9 : Value).ownBlock ∧ some k_ ≠ (.slice Ao14 t557.length co14 : Value).ownBlock ∧ some k_ ≠ (.slice Ao43 t578.length co43 : Value).ownBlock) (.slice Ao49 t584.length co49) t584) := ⟨B.kr0 (Kd.R_mono (B.rf4 HO586 BK587) (fun _ hk => ⟨hk.1.1.1.2, ⟨hk.1.1.2, hk.1.2⟩⟩))⟩
      have n4_ : Aside0 (((((w45.setCell ⟨gb587, 0, none⟩ (.int .i64 t581)).setCell ⟨gb587, 1, none⟩ (.int .i64 t582)).setCell ⟨gb587, 2, none⟩ (.int .i64 t583)).setCell ⟨gb587, 3, none⟩ (.slice Ao49 t584.length co49)).heap[gb553]? = some (.cells #[.int .i64 t546, .int .i64 t547, .int .i64 t548, .slice Ao9 t549.length co9] 26 (0, 0))) := ⟨B.kb0 (B.bf4 BK553 NB553_587)⟩
      have n5_ : Aside0 (((((w45.setCell ⟨gb587, 0, none⟩ (.int .i64 t581)).setCell ⟨gb587, 1, none⟩ (.int .i64 t582)).setCell ⟨gb587, 2, none⟩ (.int .i64 t583)).setCell ⟨gb587, 3, none⟩ (.slice Ao49 t584.length co49)).heap[gb560]? = some (.cells #[.int .i64 t554, .int .i64 t555, .int .i64 t556, .slice Ao14 t557.length co14] 26 (0, 0))) := ⟨B.kb0 (B.bf4 BK560 NB560_587)⟩
      have n6_ : Aside0 (((((w45.setCell ⟨gb587, 0, none⟩ (.int .i64 t581)).setCell ⟨gb587, 1, none⟩ (.int .i64 t582)).setCell ⟨gb587, 2, none⟩ (.int .i64 t583)).setCell ⟨gb587, 3, none⟩ (.slice Ao49 t584.length co49)).heap[gb587]? = some (.cells #[.int .i64 t581, .int .i64 t582, .int .i64 t583, .slice Ao49 t584.length co49] 26 (0, 0))) := ⟨B.kb0 (B.bp4 BK587)⟩
      have n7_ : Aside0 (Below w.heap.size w ((((w45.setCell ⟨gb587, 0, none⟩ (.int .i64 t581)).setCell ⟨gb587, 1, none⟩ (.int .i64 t582)).setCell ⟨gb587, 2, none⟩ (.int .i64 t583)).setCell ⟨gb587, 3, none⟩ (.slice Ao49 t584.length co49))) := ⟨B.bl HB⟩
      (try clear HO_554003)
      (try clear HO_561003)
      (try clear HO580)
      (try clear HO586)
      (try clear BK553)
      (try clear BK560)
      (try clear BK587)
      (try clear HB)
      generalize ((((w45.setCell ⟨gb587, 0, none⟩ (.int .i64 t581)).setCell ⟨gb587, 1, none⟩ (.int .i64 t582)).setCell ⟨gb587, 2, none⟩ (.int .i64 t583)).setCell ⟨gb587, 3, none⟩ (.slice Ao49 t584.length co49)) = w50 at n0_ n1_ n2_ n3_ n4_ n5_ n6_ n7_ ⊢
      have HO_554003 := n0_
      have HO_561003 := n1_
      have HO580 := n2_
      have HO586 := n3_
      have BK553 := n4_
      have BK560 := n5_
      have BK587 := n6_
      have HB := n7_
      clear n0_ n1_ n2_ n3_ n4_ n5_ n6_ n7_
      have n0_ := Aside0.mk (Kd.Q_drew HO_554003.out)
      have n1_ := Aside0.mk (Kd.Q_drew HO_561003.out)
      have n2_ := Aside0.mk (Kd.R_drew HO580.out)
      have n3_ := Aside0.mk (Kd.R_drew HO586.out)
      have n4_ := Aside0.mk (blk_drew BK553.out)
      have n5_ := Aside0.mk (blk_drew BK560.out)
      have n6_ := Aside0.mk (blk_drew BK587.out)
      have n7_ := Aside0.mk (below_drew1 HB.out)
      clear HO_554003 HO_561003 HO580 HO586 BK553 BK560 BK587 HB
      have HO_554003 := n0_
      have HO_561003 := n1_
      have HO580 := n2_
      have HO586 := n3_
      have BK553 := n4_
      have BK560 := n5_
      have BK587 := n6_
      have HB := n7_
      clear n0_ n1_ n2_ n3_ n4_ n5_ n6_ n7_
      refine start_ (n := 7) (S := fun w' => w'.cell? ⟨gb587, 0, none⟩ = some (.int .i64 t581) ∧ w'.cell? ⟨gb587, 1, none⟩ = some (.int .i64 t582) ∧ w'.cell? ⟨gb587, 2, none⟩ = some (.int .i64 t583) ∧ w'.cell? ⟨gb587, 3, none⟩ = some (.slice Ao49 t584.length co49) ∧ w'.cell? ⟨gb553, 0, none⟩ = some (.int .i64 t546) ∧ w'.cell? ⟨gb553, 1, none⟩ = some (.int .i64 t547) ∧ w'.cell? ⟨gb553, 2, none⟩ = some (.int .i64 t548) ∧ w'.cell? ⟨gb553, 3, none⟩ = some (.slice Ao9 t549.length co9)) (ds := []) #[false, false, false, false, false, false, false] (by kernel_rfl) rfl rfl ⟨B.bc BK587 0, B.bc BK587 1, B.bc BK587 2, B.bc BK587 3, B.bc BK553 0, B.bc BK553 1, B.bc BK553 2, B.bc BK553 3⟩ (fun hHeld => ?_)
      generalize w50.drew = w51 at HO_554003 HO_561003 HO580 HO586 BK553 BK560 BK587 HB hHeld ⊢
      refine pure_ (i := 2) (N := some 40) (v := ?_) (a' := ?_) #[false, false, true, false, false, false, false] rfl rfl (by kernel_rfl) (fun _ _ _ h => h) (Or.inl ⟨by rfl, ?_⟩) ?_ ?_
      rotate_left
      · intro w'
        go_simp
        with_reducible rfl
      rotate_left
      · simp only [Act.put, List.setIfInBounds_toArray, List.set_cons_zero, List.set_cons_succ, i64_w, i32_w]
        rfl
      refine take_ (i := 0) (N := some 38) (v := ?_) (a' := ?_) #[true, false, true, false, false, false, false] rfl rfl (by kernel_rfl) (fun _ _ _ h => h) (Or.inl ⟨by rfl, ?_⟩) hHeld ?_ ?_
      rotate_left
      · rintro w' ⟨s0, s1, s2, s3, s4, s5, s6, s7⟩
        go_simp
        with_reducible rfl
      rotate_left
      · simp only [Act.put, List.setIfInBounds_toArray, List.set_cons_zero, List.set_cons_succ, i64_w, i32_w]
        rfl
      refine take_ (i := 4) (N := some 42) (v := ?_) (a' := ?_) #[true, false, true, false, true, false, false] rfl rfl (by kernel_rfl) (fun _ _ _ h => h) (Or.inl ⟨by rfl, ?_⟩) hHeld ?_ ?_
      rotate_left
      · rintro w' ⟨s0, s1, s2, s3, s4, s5, s6, s7⟩
        go_simp
        with_reducible rfl
      rotate_left
      · simp only [Act.put, List.setIfInBounds_toArray, List.set_cons_zero, List.set_cons_succ, i64_w, i32_w]
        rfl
      refine one_ (i := 1) (N := some 39) #[true, true, true, false, true, false, false] rfl rfl (by kernel_rfl) (by decide) (fun K hK => ?_)
      refine goes_ Try.func21 (by kernel_rfl) rfl #[.agg #[.int .i64 t581, .int .i64 t582, .int .i64 t583, .slice Ao49 t584.length co49]] (by rfl) rfl rfl B.am ?_
      with_reducible refine (impl_MirrorImage.calls t581 t582 t583 _ _ t584 t588 t589 t590 t591 _ ?side1 ?side2 A37.out).mono ?_
      (case side1 => exact B.kc ((Kd.R_reads' HO586.out).2.2))
      (case side2 => exact (Kd.R_reads' HO586.out).2.1)
      rintro e w52 ⟨v592, rfl, ho0, hb⟩
      refine ⟨_, rfl, ?_⟩
      have n0_ := Aside0.mk (Kd.Q_elder' (B.kq HO_554003) (Kd.R_base ho0) hb)
      have n1_ := Aside0.mk (Kd.Q_elder' (B.kq HO_561003) (Kd.R_base ho0) hb)
      have n2_ := Aside0.mk (Kd.R_elder' (B.kr HO580) (Kd.R_base ho0) hb)
      have n3_ := Aside0.mk (Kd.R_elder' (B.kr HO586) (Kd.R_base ho0) hb)
      have n4_ := Aside0.mk (Kd.R_lower (Kd.R_new' (Kd.R_new' (Kd.R_new' (Kd.R_new' ho0 (Kd.Q_lt (B.kq HO_554003))) (Kd.Q_lt (B.kq HO_561003))) (Kd.R_lt (B.kr HO580))) (Kd.R_lt (B.kr HO586))) (below_size (B.bl HB)))
      have n5_ := Aside0.mk (blk_below (B.kb BK553) hb)
      have n6_ := Aside0.mk (blk_below (B.kb BK560) hb)
      have n7_ := Aside0.mk (blk_below (B.kb BK587) hb)
      have n8_ := Aside0.mk (below_step (B.bl HB) hb)
      clear HO_554003 HO_561003 HO580 HO586 BK553 BK560 BK587 HB
      have HO_554003 := n0_
      have HO_561003 := n1_
      have HO580 := n2_
      have HO586 := n3_
      have HO593 := n4_
      have BK553 := n5_
      have BK560 := n6_
      have BK587 := n7_
      have HB := n8_
      clear n0_ n1_ n2_ n3_ n4_ n5_ n6_ n7_ n8_
      (try clear hb)
      (try clear hb2)
      (try clear hk)
      (try clear hi)
      (try clear ho0)
      obtain ⟨Ao53, co53, eo53⟩ := Kd.R_slice HO593.out
      (first | subst eo53 | (injection eo53 with f1_ f2_ f3_; have f4_ := f1_.symm; have f5_ := f3_.symm; clear f1_ f2_ f3_; subst f4_; subst f5_))
      refine hK.out _ _ ⟨B.bc BK587 0, B.bc BK587 1, B.bc BK587 2, B.bc BK587 3, B.bc BK553 0, B.bc BK553 1, B.bc BK553 2, B.bc BK553 3⟩ (fun hHeld => ?_)
      clear hK K
      refine norm_ (a' := ?_) ?_ ?_
      rotate_left
      · show Act.put _ (some 39) _ = _
        simp only [Act.put, List.setIfInBounds_toArray, List.set_cons_zero, List.set_cons_succ, i64_w, i32_w]
        rfl
      refine one_ (i := 3) (N := some 41) #[true, true, true, true, true, false, false] rfl rfl (by kernel_rfl) (by decide) (fun K hK => ?_)
      refine goes_ Try.func22 (by kernel_rfl) rfl #[.agg #[.int .i64 t588, .int .i64 t589, .int .i64 t590, .slice Ao53 t591.length co53], .int .i64 t552] (by rfl) rfl rfl B.am ?_
      with_reducible refine (impl_TurnImage.calls t588 t589 t590 _ _ t591 t552 t594 t595 t596 t597 _ ?side1 ?side2 A38.out).mono ?_
      (case side1 => exact B.kc ((Kd.R_reads' HO593.out).2.2))
      (case side2 => exact (Kd.R_reads' HO593.out).2.1)
      rintro e w54 ⟨v598, rfl, ho0, hb⟩
      refine ⟨_, rfl, ?_⟩
      have n0_ := Aside0.mk (Kd.Q_elder' (B.kq HO_554003) (Kd.R_base ho0) hb)
      have n1_ := Aside0.mk (Kd.Q_elder' (B.kq HO_561003) (Kd.R_base ho0) hb)
      have n2_ := Aside0.mk (Kd.R_elder' (B.kr HO580) (Kd.R_base ho0) hb)
      have n3_ := Aside0.mk (Kd.R_elder' (B.kr HO586) (Kd.R_base ho0) hb)
      have n4_ := Aside0.mk (Kd.R_elder' (B.kr HO593) (Kd.R_base ho0) hb)
      have n5_ := Aside0.mk (Kd.R_lower (Kd.R_new' (Kd.R_new' (Kd.R_new' (Kd.R_new' (Kd.R_new' ho0 (Kd.Q_lt (B.kq HO_554003))) (Kd.Q_lt (B.kq HO_561003))) (Kd.R_lt (B.kr HO580))) (Kd.R_lt (B.kr HO586))) (Kd.R_lt (B.kr HO593))) (below_size (B.bl HB)))
      have n6_ := Aside0.mk (blk_below (B.kb BK553) hb)
      have n7_ := Aside0.mk (blk_below (B.kb BK560) hb)
      have n8_ := Aside0.mk (blk_below (B.kb BK587) hb)
      have n9_ := Aside0.mk (below_step (B.bl HB) hb)
      clear HO_554003 HO_561003 HO580 HO586 HO593 BK553 BK560 BK587 HB
      have HO_554003 := n0_
      have HO_561003 := n1_
      have HO580 := n2_
      have HO586 := n3_
      have HO593 := n4_
      have HO599 := n5_
      have BK553 := n6_
      have BK560 := n7_
      have BK587 := n8_
      have HB := n9_
      clear n0_ n1_ n2_ n3_ n4_ n5_ n6_ n7_ n8_ n9_
      (try clear hb)
      (try clear hb2)
      (try clear hk)
      (try clear hi)
      (try clear ho0)
      obtain ⟨Ao55, co55, eo55⟩ := Kd.R_slice HO599.out
      (first | subst eo55 | (injection eo55 with f1_ f2_ f3_; have f4_ := f1_.symm; have f5_ := f3_.symm; clear f1_ f2_ f3_; subst f4_; subst f5_))
      refine hK.out _ _ ⟨B.bc BK587 0, B.bc BK587 1, B.bc BK587 2, B.bc BK587 3, B.bc BK553 0, B.bc BK553 1, B.bc BK553 2, B.bc BK553 3⟩ (fun hHeld => ?_)
      clear hK K
      refine norm_ (a' := ?_) ?_ ?_
      rotate_left
      · show Act.put _ (some 41) _ = _
        simp only [Act.put, List.setIfInBounds_toArray, List.set_cons_zero, List.set_cons_succ, i64_w, i32_w]
        rfl
      refine one_ (i := 5) (N := some 43) #[true, true, true, true, true, true, false] rfl rfl (by kernel_rfl) (by decide) (fun K hK => ?_)
      refine goes_ Try.func20 (by kernel_rfl) rfl #[.agg #[.int .i64 t594, .int .i64 t595, .int .i64 t596, .slice Ao55 t597.length co55], .agg #[.int .i64 t546, .int .i64 t547, .int .i64 t548, .slice Ao9 t549.length co9]] (by rfl) rfl rfl B.am ?_
      with_reducible refine (laws_equalImage.calls kj4 t594 t595 t596 _ _ t597 t546 t547 t548 _ _ t549 t600 _ ?side1 ?side2 ?side3 ?side4 A39.out).mono ?_
      (case side1 => exact B.kc ((Kd.R_reads' HO599.out).2.2))
      (case side2 => exact (Kd.R_reads' HO599.out).2.1)
      (case side3 => exact B.kc ((Kd.Q_reads' HO_554003.out).2.2))
      (case side4 => exact (Kd.Q_reads' HO_554003.out).2.1)
      rintro e w56 ⟨rfl, hb⟩
      refine ⟨_, rfl, ?_⟩
      have n0_ := Aside0.mk (Kd.Q_below (B.kq HO_554003) hb)
      have n1_ := Aside0.mk (Kd.Q_below (B.kq HO_561003) hb)
      have n2_ := Aside0.mk (Kd.R_below (B.kr HO580) hb)
      have n3_ := Aside0.mk (Kd.R_below (B.kr HO586) hb)
      have n4_ := Aside0.mk (Kd.R_below (B.kr HO593) hb)
      have n5_ := Aside0.mk (Kd.R_below (B.kr HO599) hb)
      have n6_ := Aside0.mk (blk_below (B.kb BK553) hb)
      have n7_ := Aside0.mk (blk_below (B.kb BK560) hb)
      have n8_ := Aside0.mk (blk_below (B.kb BK587) hb)
      have n9_ := Aside0.mk (below_step (B.bl HB) hb)
      clear HO_554003 HO_561003 HO580 HO586 HO593 HO599 BK553 BK560 BK587 HB
      have HO_554003 := n0_
      have HO_561003 := n1_
      have HO580 := n2_
      have HO586 := n3_
      have HO593 := n4_
      have HO599 := n5_
      have BK553 := n6_
      have BK560 := n7_
      have BK587 := n8_
      have HB := n9_
      clear n0_ n1_ n2_ n3_ n4_ n5_ n6_ n7_ n8_ n9_
      (try clear hb)
      (try clear hb2)
      (try clear hk)
      (try clear hi)
      refine hK.out _ _ ⟨B.bc BK587 0, B.bc BK587 1, B.bc BK587 2, B.bc BK587 3, B.bc BK553 0, B.bc BK553 1, B.bc BK553 2, B.bc BK553 3⟩ (fun hHeld => ?_)
      clear hK K
      refine norm_ (a' := ?_) ?_ ?_
      rotate_left
      · show Act.put _ (some 43) _ = _
        simp only [Act.put, List.setIfInBounds_toArray, List.set_cons_zero, List.set_cons_succ, i64_w, i32_w]
        rfl
      refine pure_ (i := 6) (N := some 2) (v := ?_) (a' := ?_) #[true, true, true, true, true, true, true] rfl rfl (by kernel_rfl) (fun _ _ _ h => h) (Or.inl ⟨by rfl, ?_⟩) ?_ ?_
      rotate_left
      · intro w'
        go_simp
        with_reducible rfl
      rotate_left
      · simp only [Act.put, List.setIfInBounds_toArray, List.set_cons_zero, List.set_cons_succ, i64_w, i32_w]
        rfl
      refine done_ (by kernel_rfl) ?_
      try go_wp2
      go_ret
      exact ⟨by first | rfl | (simp [errW_none, errW_some] <;> rfl) | (simp [*, errW_none, errW_some] <;> rfl), B.bl HB⟩

/-- THE ONE PURE STATEMENT of laws_FnTurnMirror: yours. -/
def laws_FnTurnMirror.Pure : Prop := ∀ (l0 : List Int), l0.length ≤ maxLen → l0.length * 1 ≤ 140737488351232 → (∀ x ∈ l0, (Lit.int .u8 x).wf = true) → ∃ k, laws_FnTurnMirror.f k l0 = some true
theorem laws_FnTurnMirror.walk (P : laws_FnTurnMirror.Pure) (a0 : Option Addr) (len0 cap0 : Nat) (z0 : List Int) (w : World) (w0 : (a0 = none ∧ len0 = 0 ∧ cap0 = 0 ∧ z0 = []) ∨ ∃ x, a0 = some x ∧ len0 ≤ cap0 ∧ cap0 ≤ maxLen ∧ z0.length = cap0 ∧ (∀ i, i < z0.length → w.cell? (x.add i) = some (.int .u8 (z0.getD i 0))) ∧ ∀ n ∈ z0, (Lit.int .u8 n).wf = true) (y0 : len0 * 1 ≤ 140737488351232) :
    Calls Try.prog 7 #[.slice a0 len0 cap0] w fun e w' => e = .returned (.bool true) ∧ Below w.heap.size w w' := by
  obtain ⟨l0, rfl, hr0, hm0, hw0, hc0⟩ := ReadsInt.ofRowC w0
  obtain ⟨k, h⟩ := P l0 hm0 y0 hw0
  refine (laws_FnTurnMirror.calls k _ _ l0 true w (Kd.C_of_reads (d := (0 : Int)) (h1 := fun _ => rfl) hr0) hc0 h ⟨rfl⟩).mono ?_
  rintro e w' ⟨rfl, hd⟩
  exact ⟨rfl, hd⟩

end Go.Proofs.Ytibbkaoghbmncaa.Q
