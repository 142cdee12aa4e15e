-- Written by a program of this session (the kit's printer, with hand-proved contracts for the functions that it does not take).
import Derived.Test.YtpadegboplcapaaQ0
import Derived.Test.YtpadegboplcapaaQ1
import Derived.Test.YtpadegboplcapaaQ2
import Derived.Test.YtpadegboplcapaaQ5
import Derived.Test.YtpadegboplcapaaQ7
namespace Go.Proofs.Ytpadegboplcapaa.Q
open Go.RowKit Go.Proofs.YtpadegboplcapaaW.PrintWords Go.Proofs.YtpadegboplcapaaW.PrintLast Go.Proofs.YtpadegboplcapaaW.PrintMore
attribute [local go_sem] max2_int min2_int max_two min_two max_three min_three max_four min_four   -- for this text's walks alone
set_option linter.unusedVariables false
set_option linter.unusedSimpArgs false

/-! ### laws_FnPassData: function 7 -/
def laws_FnPassData.j0 : Nat → Int → List Int → Bool → Int → Int → Int → List Int → Option (Bool)
  | 0, _, _, _, _, _, _, _ => none
  | k + 1, x4, x5, x38, x386000, x386001, x386002, x386003 => if x38 = true then ((spec_PassData.f k x386000 x386001 x386002 x386003 x4).bind fun t394 => ((laws_equalInts.f k x5 t394).bind fun t397 => (some t397))) else ((impl_PassSize.f k x386000 x386001 x4).bind fun bt398 => ((impl_PassData.f k x386000 x386001 x386002 x386003 0).bind fun t400 => (if (x5.length : Int) = (wrap64 ((wrap64 (bt398.1 * bt398.2)) * x386002)) then (if (t400.length : Int) ≥ x386002 then (if 0 ≤ x386002 then (if x386002 ≤ (t400.length : Int) then ((impl_PixelAt.f x386000 x386001 x386002 x386003 0 0).bind fun t407 => ((laws_equalInts.f k (t400.take (x386002 : Int).toNat) t407).bind fun t410 => (some t410))) else (none)) else (none)) else (some false)) else (some false))))
def laws_FnPassData.f (k : Nat) (l0 : List Int) : Option (Bool) := if (l0.length : Int) > 1048576 then (some true) else ((spec_DrawPassData.f k l0).bind fun bt378 => ((impl_PassData.f k bt378.1 bt378.2.1 bt378.2.2.1 bt378.2.2.2.1 bt378.2.2.2.2).bind fun t386 => ((spec_PassData.f k bt378.1 bt378.2.1 bt378.2.2.1 bt378.2.2.2.1 bt378.2.2.2.2).bind fun t389 => ((laws_equalInts.f k t386 t389).bind fun t392 => (if t392 = true then ((impl_ValidImage.f bt378.1 bt378.2.1 bt378.2.2.1 bt378.2.2.2.1).bind fun t393 => (if t393 = true then (if bt378.2.2.2.2 < 0 then (laws_FnPassData.j0 k bt378.2.2.2.2 t386 true bt378.1 bt378.2.1 bt378.2.2.1 bt378.2.2.2.1) else (laws_FnPassData.j0 k bt378.2.2.2.2 t386 (decide (bt378.2.2.2.2 > 6)) bt378.1 bt378.2.1 bt378.2.2.1 bt378.2.2.2.1)) else (laws_FnPassData.j0 k bt378.2.2.2.2 t386 true bt378.1 bt378.2.1 bt378.2.2.1 bt378.2.2.2.1))) else (laws_FnPassData.j0 k bt378.2.2.2.2 t386 true bt378.1 bt378.2.1 bt378.2.2.1 bt378.2.2.2.1))))))
theorem laws_FnPassData.mono_l : ∀ k, (∀ y0 y1 y2 y3 y4 y5 y6, LeO (laws_FnPassData.j0 k y0 y1 y2 y3 y4 y5 y6) (laws_FnPassData.j0 (k + 1) y0 y1 y2 y3 y4 y5 y6))
  | 0 => fun _ _ _ _ _ _ _ r h => by simp [laws_FnPassData.j0] at h
  | k + 1 => by
    have ih0 := laws_FnPassData.mono_l k
    · intro y0 y1 y2 y3 y4 y5 y6
      unfold laws_FnPassData.j0
      repeat' first
      | (with_reducible exact ih0 _ _ _ _ _ _ _)
      | (with_reducible exact impl_PassData.mono _ _ _ _ _ _)
      | (with_reducible exact impl_PassSize.mono _ _ _ _)
      | (with_reducible exact laws_equalInts.mono _ _ _)
      | (with_reducible exact spec_DrawPassData.mono _ _)
      | (with_reducible exact spec_PassData.mono _ _ _ _ _ _)
      | (with_reducible exact LeO.refl _)
      | (with_reducible exact LeO.none _)
      | (with_reducible refine LeO.ite ?_ ?_)
      | (with_reducible refine LeO.bind ?_ (fun _ => ?_))
      | exact ih0 _ _ _ _ _ _ _
      | exact impl_PassData.mono _ _ _ _ _ _
      | exact impl_PassSize.mono _ _ _ _
      | exact laws_equalInts.mono _ _ _
      | exact spec_DrawPassData.mono _ _
      | exact spec_PassData.mono _ _ _ _ _ _
      | exact LeO.none _
      | refine LeO.ite ?_ ?_
      | refine LeO.bind ?_ (fun _ => ?_)
theorem laws_FnPassData.mono : ∀ a0 k, LeO (laws_FnPassData.f k a0) (laws_FnPassData.f (k + 1) a0) := by
  intro a0 k
  have ih0 := laws_FnPassData.mono_l k
  unfold laws_FnPassData.f
  repeat' first
      | (with_reducible exact ih0 _ _ _ _ _ _ _)
      | (with_reducible exact impl_PassData.mono _ _ _ _ _ _)
      | (with_reducible exact impl_PassSize.mono _ _ _ _)
      | (with_reducible exact laws_equalInts.mono _ _ _)
      | (with_reducible exact spec_DrawPassData.mono _ _)
      | (with_reducible exact spec_PassData.mono _ _ _ _ _ _)
      | (with_reducible exact LeO.refl _)
      | (with_reducible exact LeO.none _)
      | (with_reducible refine LeO.ite ?_ ?_)
      | (with_reducible refine LeO.bind ?_ (fun _ => ?_))
      | exact ih0 _ _ _ _ _ _ _
      | exact impl_PassData.mono _ _ _ _ _ _
      | exact impl_PassSize.mono _ _ _ _
      | exact laws_equalInts.mono _ _ _
      | exact spec_DrawPassData.mono _ _
      | exact spec_PassData.mono _ _ _ _ _ _
      | exact LeO.none _
      | refine LeO.ite ?_ ?_
      | refine LeO.bind ?_ (fun _ => ?_)
def laws_FnPassData.T9 : Bool × List (List Nat × List Nat) := (true, [([], []), ([0], [0]), ([], []), ([], []), ([2, 3], [2, 3]), ([], []), ([5], [5]), ([4, 6], [4, 6]), ([1, 7], [1, 7]), ([8], [8]), ([9], [9]), ([10, 9], [9, 10]), ([9], [9]), ([12, 9], [9, 12]), ([11, 13, 9], [9, 11, 13]), ([9, 14], [9, 14]), ([15, 9], [15]), ([16], [16]), ([16], [16]), ([18, 16], [16, 18]), ([17, 19, 16], [16, 17, 19]), ([16], [16]), ([21, 16, 16], [16, 21]), ([20, 22, 22, 16], [16, 20, 22]), ([16, 23], [16, 23]), ([24, 23, 0, 1, 2, 3, 4, 5, 6, 7, 8, 9, 10, 11, 12, 13, 14, 15, 16, 17, 18, 19, 20, 21, 22, 23, 24], [24])])
def laws_FnPassData.B9 : List Nat := [0, 1, 0, 0, 12, 0, 32, 124, 255, 511, 1023, 2047, 1023, 5119, 16383, 32767, 65535, 131071, 131071, 393215, 1048575, 131071, 2228223, 8388607, 16777215, 33554431]
theorem laws_FnPassData.tab9 : rtab .any (opsOf Try.f7 9) = laws_FnPassData.T9 := by kernel_rfl
theorem laws_FnPassData.bits9 : waitsOk laws_FnPassData.T9.2 laws_FnPassData.B9 = true := by kernel_rfl
set_option maxHeartbeats 8000000 in
set_option maxRecDepth 100000 in
theorem laws_FnPassData.calls (k : Nat) (A0 : Option Addr) (c0 : Nat) (l0 : List Int) (r : Bool) (w : World) (hr0 : Kd.C (Kd.int .u8) w A0 l0.length l0) (hc0 : l0.length ≤ c0) (h : laws_FnPassData.f k l0 = some r) (ht_ : Aside0 (r = true)) :
    Calls Try.prog 7 #[.slice A0 l0.length c0] w fun e w' => e = .returned (.bool r) ∧ Below w.heap.size w w' := by
  have hu34 := Try.underlying34
  have HR0 := Aside0.mk hr0
  have HC0 := Aside0.mk hc0
  clear hr0 hc0
  have HB := Aside0.mk (Below.refl w.heap.size w)
  have H : (if (l0.length : Int) > 1048576 then (some true) else ((spec_DrawPassData.f k l0).bind fun bt378 => ((impl_PassData.f k bt378.1 bt378.2.1 bt378.2.2.1 bt378.2.2.2.1 bt378.2.2.2.2).bind fun t386 => ((spec_PassData.f k bt378.1 bt378.2.1 bt378.2.2.1 bt378.2.2.2.1 bt378.2.2.2.2).bind fun t389 => ((laws_equalInts.f k t386 t389).bind fun t392 => (if t392 = true then ((impl_ValidImage.f bt378.1 bt378.2.1 bt378.2.2.1 bt378.2.2.2.1).bind fun t393 => (if t393 = true then (if bt378.2.2.2.2 < 0 then (laws_FnPassData.j0 k bt378.2.2.2.2 t386 true bt378.1 bt378.2.1 bt378.2.2.1 bt378.2.2.2.1) else (laws_FnPassData.j0 k bt378.2.2.2.2 t386 (decide (bt378.2.2.2.2 > 6)) bt378.1 bt378.2.1 bt378.2.2.1 bt378.2.2.2.1)) else (laws_FnPassData.j0 k bt378.2.2.2.2 t386 true bt378.1 bt378.2.1 bt378.2.2.1 bt378.2.2.2.1))) else (laws_FnPassData.j0 k bt378.2.2.2.2 t386 true bt378.1 bt378.2.1 bt378.2.2.1 bt378.2.2.2.1))))))) = some r := h
  clear h
  by_cases c2 : (l0.length : Int) > 1048576
  · rw [if_pos c2] at H
    have c2b0 : decide (1048576 < (l0.length : Int)) = true := decide_eq_true c2
    have c2b1 : decide (1048576 < l0.length) = true := decide_eq_true (by omega)
    clear c2
    obtain rfl := Option.some.inj H
    simp only [Option.some.injEq, Prod.mk.injEq] at H
    obtain ⟨rfl⟩ := H
    go_enter Try.func7, Try.ntmps7
    go_wp2
    go_ret
    exact ⟨by first | rfl | (simp [errW_none, errW_some] <;> rfl) | (simp [*, errW_none, errW_some] <;> rfl), B.bl HB⟩
  rw [if_neg c2] at H
  have c2b0 : decide (1048576 < (l0.length : Int)) = false := decide_eq_false c2
  have c2b1 : decide (1048576 < l0.length) = false := decide_eq_false (by omega)
  clear c2
  replace H := Option.bind_eq_some_iff.mp H
  obtain ⟨⟨t378, t379, t380, t381, t384⟩, A30, H⟩ := H
  replace H : ((impl_PassData.f k t378 t379 t380 t381 t384).bind fun t386 => ((spec_PassData.f k t378 t379 t380 t381 t384).bind fun t389 => ((laws_equalInts.f k t386 t389).bind fun t392 => (if t392 = true then ((impl_ValidImage.f t378 t379 t380 t381).bind fun t393 => (if t393 = true then (if t384 < 0 then (laws_FnPassData.j0 k t384 t386 true t378 t379 t380 t381) else (laws_FnPassData.j0 k t384 t386 (decide (t384 > 6)) t378 t379 t380 t381)) else (laws_FnPassData.j0 k t384 t386 true t378 t379 t380 t381))) else (laws_FnPassData.j0 k t384 t386 true t378 t379 t380 t381))))) = some r := H
  have A3 := Aside0.mk A30
  clear A30
  replace H := Option.bind_eq_some_iff.mp H
  obtain ⟨t386, A40, H⟩ := H
  replace H : ((spec_PassData.f k t378 t379 t380 t381 t384).bind fun t389 => ((laws_equalInts.f k t386 t389).bind fun t392 => (if t392 = true then ((impl_ValidImage.f t378 t379 t380 t381).bind fun t393 => (if t393 = true then (if t384 < 0 then (laws_FnPassData.j0 k t384 t386 true t378 t379 t380 t381) else (laws_FnPassData.j0 k t384 t386 (decide (t384 > 6)) t378 t379 t380 t381)) else (laws_FnPassData.j0 k t384 t386 true t378 t379 t380 t381))) else (laws_FnPassData.j0 k t384 t386 true t378 t379 t380 t381)))) = some r := H
  have A4 := Aside0.mk A40
  clear A40
  have HC5 := Aside0.mk H
  clear H
  go_enter Try.func7, Try.ntmps7
  go_upto_region 5 with (first | ((with_reducible refine gate_callee (f := 28) rfl ?_); refine goesL_ (some 14) rfl rfl Try.func28 (by kernel_rfl) rfl #[.slice A0 l0.length c0] rfl B.am ?_; (with_reducible refine (spec_DrawPassData.calls k _ _ l0 t378 t379 t380 t381 t384 _ ?side1 ?side2 A3.out).mono ?_); (case side1 => exact B.kc (HR0.out)); (case side2 => exact HC0.out); rintro e w6 ⟨v382, rfl, ho0, hb⟩; refine ⟨_, rfl, ?_⟩; have n0_ := Aside0.mk (Kd.Q_lower ho0 (below_size (B.bl HB))); have n1_ := Aside0.mk (below_step (B.bl HB) hb); clear HB; have HO383 := n0_; have HB := n1_; clear n0_ n1_; (try clear hb); (try clear hb2); (try clear hk); (try clear hi); (try clear ho0)) | ((with_reducible refine gate_dst (N := 3) rfl ?_); (try (refine gate_guard (by rfl) ?_; dsimp only)); refine box_event ?hg (N := 3) ?hd (cs := #[.int .i64 0, .int .i64 0, .int .i64 0, .slice none 0 0]) (t := 34) ?hr ?_; (case hd => rfl); (case hg => rfl); (case hr => first | (go_simp; done) | (go_simp; rfl)); intro gb385 hg w7 hbox hb; have n0_ := Aside0.mk (Kd.Q_below (B.kq HO383) hb); have n1_ := Aside0.mk (below_step (B.bl HB) hb); have n2_ := Aside0.mk (hbox); have n3_ := Aside0.mk (B.nle hg (below_size (B.bl HB))); have n4_ := Aside0.mk (B.nle hg (below_size (B.bl HB))); clear HO383 HB; have HO383 := n0_; have HB := n1_; have BK385 := n2_; have GW385 := n3_; have GE385 := n4_; clear n0_ n1_ n2_ n3_ n4_; clear hb hbox hg; have hcz8_0 : w7.cell? ⟨gb385, 0, none⟩ = some (.int .i64 0) := B.bc BK385 0; have hcz8_1 : w7.cell? ⟨gb385, 1, none⟩ = some (.int .i64 0) := B.bc BK385 1; have hcz8_2 : w7.cell? ⟨gb385, 2, none⟩ = some (.int .i64 0) := B.bc BK385 2; have hcz8_3 : w7.cell? ⟨gb385, 3, none⟩ = some (.slice none 0 0) := B.bc BK385 3; have hfz8_0 := blk_frozen BK385.out 0; have hfz8_1 := blk_frozen BK385.out 1; have hfz8_2 := blk_frozen BK385.out 2; have hfz8_3 := blk_frozen BK385.out 3; obtain ⟨Ao9, co9, eo9, _⟩ := Kd.Q_slice HO383.out; subst eo9) | ((with_reducible refine gate_callee (f := 18) rfl ?_); refine goesL_ (some 19) rfl rfl Try.func18 (by kernel_rfl) rfl #[.agg #[.int .i64 t378, .int .i64 t379, .int .i64 t380, .slice Ao9 t381.length co9], .int .i64 t384] rfl B.am ?_; (with_reducible refine (impl_PassData.calls k t378 t379 t380 _ _ t381 t384 t386 _ ?side1 ?side2 A4.out).mono ?_); (case side1 => refine (Kd.Q_reads' (e := 3) (base := w.heap.size) (ok := fun k_ => True) (n := t381.length) (c := co9) ?_).2.2; exact (by (with_reducible repeat (first | apply Kd.Q_alloc | apply Kd.Q_drewN | apply Kd.Q_drew)); exact (Kd.Q_mono (Kd.Q_far (p := ⟨gb385, 3, none⟩) (Kd.Q_far (p := ⟨gb385, 2, none⟩) (Kd.Q_far (p := ⟨gb385, 1, none⟩) (Kd.Q_far (p := ⟨gb385, 0, none⟩) (Kd.Q_types HO383.out BK385.out (by decide)) (fun _ hk => hk.2) (.int .i64 t378)) (fun _ hk => hk.2) (.int .i64 t379)) (fun _ hk => hk.2) (.int .i64 t380)) (fun _ hk => hk.2) (.slice Ao9 t381.length co9)) (fun _ h_ => h_.1)))); (case side2 => exact (Kd.Q_reads' HO383.out).2.1); rintro e w10 ⟨v387, rfl, ho0, hb⟩; refine ⟨_, rfl, ?_⟩; have n0_ := Aside0.mk (Kd.Q_elder' (by (with_reducible repeat (first | apply Kd.Q_alloc | apply Kd.Q_drewN | apply Kd.Q_drew)); exact (Kd.Q_mono (Kd.Q_far (p := ⟨gb385, 3, none⟩) (Kd.Q_far (p := ⟨gb385, 2, none⟩) (Kd.Q_far (p := ⟨gb385, 1, none⟩) (Kd.Q_far (p := ⟨gb385, 0, none⟩) (Kd.Q_types HO383.out BK385.out (by decide)) (fun _ hk => hk.2) (.int .i64 t378)) (fun _ hk => hk.2) (.int .i64 t379)) (fun _ hk => hk.2) (.int .i64 t380)) (fun _ hk => hk.2) (.slice Ao9 t381.length co9)) (fun _ h_ => h_.1))) (Kd.R_base ho0) hb); have n1_ := Aside0.mk (Kd.R_lower (Kd.R_new' ho0 (Kd.Q_lt (by (with_reducible repeat (first | apply Kd.Q_alloc | apply Kd.Q_drewN | apply Kd.Q_drew)); exact (Kd.Q_mono (Kd.Q_far (p := ⟨gb385, 3, none⟩) (Kd.Q_far (p := ⟨gb385, 2, none⟩) (Kd.Q_far (p := ⟨gb385, 1, none⟩) (Kd.Q_far (p := ⟨gb385, 0, none⟩) (Kd.Q_types HO383.out BK385.out (by decide)) (fun _ hk => hk.2) (.int .i64 t378)) (fun _ hk => hk.2) (.int .i64 t379)) (fun _ hk => hk.2) (.int .i64 t380)) (fun _ hk => hk.2) (.slice Ao9 t381.length co9)) (fun _ h_ => h_.1))))) (below_size (B.bl HB))); have n2_ := Aside0.mk (blk_below (g := gb385) (o := .cells #[.int .i64 t378, .int .i64 t379, .int .i64 t380, .slice Ao9 t381.length co9] 34 (0, 0)) (B.kb0 (B.bp4 BK385)) hb); have n3_ := Aside0.mk (below_step (B.bl HB) hb); clear HO383 BK385 HB; have HO383 := n0_; have HO388 := n1_; have BK385 := n2_; have HB := n3_; clear n0_ n1_ n2_ n3_; (try clear hb); (try clear hb2); (try clear hk); (try clear hi); (try clear ho0)))
  (try simp only [Act.put, List.setIfInBounds_toArray, List.set_cons_zero, List.set_cons_succ])
  go_cut [38] (fun v38 wc => ∃ (kq : Nat) (x38_4 : Bool), v38 = .bool x38_4 ∧ Aside0 (laws_FnPassData.j0 kq t384 t386 x38_4 t378 t379 t380 t381 = some r) ∧ Aside0 (kq ≤ k) ∧ Aside0 (Kd.R (Kd.int .i64) 3 wc w.heap.size (fun k_ => some k_ ≠ ((.slice Ao9 t381.length co9) : Value).ownBlock) v387 t386) ∧ Aside0 (Kd.Q (Kd.int .i64) 3 wc w.heap.size (fun k_ => some k_ ≠ (v387 : Value).ownBlock) (.slice Ao9 t381.length co9) t381) ∧ Aside0 (wc.heap[gb385]? = some (.cells #[.int .i64 t378, .int .i64 t379, .int .i64 t380, (.slice Ao9 t381.length co9)] 34 (0, 0))) ∧ Aside0 (Below w.heap.size w wc))
  case first =>
    have H := HC5.out
    clear HC5
    replace H := Option.bind_eq_some_iff.mp H
    obtain ⟨t389, A110, H⟩ := H
    replace H : ((laws_equalInts.f k t386 t389).bind fun t392 => (if t392 = true then ((impl_ValidImage.f t378 t379 t380 t381).bind fun t393 => (if t393 = true then (if t384 < 0 then (laws_FnPassData.j0 k t384 t386 true t378 t379 t380 t381) else (laws_FnPassData.j0 k t384 t386 (decide (t384 > 6)) t378 t379 t380 t381)) else (laws_FnPassData.j0 k t384 t386 true t378 t379 t380 t381))) else (laws_FnPassData.j0 k t384 t386 true t378 t379 t380 t381))) = some r := H
    have A11 := Aside0.mk A110
    clear A110
    replace H := Option.bind_eq_some_iff.mp H
    obtain ⟨t392, A120, H⟩ := H
    replace H : (if t392 = true then ((impl_ValidImage.f t378 t379 t380 t381).bind fun t393 => (if t393 = true then (if t384 < 0 then (laws_FnPassData.j0 k t384 t386 true t378 t379 t380 t381) else (laws_FnPassData.j0 k t384 t386 (decide (t384 > 6)) t378 t379 t380 t381)) else (laws_FnPassData.j0 k t384 t386 true t378 t379 t380 t381))) else (laws_FnPassData.j0 k t384 t386 true t378 t379 t380 t381)) = some r := H
    have A12 := Aside0.mk A120
    clear A120
    by_cases c13 : t392 = true
    · subst c13
      have H1 : ((impl_ValidImage.f t378 t379 t380 t381).bind fun t393 => (if t393 = true then (if t384 < 0 then (laws_FnPassData.j0 k t384 t386 true t378 t379 t380 t381) else (laws_FnPassData.j0 k t384 t386 (decide (t384 > 6)) t378 t379 t380 t381)) else (laws_FnPassData.j0 k t384 t386 true t378 t379 t380 t381))) = some r := by rw [if_pos rfl] at H; exact H
      clear H
      have H := H1
      clear H1
      replace H := Option.bind_eq_some_iff.mp H
      obtain ⟨t393, A140, H⟩ := H
      replace H : (if t393 = true then (if t384 < 0 then (laws_FnPassData.j0 k t384 t386 true t378 t379 t380 t381) else (laws_FnPassData.j0 k t384 t386 (decide (t384 > 6)) t378 t379 t380 t381)) else (laws_FnPassData.j0 k t384 t386 true t378 t379 t380 t381)) = some r := H
      have A14 := Aside0.mk A140
      clear A140
      by_cases c15 : t393 = true
      · subst c15
        have H1 : (if t384 < 0 then (laws_FnPassData.j0 k t384 t386 true t378 t379 t380 t381) else (laws_FnPassData.j0 k t384 t386 (decide (t384 > 6)) t378 t379 t380 t381)) = some r := by rw [if_pos rfl] at H; exact H
        clear H
        have H := H1
        clear H1
        by_cases c16 : t384 < 0
        · rw [if_pos c16] at H
          have c16b0 : decide (t384 < 0) = true := decide_eq_true c16
          clear c16
          (first | rw [c16b0] | (simp only [i64_w, i32_w]; rw [c16b0]) | skip)
          have H' := Aside0.mk H
          clear H
          have hcz17_0 : w10.cell? ⟨gb385, 0, none⟩ = some (.int .i64 t378) := B.bc BK385 0
          have hcz17_1 : w10.cell? ⟨gb385, 1, none⟩ = some (.int .i64 t379) := B.bc BK385 1
          have hcz17_2 : w10.cell? ⟨gb385, 2, none⟩ = some (.int .i64 t380) := B.bc BK385 2
          have hcz17_3 : w10.cell? ⟨gb385, 3, none⟩ = some (.slice Ao9 t381.length co9) := B.bc BK385 3
          have hfz17_0 := blk_frozen BK385.out 0
          have hfz17_1 := blk_frozen BK385.out 1
          have hfz17_2 := blk_frozen BK385.out 2
          have hfz17_3 := blk_frozen BK385.out 3
          go_wp2_with (first | ((with_reducible refine gate_callee (f := 21) rfl ?_); refine goesL_ (some 23) rfl rfl Try.func21 (by kernel_rfl) rfl #[.agg #[.int .i64 t378, .int .i64 t379, .int .i64 t380, .slice Ao9 t381.length co9], .int .i64 t384] rfl B.am ?_; (with_reducible refine (spec_PassData.calls k t378 t379 t380 _ _ t381 t384 t389 _ ?side1 ?side2 A11.out).mono ?_); (case side1 => exact B.kc ((Kd.Q_reads' HO383.out).2.2)); (case side2 => exact (Kd.Q_reads' HO383.out).2.1); rintro e w18 ⟨v390, rfl, ho0, hb⟩; refine ⟨_, rfl, ?_⟩; have n0_ := Aside0.mk (Kd.Q_elder' (B.kq HO383) (Kd.R_base ho0) hb); have n1_ := Aside0.mk (Kd.R_elder' (B.kr HO388) (Kd.R_base ho0) hb); have n2_ := Aside0.mk (Kd.R_lower (Kd.R_new' (Kd.R_new' ho0 (Kd.Q_lt (B.kq HO383))) (Kd.R_lt (B.kr HO388))) (below_size (B.bl HB))); have n3_ := Aside0.mk (blk_below (B.kb BK385) hb); have n4_ := Aside0.mk (below_step (B.bl HB) hb); clear HO383 HO388 BK385 HB; have HO383 := n0_; have HO388 := n1_; have HO391 := n2_; have BK385 := n3_; have HB := n4_; clear n0_ n1_ n2_ n3_ n4_; (try clear hb); (try clear hb2); (try clear hk); (try clear hi); (try clear ho0); obtain ⟨Ao19, co19, eo19⟩ := Kd.R_slice HO388.out; subst eo19; obtain ⟨Ao20, co20, eo20⟩ := Kd.R_slice HO391.out; subst eo20) | ((with_reducible refine gate_callee (f := 17) rfl ?_); refine goesL_ (some 24) rfl rfl Try.func17 (by kernel_rfl) rfl #[.slice Ao19 t386.length co19, .slice Ao20 t389.length co20] rfl B.am ?_; (with_reducible refine (laws_equalInts.calls k _ _ t386 _ _ t389 true _ ?side1 ?side2 ?side3 ?side4 A12.out).mono ?_); (case side1 => exact B.kc ((Kd.R_reads' HO388.out).2.2)); (case side2 => exact (Kd.R_reads' HO388.out).2.1); (case side3 => exact B.kc ((Kd.R_reads' HO391.out).2.2)); (case side4 => exact (Kd.R_reads' HO391.out).2.1); rintro e w' ⟨rfl, ⟨nd, rfl⟩⟩; refine ⟨_, rfl, ?_⟩; have hcz21_0 : w18.cell? ⟨gb385, 0, none⟩ = some (.int .i64 t378) := B.bc BK385 0; have hcz21_1 : w18.cell? ⟨gb385, 1, none⟩ = some (.int .i64 t379) := B.bc BK385 1; have hcz21_2 : w18.cell? ⟨gb385, 2, none⟩ = some (.int .i64 t380) := B.bc BK385 2; have hcz21_3 : w18.cell? ⟨gb385, 3, none⟩ = some (.slice Ao9 t381.length co9) := B.bc BK385 3; have hfz21_0 := blk_frozen BK385.out 0; have hfz21_1 := blk_frozen BK385.out 1; have hfz21_2 := blk_frozen BK385.out 2; have hfz21_3 := blk_frozen BK385.out 3) | (go_at_call 19; (with_reducible refine (impl_ValidImage.calls t378 t379 t380 _ _ t381 true _ ?side1 ?side2 A14.out).mono ?_); (case side1 => exact B.kc ((Kd.Q_reads' HO383.out).2.2)); (case side2 => exact (Kd.Q_reads' HO383.out).2.1); rintro e w22 ⟨rfl, hb⟩; have n0_ := Aside0.mk (Kd.Q_below (B.kq HO383) hb); have n1_ := Aside0.mk (Kd.R_below (B.kr HO388) hb); have n2_ := Aside0.mk (Kd.R_below (B.kr HO391) hb); have n3_ := Aside0.mk (blk_below (B.kb BK385) hb); have n4_ := Aside0.mk (below_step (B.bl HB) hb); clear HO383 HO388 HO391 BK385 HB; have HO383 := n0_; have HO388 := n1_; have HO391 := n2_; have BK385 := n3_; have HB := n4_; clear n0_ n1_ n2_ n3_ n4_; (try clear hb); (try clear hb2); (try clear hk); (try clear hi)))
          go_meet
          case rel => exact ⟨_, (true), (by first | rfl | (simp; done) | (simp [*]; done)), H', ⟨by first | omega | exact Nat.le_refl _⟩, ⟨B.kr0 (Kd.R_mono HO388.out (fun _ hk => hk.1.2))⟩, ⟨by (with_reducible repeat (first | apply Kd.Q_alloc | apply Kd.Q_drewN | apply Kd.Q_drew)); exact Kd.Q_mono HO383.out (fun _ hk => hk.1.2)⟩, ⟨B.kb BK385⟩, ⟨B.bl HB⟩⟩
        rw [if_neg c16] at H
        have c16b0 : decide (t384 < 0) = false := decide_eq_false c16
        clear c16
        (first | rw [c16b0] | (simp only [i64_w, i32_w]; rw [c16b0]) | skip)
        have H' := Aside0.mk H
        clear H
        have hcz23_0 : w10.cell? ⟨gb385, 0, none⟩ = some (.int .i64 t378) := B.bc BK385 0
        have hcz23_1 : w10.cell? ⟨gb385, 1, none⟩ = some (.int .i64 t379) := B.bc BK385 1
        have hcz23_2 : w10.cell? ⟨gb385, 2, none⟩ = some (.int .i64 t380) := B.bc BK385 2
        have hcz23_3 : w10.cell? ⟨gb385, 3, none⟩ = some (.slice Ao9 t381.length co9) := B.bc BK385 3
        have hfz23_0 := blk_frozen BK385.out 0
        have hfz23_1 := blk_frozen BK385.out 1
        have hfz23_2 := blk_frozen BK385.out 2
        have hfz23_3 := blk_frozen BK385.out 3
        go_wp2_with (first | ((with_reducible refine gate_callee (f := 21) rfl ?_); refine goesL_ (some 23) rfl rfl Try.func21 (by kernel_rfl) rfl #[.agg #[.int .i64 t378, .int .i64 t379, .int .i64 t380, .slice Ao9 t381.length co9], .int .i64 t384] rfl B.am ?_; (with_reducible refine (spec_PassData.calls k t378 t379 t380 _ _ t381 t384 t389 _ ?side1 ?side2 A11.out).mono ?_); (case side1 => exact B.kc ((Kd.Q_reads' HO383.out).2.2)); (case side2 => exact (Kd.Q_reads' HO383.out).2.1); rintro e w24 ⟨v390, rfl, ho0, hb⟩; refine ⟨_, rfl, ?_⟩; have n0_ := Aside0.mk (Kd.Q_elder' (B.kq HO383) (Kd.R_base ho0) hb); have n1_ := Aside0.mk (Kd.R_elder' (B.kr HO388) (Kd.R_base ho0) hb); have n2_ := Aside0.mk (Kd.R_lower (Kd.R_new' (Kd.R_new' ho0 (Kd.Q_lt (B.kq HO383))) (Kd.R_lt (B.kr HO388))) (below_size (B.bl HB))); have n3_ := Aside0.mk (blk_below (B.kb BK385) hb); have n4_ := Aside0.mk (below_step (B.bl HB) hb); clear HO383 HO388 BK385 HB; have HO383 := n0_; have HO388 := n1_; have HO391 := n2_; have BK385 := n3_; have HB := n4_; clear n0_ n1_ n2_ n3_ n4_; (try clear hb); (try clear hb2); (try clear hk); (try clear hi); (try clear ho0); obtain ⟨Ao25, co25, eo25⟩ := Kd.R_slice HO388.out; subst eo25; obtain ⟨Ao26, co26, eo26⟩ := Kd.R_slice HO391.out; subst eo26) | ((with_reducible refine gate_callee (f := 17) rfl ?_); refine goesL_ (some 24) rfl rfl Try.func17 (by kernel_rfl) rfl #[.slice Ao25 t386.length co25, .slice Ao26 t389.length co26] rfl B.am ?_; (with_reducible refine (laws_equalInts.calls k _ _ t386 _ _ t389 true _ ?side1 ?side2 ?side3 ?side4 A12.out).mono ?_); (case side1 => exact B.kc ((Kd.R_reads' HO388.out).2.2)); (case side2 => exact (Kd.R_reads' HO388.out).2.1); (case side3 => exact B.kc ((Kd.R_reads' HO391.out).2.2)); (case side4 => exact (Kd.R_reads' HO391.out).2.1); rintro e w' ⟨rfl, ⟨nd, rfl⟩⟩; refine ⟨_, rfl, ?_⟩; have hcz27_0 : w24.cell? ⟨gb385, 0, none⟩ = some (.int .i64 t378) := B.bc BK385 0; have hcz27_1 : w24.cell? ⟨gb385, 1, none⟩ = some (.int .i64 t379) := B.bc BK385 1; have hcz27_2 : w24.cell? ⟨gb385, 2, none⟩ = some (.int .i64 t380) := B.bc BK385 2; have hcz27_3 : w24.cell? ⟨gb385, 3, none⟩ = some (.slice Ao9 t381.length co9) := B.bc BK385 3; have hfz27_0 := blk_frozen BK385.out 0; have hfz27_1 := blk_frozen BK385.out 1; have hfz27_2 := blk_frozen BK385.out 2; have hfz27_3 := blk_frozen BK385.out 3) | (go_at_call 19; (with_reducible refine (impl_ValidImage.calls t378 t379 t380 _ _ t381 true _ ?side1 ?side2 A14.out).mono ?_); (case side1 => exact B.kc ((Kd.Q_reads' HO383.out).2.2)); (case side2 => exact (Kd.Q_reads' HO383.out).2.1); rintro e w28 ⟨rfl, hb⟩; have n0_ := Aside0.mk (Kd.Q_below (B.kq HO383) hb); have n1_ := Aside0.mk (Kd.R_below (B.kr HO388) hb); have n2_ := Aside0.mk (Kd.R_below (B.kr HO391) hb); have n3_ := Aside0.mk (blk_below (B.kb BK385) hb); have n4_ := Aside0.mk (below_step (B.bl HB) hb); clear HO383 HO388 HO391 BK385 HB; have HO383 := n0_; have HO388 := n1_; have HO391 := n2_; have BK385 := n3_; have HB := n4_; clear n0_ n1_ n2_ n3_ n4_; (try clear hb); (try clear hb2); (try clear hk); (try clear hi)))
        go_meet
        case rel => exact ⟨_, (decide (t384 > 6)), (by first | rfl | (simp; done) | (simp [*]; done)), H', ⟨by first | omega | exact Nat.le_refl _⟩, ⟨B.kr0 (Kd.R_mono HO388.out (fun _ hk => hk.1.2))⟩, ⟨by (with_reducible repeat (first | apply Kd.Q_alloc | apply Kd.Q_drewN | apply Kd.Q_drew)); exact Kd.Q_mono HO383.out (fun _ hk => hk.1.2)⟩, ⟨B.kb BK385⟩, ⟨B.bl HB⟩⟩
      replace c15 := Bool.eq_false_iff.mpr c15
      subst c15
      have H1 : (laws_FnPassData.j0 k t384 t386 true t378 t379 t380 t381) = some r := by rw [if_neg (show ¬ (false = true) by decide)] at H; exact H
      clear H
      have H := H1
      clear H1
      have H' := Aside0.mk H
      clear H
      have hcz29_0 : w10.cell? ⟨gb385, 0, none⟩ = some (.int .i64 t378) := B.bc BK385 0
      have hcz29_1 : w10.cell? ⟨gb385, 1, none⟩ = some (.int .i64 t379) := B.bc BK385 1
      have hcz29_2 : w10.cell? ⟨gb385, 2, none⟩ = some (.int .i64 t380) := B.bc BK385 2
      have hcz29_3 : w10.cell? ⟨gb385, 3, none⟩ = some (.slice Ao9 t381.length co9) := B.bc BK385 3
      have hfz29_0 := blk_frozen BK385.out 0
      have hfz29_1 := blk_frozen BK385.out 1
      have hfz29_2 := blk_frozen BK385.out 2
      have hfz29_3 := blk_frozen BK385.out 3
      go_wp2_with (first | ((with_reducible refine gate_callee (f := 21) rfl ?_); refine goesL_ (some 23) rfl rfl Try.func21 (by kernel_rfl) rfl #[.agg #[.int .i64 t378, .int .i64 t379, .int .i64 t380, .slice Ao9 t381.length co9], .int .i64 t384] rfl B.am ?_; (with_reducible refine (spec_PassData.calls k t378 t379 t380 _ _ t381 t384 t389 _ ?side1 ?side2 A11.out).mono ?_); (case side1 => exact B.kc ((Kd.Q_reads' HO383.out).2.2)); (case side2 => exact (Kd.Q_reads' HO383.out).2.1); rintro e w30 ⟨v390, rfl, ho0, hb⟩; refine ⟨_, rfl, ?_⟩; have n0_ := Aside0.mk (Kd.Q_elder' (B.kq HO383) (Kd.R_base ho0) hb); have n1_ := Aside0.mk (Kd.R_elder' (B.kr HO388) (Kd.R_base ho0) hb); have n2_ := Aside0.mk (Kd.R_lower (Kd.R_new' (Kd.R_new' ho0 (Kd.Q_lt (B.kq HO383))) (Kd.R_lt (B.kr HO388))) (below_size (B.bl HB))); have n3_ := Aside0.mk (blk_below (B.kb BK385) hb); have n4_ := Aside0.mk (below_step (B.bl HB) hb); clear HO383 HO388 BK385 HB; have HO383 := n0_; have HO388 := n1_; have HO391 := n2_; have BK385 := n3_; have HB := n4_; clear n0_ n1_ n2_ n3_ n4_; (try clear hb); (try clear hb2); (try clear hk); (try clear hi); (try clear ho0); obtain ⟨Ao31, co31, eo31⟩ := Kd.R_slice HO388.out; subst eo31; obtain ⟨Ao32, co32, eo32⟩ := Kd.R_slice HO391.out; subst eo32) | ((with_reducible refine gate_callee (f := 17) rfl ?_); refine goesL_ (some 24) rfl rfl Try.func17 (by kernel_rfl) rfl #[.slice Ao31 t386.length co31, .slice Ao32 t389.length co32] rfl B.am ?_; (with_reducible refine (laws_equalInts.calls k _ _ t386 _ _ t389 true _ ?side1 ?side2 ?side3 ?side4 A12.out).mono ?_); (case side1 => exact B.kc ((Kd.R_reads' HO388.out).2.2)); (case side2 => exact (Kd.R_reads' HO388.out).2.1); (case side3 => exact B.kc ((Kd.R_reads' HO391.out).2.2)); (case side4 => exact (Kd.R_reads' HO391.out).2.1); rintro e w' ⟨rfl, ⟨nd, rfl⟩⟩; refine ⟨_, rfl, ?_⟩; have hcz33_0 : w30.cell? ⟨gb385, 0, none⟩ = some (.int .i64 t378) := B.bc BK385 0; have hcz33_1 : w30.cell? ⟨gb385, 1, none⟩ = some (.int .i64 t379) := B.bc BK385 1; have hcz33_2 : w30.cell? ⟨gb385, 2, none⟩ = some (.int .i64 t380) := B.bc BK385 2; have hcz33_3 : w30.cell? ⟨gb385, 3, none⟩ = some (.slice Ao9 t381.length co9) := B.bc BK385 3; have hfz33_0 := blk_frozen BK385.out 0; have hfz33_1 := blk_frozen BK385.out 1; have hfz33_2 := blk_frozen BK385.out 2; have hfz33_3 := blk_frozen BK385.out 3) | (go_at_call 19; (with_reducible refine (impl_ValidImage.calls t378 t379 t380 _ _ t381 false _ ?side1 ?side2 A14.out).mono ?_); (case side1 => exact B.kc ((Kd.Q_reads' HO383.out).2.2)); (case side2 => exact (Kd.Q_reads' HO383.out).2.1); rintro e w34 ⟨rfl, hb⟩; have n0_ := Aside0.mk (Kd.Q_below (B.kq HO383) hb); have n1_ := Aside0.mk (Kd.R_below (B.kr HO388) hb); have n2_ := Aside0.mk (Kd.R_below (B.kr HO391) hb); have n3_ := Aside0.mk (blk_below (B.kb BK385) hb); have n4_ := Aside0.mk (below_step (B.bl HB) hb); clear HO383 HO388 HO391 BK385 HB; have HO383 := n0_; have HO388 := n1_; have HO391 := n2_; have BK385 := n3_; have HB := n4_; clear n0_ n1_ n2_ n3_ n4_; (try clear hb); (try clear hb2); (try clear hk); (try clear hi)))
      go_meet
      case rel => exact ⟨_, (true), (by first | rfl | (simp; done) | (simp [*]; done)), H', ⟨by first | omega | exact Nat.le_refl _⟩, ⟨B.kr0 (Kd.R_mono HO388.out (fun _ hk => hk.1.2))⟩, ⟨by (with_reducible repeat (first | apply Kd.Q_alloc | apply Kd.Q_drewN | apply Kd.Q_drew)); exact Kd.Q_mono HO383.out (fun _ hk => hk.1.2)⟩, ⟨B.kb BK385⟩, ⟨B.bl HB⟩⟩
    replace c13 := Bool.eq_false_iff.mpr c13
    subst c13
    have H1 : (laws_FnPassData.j0 k t384 t386 true t378 t379 t380 t381) = some r := by rw [if_neg (show ¬ (false = true) by decide)] at H; exact H
    clear H
    have H := H1
    clear H1
    have H' := Aside0.mk H
    clear H
    have hcz35_0 : w10.cell? ⟨gb385, 0, none⟩ = some (.int .i64 t378) := B.bc BK385 0
    have hcz35_1 : w10.cell? ⟨gb385, 1, none⟩ = some (.int .i64 t379) := B.bc BK385 1
    have hcz35_2 : w10.cell? ⟨gb385, 2, none⟩ = some (.int .i64 t380) := B.bc BK385 2
    have hcz35_3 : w10.cell? ⟨gb385, 3, none⟩ = some (.slice Ao9 t381.length co9) := B.bc BK385 3
    have hfz35_0 := blk_frozen BK385.out 0
    have hfz35_1 := blk_frozen BK385.out 1
    have hfz35_2 := blk_frozen BK385.out 2
    have hfz35_3 := blk_frozen BK385.out 3
    go_wp2_with (first | ((with_reducible refine gate_callee (f := 21) rfl ?_); refine goesL_ (some 23) rfl rfl Try.func21 (by kernel_rfl) rfl #[.agg #[.int .i64 t378, .int .i64 t379, .int .i64 t380, .slice Ao9 t381.length co9], .int .i64 t384] rfl B.am ?_; (with_reducible refine (spec_PassData.calls k t378 t379 t380 _ _ t381 t384 t389 _ ?side1 ?side2 A11.out).mono ?_); (case side1 => exact B.kc ((Kd.Q_reads' HO383.out).2.2)); (case side2 => exact (Kd.Q_reads' HO383.out).2.1); rintro e w36 ⟨v390, rfl, ho0, hb⟩; refine ⟨_, rfl, ?_⟩; have n0_ := Aside0.mk (Kd.Q_elder' (B.kq HO383) (Kd.R_base ho0) hb); have n1_ := Aside0.mk (Kd.R_elder' (B.kr HO388) (Kd.R_base ho0) hb); have n2_ := Aside0.mk (Kd.R_lower (Kd.R_new' (Kd.R_new' ho0 (Kd.Q_lt (B.kq HO383))) (Kd.R_lt (B.kr HO388))) (below_size (B.bl HB))); have n3_ := Aside0.mk (blk_below (B.kb BK385) hb); have n4_ := Aside0.mk (below_step (B.bl HB) hb); clear HO383 HO388 BK385 HB; have HO383 := n0_; have HO388 := n1_; have HO391 := n2_; have BK385 := n3_; have HB := n4_; clear n0_ n1_ n2_ n3_ n4_; (try clear hb); (try clear hb2); (try clear hk); (try clear hi); (try clear ho0); obtain ⟨Ao37, co37, eo37⟩ := Kd.R_slice HO388.out; subst eo37; obtain ⟨Ao38, co38, eo38⟩ := Kd.R_slice HO391.out; subst eo38) | ((with_reducible refine gate_callee (f := 17) rfl ?_); refine goesL_ (some 24) rfl rfl Try.func17 (by kernel_rfl) rfl #[.slice Ao37 t386.length co37, .slice Ao38 t389.length co38] rfl B.am ?_; (with_reducible refine (laws_equalInts.calls k _ _ t386 _ _ t389 false _ ?side1 ?side2 ?side3 ?side4 A12.out).mono ?_); (case side1 => exact B.kc ((Kd.R_reads' HO388.out).2.2)); (case side2 => exact (Kd.R_reads' HO388.out).2.1); (case side3 => exact B.kc ((Kd.R_reads' HO391.out).2.2)); (case side4 => exact (Kd.R_reads' HO391.out).2.1); rintro e w' ⟨rfl, ⟨nd, rfl⟩⟩; refine ⟨_, rfl, ?_⟩))
    go_meet
    case rel => exact ⟨_, (true), (by first | rfl | (simp; done) | (simp [*]; done)), H', ⟨by first | omega | exact Nat.le_refl _⟩, ⟨B.kr0 (Kd.R_mono HO388.out (fun _ hk => hk.1.2))⟩, ⟨by (with_reducible repeat (first | apply Kd.Q_alloc | apply Kd.Q_drewN | apply Kd.Q_drew)); exact Kd.Q_mono HO383.out (fun _ hk => hk.1.2)⟩, ⟨B.kb BK385⟩, ⟨B.bl HB⟩⟩
  case rest =>
    clear HC5
    try clear c1
    try clear c2
    try clear c2b0
    try clear c2b1
    try clear p2
    try clear c7
    try clear c13
    try clear c15
    try clear c16
    try clear c16b0
    try clear c17
    try clear c18
    try clear c21
    try clear c28
    try clear hcz17_0
    try clear hcz17_1
    try clear hcz17_2
    try clear hcz17_3
    try clear hcz21_0
    try clear hcz21_1
    try clear hcz21_2
    try clear hcz21_3
    try clear hcz23_0
    try clear hcz23_1
    try clear hcz23_2
    try clear hcz23_3
    try clear hcz27_0
    try clear hcz27_1
    try clear hcz27_2
    try clear hcz27_3
    try clear hcz29_0
    try clear hcz29_1
    try clear hcz29_2
    try clear hcz29_3
    try clear hcz33_0
    try clear hcz33_1
    try clear hcz33_2
    try clear hcz33_3
    try clear hcz35_0
    try clear hcz35_1
    try clear hcz35_2
    try clear hcz35_3
    try clear hcz8_0
    try clear hcz8_1
    try clear hcz8_2
    try clear hcz8_3
    try clear hfz17_0
    try clear hfz17_1
    try clear hfz17_2
    try clear hfz17_3
    try clear hfz21_0
    try clear hfz21_1
    try clear hfz21_2
    try clear hfz21_3
    try clear hfz23_0
    try clear hfz23_1
    try clear hfz23_2
    try clear hfz23_3
    try clear hfz27_0
    try clear hfz27_1
    try clear hfz27_2
    try clear hfz27_3
    try clear hfz29_0
    try clear hfz29_1
    try clear hfz29_2
    try clear hfz29_3
    try clear hfz33_0
    try clear hfz33_1
    try clear hfz33_2
    try clear hfz33_3
    try clear hfz35_0
    try clear hfz35_1
    try clear hfz35_2
    try clear hfz35_3
    try clear hfz8_0
    try clear hfz8_1
    try clear hfz8_2
    try clear hfz8_3
    obtain ⟨kq, x38_4, rfl, HA, HJ4, HO_5, HO_386003, BK385, HB⟩ := hcut
    cases kq with
    | zero => exact absurd HA.out (by simp [laws_FnPassData.j0])
    | succ kj4 =>
      have H := HA.out
      clear HA
      simp only [laws_FnPassData.j0] at H
      by_cases c39 : x38_4 = true
      · subst c39
        have H1 : ((spec_PassData.f kj4 t378 t379 t380 t381 t384).bind fun t394 => ((laws_equalInts.f kj4 t386 t394).bind fun t397 => (some t397))) = some r := by rw [if_pos rfl] at H; exact H
        clear H
        have H := H1
        clear H1
        replace H := Option.bind_eq_some_iff.mp H
        obtain ⟨t394, A400, H⟩ := H
        replace H : ((laws_equalInts.f kj4 t386 t394).bind fun t397 => (some t397)) = some r := H
        have A40 := Aside0.mk A400
        clear A400
        replace H := Option.bind_eq_some_iff.mp H
        obtain ⟨t397, A410, H⟩ := H
        replace H : (some t397) = some r := H
        have A41 := Aside0.mk A410
        clear A410
        obtain rfl := Option.some.inj H
        simp only [Option.some.injEq, Prod.mk.injEq] at H
        obtain ⟨rfl⟩ := H
        have hcz42_0 : wc.cell? ⟨gb385, 0, none⟩ = some (.int .i64 t378) := B.bc BK385 0
        have hcz42_1 : wc.cell? ⟨gb385, 1, none⟩ = some (.int .i64 t379) := B.bc BK385 1
        have hcz42_2 : wc.cell? ⟨gb385, 2, none⟩ = some (.int .i64 t380) := B.bc BK385 2
        have hcz42_3 : wc.cell? ⟨gb385, 3, none⟩ = some (.slice Ao9 t381.length co9) := B.bc BK385 3
        have hfz42_0 := blk_frozen BK385.out 0
        have hfz42_1 := blk_frozen BK385.out 1
        have hfz42_2 := blk_frozen BK385.out 2
        have hfz42_3 := blk_frozen BK385.out 3
        go_wp2_with (first | ((with_reducible refine gate_callee (f := 21) rfl ?_); refine goesL_ (some 42) rfl rfl Try.func21 (by kernel_rfl) rfl #[.agg #[.int .i64 t378, .int .i64 t379, .int .i64 t380, .slice Ao9 t381.length co9], .int .i64 t384] rfl B.am ?_; (with_reducible refine (spec_PassData.calls kj4 t378 t379 t380 _ _ t381 t384 t394 _ ?side1 ?side2 A40.out).mono ?_); (case side1 => exact B.kc ((Kd.Q_reads' HO_386003.out).2.2)); (case side2 => exact (Kd.Q_reads' HO_386003.out).2.1); rintro e w43 ⟨v395, rfl, ho0, hb⟩; refine ⟨_, rfl, ?_⟩; have n0_ := Aside0.mk (Kd.R_elder' (B.kr HO_5) (Kd.R_base ho0) hb); have n1_ := Aside0.mk (Kd.Q_elder' (B.kq HO_386003) (Kd.R_base ho0) hb); have n2_ := Aside0.mk (Kd.R_lower (Kd.R_new' (Kd.R_new' ho0 (Kd.R_lt (B.kr HO_5))) (Kd.Q_lt (B.kq HO_386003))) (below_size (B.bl HB))); have n3_ := Aside0.mk (blk_below (B.kb BK385) hb); have n4_ := Aside0.mk (below_step (B.bl HB) hb); clear HO_5 HO_386003 BK385 HB; have HO_5 := n0_; have HO_386003 := n1_; have HO396 := n2_; have BK385 := n3_; have HB := n4_; clear n0_ n1_ n2_ n3_ n4_; (try clear hb); (try clear hb2); (try clear hk); (try clear hi); (try clear ho0); obtain ⟨Ao44, co44, eo44⟩ := Kd.R_slice HO_5.out; subst eo44; obtain ⟨Ao45, co45, eo45⟩ := Kd.R_slice HO396.out; subst eo45) | ((with_reducible refine gate_callee (f := 17) rfl ?_); refine goesL_ (some 43) rfl rfl Try.func17 (by kernel_rfl) rfl #[.slice Ao44 t386.length co44, .slice Ao45 t394.length co45] rfl B.am ?_; (with_reducible refine (laws_equalInts.calls kj4 _ _ t386 _ _ t394 t397 _ ?side1 ?side2 ?side3 ?side4 A41.out).mono ?_); (case side1 => exact B.kc ((Kd.R_reads' HO_5.out).2.2)); (case side2 => exact (Kd.R_reads' HO_5.out).2.1); (case side3 => exact B.kc ((Kd.R_reads' HO396.out).2.2)); (case side4 => exact (Kd.R_reads' HO396.out).2.1); rintro e w' ⟨rfl, ⟨nd, rfl⟩⟩; refine ⟨_, rfl, ?_⟩))
        go_ret
        exact ⟨by first | rfl | (simp [errW_none, errW_some] <;> rfl) | (simp [*, errW_none, errW_some] <;> rfl), B.bl HB⟩
      replace c39 := Bool.eq_false_iff.mpr c39
      subst c39
      have H1 : ((impl_PassSize.f kj4 t378 t379 t384).bind fun bt398 => ((impl_PassData.f kj4 t378 t379 t380 t381 0).bind fun t400 => (if (t386.length : Int) = (wrap64 ((wrap64 (bt398.1 * bt398.2)) * t380)) then (if (t400.length : Int) ≥ t380 then (if 0 ≤ t380 then (if t380 ≤ (t400.length : Int) then ((impl_PixelAt.f t378 t379 t380 t381 0 0).bind fun t407 => ((laws_equalInts.f kj4 (t400.take (t380 : Int).toNat) t407).bind fun t410 => (some t410))) else (none)) else (none)) else (some false)) else (some false)))) = some r := by rw [if_neg (show ¬ (false = true) by decide)] at H; exact H
      clear H
      have H := H1
      clear H1
      replace H := Option.bind_eq_some_iff.mp H
      obtain ⟨⟨t398, t399⟩, A460, H⟩ := H
      replace H : ((impl_PassData.f kj4 t378 t379 t380 t381 0).bind fun t400 => (if (t386.length : Int) = (wrap64 ((wrap64 (t398 * t399)) * t380)) then (if (t400.length : Int) ≥ t380 then (if 0 ≤ t380 then (if t380 ≤ (t400.length : Int) then ((impl_PixelAt.f t378 t379 t380 t381 0 0).bind fun t407 => ((laws_equalInts.f kj4 (t400.take (t380 : Int).toNat) t407).bind fun t410 => (some t410))) else (none)) else (none)) else (some false)) else (some false))) = some r := H
      have A46 := Aside0.mk A460
      clear A460
      replace H := Option.bind_eq_some_iff.mp H
      obtain ⟨t400, A470, H⟩ := H
      replace H : (if (t386.length : Int) = (wrap64 ((wrap64 (t398 * t399)) * t380)) then (if (t400.length : Int) ≥ t380 then (if 0 ≤ t380 then (if t380 ≤ (t400.length : Int) then ((impl_PixelAt.f t378 t379 t380 t381 0 0).bind fun t407 => ((laws_equalInts.f kj4 (t400.take (t380 : Int).toNat) t407).bind fun t410 => (some t410))) else (none)) else (none)) else (some false)) else (some false)) = some r := H
      have A47 := Aside0.mk A470
      clear A470
      by_cases c48 : (t386.length : Int) = (wrap64 ((wrap64 (t398 * t399)) * t380))
      · rw [if_pos c48] at H
        have c48b0 : ((t386.length : Int) == (wrap64 ((wrap64 (t398 * t399)) * t380))) = true := beq_iff_eq.mpr c48
        have c48b1 : ((t386.length : Int) != (wrap64 ((wrap64 (t398 * t399)) * t380))) = false := bne_eq_false_iff_eq.mpr c48
        clear c48
        by_cases c49 : (t400.length : Int) ≥ t380
        · rw [if_pos c49] at H
          have c49b0 : decide (t380 ≤ (t400.length : Int)) = true := decide_eq_true c49
          clear c49
          by_cases c50 : 0 ≤ t380
          · rw [if_pos c50] at H
            have c50b0 := eq_true c50
            have c50b1 : decide (0 ≤ t380) = true := decide_eq_true c50
            clear c50
            by_cases c51 : t380 ≤ (t400.length : Int)
            · rw [if_pos c51] at H
              have c51b0 := eq_true c51
              have c51b1 : decide (t380 ≤ (t400.length : Int)) = true := decide_eq_true c51
              clear c51
              obtain ⟨y403, hy403⟩ : ∃ y_ : List Int, y_ = (t400.take (t380 : Int).toNat) := ⟨_, rfl⟩
              replace H : ((impl_PixelAt.f t378 t379 t380 t381 0 0).bind fun t407 => ((laws_equalInts.f kj4 y403 t407).bind fun t410 => (some t410))) = some r := by first | (rw [hy403]; with_reducible exact H) | (have H2_ := (Option.bind_some _ _).symm.trans H; rw [hy403]; with_reducible exact H2_) | (have H2_ := (Option.bind_some _ _).symm.trans H; with_reducible exact H2_) | with_reducible exact H | (rw [hy403]; exact H) | exact H
              have Ny403 := Aside0.mk hy403
              clear hy403
              replace H := Option.bind_eq_some_iff.mp H
              obtain ⟨t407, A520, H⟩ := H
              replace H : ((laws_equalInts.f kj4 y403 t407).bind fun t410 => (some t410)) = some r := H
              have A52 := Aside0.mk A520
              clear A520
              replace H := Option.bind_eq_some_iff.mp H
              obtain ⟨t410, A530, H⟩ := H
              replace H : (some t410) = some r := H
              have A53 := Aside0.mk A530
              clear A530
              obtain rfl := Option.some.inj H
              simp only [Option.some.injEq, Prod.mk.injEq] at H
              obtain ⟨rfl⟩ := H
              have hcz54_0 : wc.cell? ⟨gb385, 0, none⟩ = some (.int .i64 t378) := B.bc BK385 0
              have hcz54_1 : wc.cell? ⟨gb385, 1, none⟩ = some (.int .i64 t379) := B.bc BK385 1
              have hcz54_2 : wc.cell? ⟨gb385, 2, none⟩ = some (.int .i64 t380) := B.bc BK385 2
              have hcz54_3 : wc.cell? ⟨gb385, 3, none⟩ = some (.slice Ao9 t381.length co9) := B.bc BK385 3
              have hfz54_0 := blk_frozen BK385.out 0
              have hfz54_1 := blk_frozen BK385.out 1
              have hfz54_2 := blk_frozen BK385.out 2
              have hfz54_3 := blk_frozen BK385.out 3
              try go_wp2_with (first | ((with_reducible refine gate_callee (f := 11) rfl ?_); refine goesL_ (some 50) rfl rfl Try.func11 (by kernel_rfl) rfl #[.int .i64 t378, .int .i64 t379, .int .i64 t384] rfl B.am ?_; (with_reducible refine (impl_PassSize.calls kj4 t378 t379 t384 t398 t399 _ A46.out).mono ?_); rintro e w55 ⟨rfl, hb⟩; refine ⟨_, rfl, ?_⟩; have n0_ := Aside0.mk (Kd.R_below (B.kr HO_5) hb); have n1_ := Aside0.mk (Kd.Q_below (B.kq HO_386003) hb); have n2_ := Aside0.mk (blk_below (B.kb BK385) hb); have n3_ := Aside0.mk (below_step (B.bl HB) hb); clear HO_5 HO_386003 BK385 HB; have HO_5 := n0_; have HO_386003 := n1_; have BK385 := n2_; have HB := n3_; clear n0_ n1_ n2_ n3_; (try clear hb); (try clear hb2); (try clear hk); (try clear hi); have hcz56_0 : w55.cell? ⟨gb385, 0, none⟩ = some (.int .i64 t378) := B.bc BK385 0; have hcz56_1 : w55.cell? ⟨gb385, 1, none⟩ = some (.int .i64 t379) := B.bc BK385 1; have hcz56_2 : w55.cell? ⟨gb385, 2, none⟩ = some (.int .i64 t380) := B.bc BK385 2; have hcz56_3 : w55.cell? ⟨gb385, 3, none⟩ = some (.slice Ao9 t381.length co9) := B.bc BK385 3; have hfz56_0 := blk_frozen BK385.out 0; have hfz56_1 := blk_frozen BK385.out 1; have hfz56_2 := blk_frozen BK385.out 2; have hfz56_3 := blk_frozen BK385.out 3) | ((with_reducible refine gate_callee (f := 18) rfl ?_); refine goesL_ (some 54) rfl rfl Try.func18 (by kernel_rfl) rfl #[.agg #[.int .i64 t378, .int .i64 t379, .int .i64 t380, .slice Ao9 t381.length co9], .int .i64 0] rfl B.am ?_; (with_reducible refine (impl_PassData.calls kj4 t378 t379 t380 _ _ t381 0 t400 _ ?side1 ?side2 A47.out).mono ?_); (case side1 => exact B.kc ((Kd.Q_reads' HO_386003.out).2.2)); (case side2 => exact (Kd.Q_reads' HO_386003.out).2.1); rintro e w57 ⟨v401, rfl, ho0, hb⟩; refine ⟨_, rfl, ?_⟩; have n0_ := Aside0.mk (Kd.R_elder' (B.kr HO_5) (Kd.R_base ho0) hb); have n1_ := Aside0.mk (Kd.Q_elder' (B.kq HO_386003) (Kd.R_base ho0) hb); have n2_ := Aside0.mk (Kd.R_lower (Kd.R_new' (Kd.R_new' ho0 (Kd.R_lt (B.kr HO_5))) (Kd.Q_lt (B.kq HO_386003))) (below_size (B.bl HB))); have n3_ := Aside0.mk (blk_below (B.kb BK385) hb); have n4_ := Aside0.mk (below_step (B.bl HB) hb); clear HO_5 HO_386003 BK385 HB; have HO_5 := n0_; have HO_386003 := n1_; have HO402 := n2_; have BK385 := n3_; have HB := n4_; clear n0_ n1_ n2_ n3_ n4_; (try clear hb); (try clear hb2); (try clear hk); (try clear hi); (try clear ho0)))
              have n0_ := Aside0.mk (Kd.R_drew HO_5.out)
              have n1_ := Aside0.mk (Kd.Q_drew HO_386003.out)
              have n2_ := Aside0.mk (Kd.R_drew HO402.out)
              have n3_ := Aside0.mk (blk_drew BK385.out)
              have n4_ := Aside0.mk (below_drew1 HB.out)
              clear HO_5 HO_386003 HO402 BK385 HB
              have HO_5 := n0_
              have HO_386003 := n1_
              have HO402 := n2_
              have BK385 := n3_
              have HB := n4_
              clear n0_ n1_ n2_ n3_ n4_
              obtain ⟨Ao59, co59, eo59⟩ := Kd.R_slice HO_5.out
              (first | subst eo59 | (injection eo59 with f1_ f2_ f3_; have f4_ := f1_.symm; have f5_ := f3_.symm; clear f1_ f2_ f3_; subst f4_; subst f5_))
              obtain ⟨Ao60, co60, eo60⟩ := Kd.R_slice HO402.out
              (first | subst eo60 | (injection eo60 with f1_ f2_ f3_; have f4_ := f1_.symm; have f5_ := f3_.symm; clear f1_ f2_ f3_; subst f4_; subst f5_))
              have q61 : (t380 : Int) ≤ ((t400.length : Int) : Int) := of_decide_eq_true (by first | (with_reducible assumption) | assumption)
              obtain ⟨i061, hi061, _, hsz61, _⟩ := info_parts info3
              have hroom61 : t400.length ≤ co60 := (Kd.R_reads' HO402.out).2.1
              have hC61 : Kd.C (Kd.int .i64) _ Ao60 t400.length t400 := (Kd.R_reads' HO402.out).2.2
              have hcut61 := cut_to (P := Try.prog) 32 3 .i64 Try.underlying32 hi061 Ao60 t400.length co60 t380 (of_decide_eq_true (by first | (with_reducible assumption) | assumption)) q61 hroom61
              have hr61 := Kd.C_take (m := (t380 : Int).toNat) hC61 (by omega)
              have hy61 : y403.length = (t380 : Int).toNat := (by rw [Ny403.out, List.length_take]; omega)
              rw [← Ny403.out] at hr61
              rw [← hy61] at hcut61
              have HR406 := Aside0.mk hr61
              have HC406 := Aside0.mk (show y403.length ≤ co60 from by omega)
              clear hr61 hC61 hroom61 hi061 hsz61
              have KY61 := Aside0.mk hy61
              clear hy61
              have KL61 := Aside0.mk (show (t380 : Int).toNat ≤ t400.length from by omega)
              replace q61 := eq_true q61
              refine start_ (n := 26) (S := fun w' => w'.cell? ⟨gb385, 0, none⟩ = some (.int .i64 t378) ∧ w'.cell? ⟨gb385, 1, none⟩ = some (.int .i64 t379) ∧ w'.cell? ⟨gb385, 2, none⟩ = some (.int .i64 t380) ∧ w'.cell? ⟨gb385, 3, none⟩ = some (.slice Ao9 t381.length co9)) (ds := []) #[false, false, false, false, false, false, false, false, false, false, false, false, false, false, false, false, false, false, false, false, false, false, false, false, false, false] (by kernel_rfl) rfl rfl ⟨B.bc BK385 0, B.bc BK385 1, B.bc BK385 2, B.bc BK385 3⟩ (fun hHeld => ?_); refine with_tabW laws_FnPassData.tab9 laws_FnPassData.bits9 (fun HT_ HW_ => ?_)
              generalize w57.drew = w58 at HO_5 HO_386003 HO402 BK385 HB HR406 hHeld ⊢
              refine pure_ (i := 0) (N := some 55) (v := ?_) (a' := ?_) #[true, false, false, false, false, false, false, false, false, false, false, false, false, false, false, false, false, false, false, false, false, false, false, false, false, false] rfl rfl (any_of HT_.out (by kernel_rfl)) (fun _ _ _ h => h) (Or.inl ⟨by rfl, ?_⟩) ?_ ?_
              rotate_left
              · intro w'
                go_simp
                with_reducible rfl
              rotate_left
              · simp only [Act.put, List.setIfInBounds_toArray, List.set_cons_zero, List.set_cons_succ, i64_w, i32_w]
                rfl
              refine pure_ (i := 1) (N := some 56) (v := ?_) (a' := ?_) #[true, true, false, false, false, false, false, false, false, false, false, false, false, false, false, false, false, false, false, false, false, false, false, false, false, false] rfl rfl (any_of HT_.out (by kernel_rfl)) (fun _ _ _ h => h) (Or.inl ⟨by rfl, ?_⟩) ?_ ?_
              rotate_left
              · intro w'
                go_simp
                with_reducible rfl
              rotate_left
              · simp only [Act.put, List.setIfInBounds_toArray, List.set_cons_zero, List.set_cons_succ, i64_w, i32_w]
                rfl
              refine pure_ (i := 2) (N := some 57) (v := ?_) (a' := ?_) #[true, true, true, false, false, false, false, false, false, false, false, false, false, false, false, false, false, false, false, false, false, false, false, false, false, false] rfl rfl (any_of HT_.out (by kernel_rfl)) (fun _ _ _ h => h) (Or.inl ⟨by rfl, ?_⟩) ?_ ?_
              rotate_left
              · intro w'
                go_simp
                with_reducible rfl
              rotate_left
              · simp only [Act.put, List.setIfInBounds_toArray, List.set_cons_zero, List.set_cons_succ, i64_w, i32_w]
                rfl
              refine pure_ (i := 3) (N := some 58) (v := ?_) (a' := ?_) #[true, true, true, true, false, false, false, false, false, false, false, false, false, false, false, false, false, false, false, false, false, false, false, false, false, false] rfl rfl (any_of HT_.out (by kernel_rfl)) (fun _ _ _ h => h) (Or.inl ⟨by rfl, ?_⟩) ?_ ?_
              rotate_left
              · intro w'
                go_simp
                with_reducible rfl
              rotate_left
              · simp only [Act.put, List.setIfInBounds_toArray, List.set_cons_zero, List.set_cons_succ, i64_w, i32_w]
                rfl
              refine pure_ (i := 4) (N := some 59) (v := ?_) (a' := ?_) #[true, true, true, true, true, false, false, false, false, false, false, false, false, false, false, false, false, false, false, false, false, false, false, false, false, false] rfl rfl (any_of HT_.out (by kernel_rfl)) (fun _ _ _ h => h) (Or.inl ⟨by rfl, ?_⟩) ?_ ?_
              rotate_left
              · intro w'
                go_simp
                with_reducible rfl
              rotate_left
              · simp only [Act.put, List.setIfInBounds_toArray, List.set_cons_zero, List.set_cons_succ, i64_w, i32_w]
                rfl
              refine pure_ (i := 5) (N := some 60) (v := ?_) (a' := ?_) #[true, true, true, true, true, true, false, false, false, false, false, false, false, false, false, false, false, false, false, false, false, false, false, false, false, false] rfl rfl (any_of HT_.out (by kernel_rfl)) (fun _ _ _ h => h) (Or.inl ⟨by rfl, ?_⟩) ?_ ?_
              rotate_left
              · intro w'
                go_simp
                with_reducible rfl
              rotate_left
              · simp only [Act.put, List.setIfInBounds_toArray, List.set_cons_zero, List.set_cons_succ, i64_w, i32_w]
                rfl
              refine take_ (i := 6) (N := some 61) (v := ?_) (a' := ?_) #[true, true, true, true, true, true, true, false, false, false, false, false, false, false, false, false, false, false, false, false, false, false, false, false, false, false] rfl rfl (take_ofW HT_.out HW_.out (by kernel_rfl)) (fun _ _ _ h => h) (Or.inl ⟨by rfl, ?_⟩) hHeld ?_ ?_
              rotate_left
              · rintro w' ⟨s0, s1, s2, s3⟩
                go_simp
                with_reducible rfl
              rotate_left
              · simp only [Act.put, List.setIfInBounds_toArray, List.set_cons_zero, List.set_cons_succ, i64_w, i32_w]
                rfl
              refine pure_ (i := 7) (N := some 62) (v := ?_) (a' := ?_) #[true, true, true, true, true, true, true, true, false, false, false, false, false, false, false, false, false, false, false, false, false, false, false, false, false, false] rfl rfl (any_of HT_.out (by kernel_rfl)) (fun _ _ _ h => h) (Or.inl ⟨by rfl, ?_⟩) ?_ ?_
              rotate_left
              · intro w'
                go_simp
                with_reducible rfl
              rotate_left
              · simp only [Act.put, List.setIfInBounds_toArray, List.set_cons_zero, List.set_cons_succ, i64_w, i32_w]
                rfl
              refine pure_ (i := 8) (N := some 63) (v := ?_) (a' := ?_) #[true, true, true, true, true, true, true, true, true, false, false, false, false, false, false, false, false, false, false, false, false, false, false, false, false, false] rfl rfl (any_of HT_.out (by kernel_rfl)) (fun _ _ _ h => h) (Or.inl ⟨by rfl, ?_⟩) ?_ ?_
              rotate_left
              · intro w'
                go_simp
                with_reducible rfl
              rotate_left
              · simp only [Act.put, List.setIfInBounds_toArray, List.set_cons_zero, List.set_cons_succ, i64_w, i32_w]
                rfl
              refine pure_ (i := 9) (N := some 64) (v := ?_) (a' := ?_) #[true, true, true, true, true, true, true, true, true, true, false, false, false, false, false, false, false, false, false, false, false, false, false, false, false, false] rfl rfl (any_of HT_.out (by kernel_rfl)) (fun _ _ _ h => h) (Or.inl ⟨by rfl, ?_⟩) ?_ ?_
              rotate_left
              · intro w'
                go_simp
                with_reducible rfl
              rotate_left
              · simp only [Act.put, List.setIfInBounds_toArray, List.set_cons_zero, List.set_cons_succ, i64_w, i32_w]
                rfl
              refine pure_ (i := 10) (N := some 65) (v := ?_) (a' := ?_) #[true, true, true, true, true, true, true, true, true, true, true, false, false, false, false, false, false, false, false, false, false, false, false, false, false, false] rfl rfl (any_of HT_.out (by kernel_rfl)) (fun _ _ _ h => h) (Or.inl ⟨by rfl, ?_⟩) ?_ ?_
              rotate_left
              · intro w'
                go_simp
                with_reducible rfl
              rotate_left
              · simp only [Act.put, List.setIfInBounds_toArray, List.set_cons_zero, List.set_cons_succ, i64_w, i32_w]
                rfl
              refine pure_ (i := 11) (N := some 66) (v := ?_) (a' := ?_) #[true, true, true, true, true, true, true, true, true, true, true, true, false, false, false, false, false, false, false, false, false, false, false, false, false, false] rfl rfl (any_of HT_.out (by kernel_rfl)) (fun _ _ _ h => h) (Or.inl ⟨by rfl, ?_⟩) ?_ ?_
              rotate_left
              · intro w'
                go_simp
                with_reducible rfl
              rotate_left
              · simp only [Act.put, List.setIfInBounds_toArray, List.set_cons_zero, List.set_cons_succ, i64_w, i32_w]
                rfl
              refine pure_ (i := 12) (N := some 67) (v := ?_) (a' := ?_) #[true, true, true, true, true, true, true, true, true, true, true, true, true, false, false, false, false, false, false, false, false, false, false, false, false, false] rfl rfl (any_of HT_.out (by kernel_rfl)) (fun _ _ _ h => h) (Or.inl ⟨by rfl, ?_⟩) ?_ ?_
              rotate_left
              · intro w'
                go_simp
                with_reducible rfl
              rotate_left
              · simp only [Act.put, List.setIfInBounds_toArray, List.set_cons_zero, List.set_cons_succ, i64_w, i32_w]
                rfl
              refine take_ (i := 13) (N := some 68) (v := ?_) (a' := ?_) #[true, true, true, true, true, true, true, true, true, true, true, true, true, true, false, false, false, false, false, false, false, false, false, false, false, false] rfl rfl (take_ofW HT_.out HW_.out (by kernel_rfl)) (fun _ _ _ h => h) (Or.inl ⟨by rfl, ?_⟩) hHeld ?_ ?_
              rotate_left
              · rintro w' ⟨s0, s1, s2, s3⟩
                go_simp
                with_reducible rfl
              rotate_left
              · simp only [Act.put, List.setIfInBounds_toArray, List.set_cons_zero, List.set_cons_succ, i64_w, i32_w]
                rfl
              refine pure_ (i := 14) (N := some 69) (v := ?_) (a' := ?_) #[true, true, true, true, true, true, true, true, true, true, true, true, true, true, true, false, false, false, false, false, false, false, false, false, false, false] rfl rfl (any_of HT_.out (by kernel_rfl)) (fun _ _ _ h => h) (Or.inl ⟨by rfl, ?_⟩) ?_ ?_
              rotate_left
              · intro w'
                go_simp
                with_reducible rfl
              rotate_left
              · simp only [Act.put, List.setIfInBounds_toArray, List.set_cons_zero, List.set_cons_succ, i64_w, i32_w]
                rfl
              refine pure_ (i := 15) (N := some 70) (v := ?_) (a' := ?_) #[true, true, true, true, true, true, true, true, true, true, true, true, true, true, true, true, false, false, false, false, false, false, false, false, false, false] rfl rfl (any_of HT_.out (by kernel_rfl)) (fun _ _ _ h => h) (Or.inl ⟨by rfl, ?_⟩) ?_ ?_
              rotate_left
              · intro w'
                go_simp
                with_reducible rfl
              rotate_left
              · simp only [Act.put, List.setIfInBounds_toArray, List.set_cons_zero, List.set_cons_succ, i64_w, i32_w]
                rfl
              refine pure_ (i := 16) (N := some 71) (v := ?_) (a' := ?_) #[true, true, true, true, true, true, true, true, true, true, true, true, true, true, true, true, true, false, false, false, false, false, false, false, false, false] rfl rfl (any_of HT_.out (by kernel_rfl)) (fun _ _ _ h => h) (Or.inl ⟨by rfl, ?_⟩) ?_ ?_
              rotate_left
              · intro w'
                go_simp
                with_reducible rfl
              rotate_left
              · simp only [Act.put, List.setIfInBounds_toArray, List.set_cons_zero, List.set_cons_succ, i64_w, i32_w]
                rfl
              refine pure_ (i := 17) (N := some 72) (v := ?_) (a' := ?_) #[true, true, true, true, true, true, true, true, true, true, true, true, true, true, true, true, true, true, false, false, false, false, false, false, false, false] rfl rfl (any_of HT_.out (by kernel_rfl)) (fun _ _ _ h => h) (Or.inl ⟨by rfl, ?_⟩) ?_ ?_
              rotate_left
              · intro w'
                go_simp
                with_reducible rfl
              rotate_left
              · simp only [Act.put, List.setIfInBounds_toArray, List.set_cons_zero, List.set_cons_succ, i64_w, i32_w]
                rfl
              refine pure_ (i := 18) (N := some 73) (v := ?_) (a' := ?_) #[true, true, true, true, true, true, true, true, true, true, true, true, true, true, true, true, true, true, true, false, false, false, false, false, false, false] rfl rfl (any_of HT_.out (by kernel_rfl)) (fun _ _ _ h => h) (Or.inl ⟨by rfl, ?_⟩) ?_ ?_
              rotate_left
              · intro w'
                go_simp
                with_reducible rfl
              rotate_left
              · simp only [Act.put, List.setIfInBounds_toArray, List.set_cons_zero, List.set_cons_succ, i64_w, i32_w]
                rfl
              refine take_ (i := 19) (N := some 74) (v := ?_) (a' := ?_) #[true, true, true, true, true, true, true, true, true, true, true, true, true, true, true, true, true, true, true, true, false, false, false, false, false, false] rfl rfl (take_ofW HT_.out HW_.out (by kernel_rfl)) (fun _ _ _ h => h) (Or.inl ⟨by rfl, ?_⟩) hHeld ?_ ?_
              rotate_left
              · rintro w' ⟨s0, s1, s2, s3⟩
                go_simp
                with_reducible rfl
              rotate_left
              · simp only [Act.put, List.setIfInBounds_toArray, List.set_cons_zero, List.set_cons_succ, i64_w, i32_w]
                rfl
              refine pure_ (i := 20) (N := some 75) (v := ?_) (a' := ?_) #[true, true, true, true, true, true, true, true, true, true, true, true, true, true, true, true, true, true, true, true, true, false, false, false, false, false] rfl rfl (any_of HT_.out (by kernel_rfl)) (fun _ _ _ h => h) (Or.inl ⟨by rfl, ?_⟩) ?_ ?_
              rotate_left
              · intro w'
                go_simp
                with_reducible rfl
              rotate_left
              · simp only [Act.put, List.setIfInBounds_toArray, List.set_cons_zero, List.set_cons_succ, i64_w, i32_w]
                rfl
              refine take_ (i := 21) (N := some 76) (v := ?_) (a' := ?_) #[true, true, true, true, true, true, true, true, true, true, true, true, true, true, true, true, true, true, true, true, true, true, false, false, false, false] rfl rfl (take_ofW HT_.out HW_.out (by kernel_rfl)) (fun _ _ _ h => h) (Or.inl ⟨by rfl, ?_⟩) hHeld ?_ ?_
              rotate_left
              · rintro w' ⟨s0, s1, s2, s3⟩
                go_simp
                with_reducible rfl
              rotate_left
              · simp only [Act.put, List.setIfInBounds_toArray, List.set_cons_zero, List.set_cons_succ, i64_w, i32_w]
                rfl
              refine one_ (i := 22) (N := some 77) #[true, true, true, true, true, true, true, true, true, true, true, true, true, true, true, true, true, true, true, true, true, true, true, false, false, false] rfl rfl (one_of HT_.out (by kernel_rfl)) (by decide) (fun K hK => ?_)
              refine goes_ Try.func29 (by kernel_rfl) rfl #[.agg #[.int .i64 t378, .int .i64 t379, .int .i64 t380, .slice Ao9 t381.length co9], .int .i64 0, .int .i64 0] (by rfl) rfl rfl B.am ?_
              with_reducible refine (impl_PixelAt.calls t378 t379 t380 _ _ t381 0 0 t407 _ ?side1 ?side2 A52.out).mono ?_
              (case side1 => exact B.kc ((Kd.Q_reads' HO_386003.out).2.2))
              (case side2 => exact (Kd.Q_reads' HO_386003.out).2.1)
              rintro e w62 ⟨v408, rfl, ho0, hb⟩
              refine ⟨_, rfl, ?_⟩
              have n0_ := Aside0.mk (Kd.R_elder' (B.kr HO_5) (Kd.R_base ho0) hb)
              have n1_ := Aside0.mk (Kd.Q_elder' (B.kq HO_386003) (Kd.R_base ho0) hb)
              have n2_ := Aside0.mk (Kd.R_elder' (B.kr HO402) (Kd.R_base ho0) hb)
              have n3_ := Aside0.mk (Kd.R_lower (Kd.R_new' (Kd.R_new' (Kd.R_new' ho0 (Kd.R_lt (B.kr HO_5))) (Kd.Q_lt (B.kq HO_386003))) (Kd.R_lt (B.kr HO402))) (below_size (B.bl HB)))
              have n4_ := Aside0.mk (blk_below (B.kb BK385) hb)
              have n5_ := Aside0.mk (Kd.C_below (by repeat (first | (with_reducible exact HR406.out) | (with_reducible refine Kd.C_alloc ?_ _) | (with_reducible refine Kd.C_drewN ?_ _) | (with_reducible refine Kd.C_drew ?_) | exact HR406.out)) hb)
              have n6_ := Aside0.mk (below_step (B.bl HB) hb)
              clear HO_5 HO_386003 HO402 BK385 HR406 HB
              have HO_5 := n0_
              have HO_386003 := n1_
              have HO402 := n2_
              have HO409 := n3_
              have BK385 := n4_
              have HR406 := n5_
              have HB := n6_
              clear n0_ n1_ n2_ n3_ n4_ n5_ n6_
              (try clear hb)
              (try clear hb2)
              (try clear hk)
              (try clear hi)
              (try clear ho0)
              obtain ⟨Ao63, co63, eo63⟩ := Kd.R_slice HO409.out
              (first | subst eo63 | (injection eo63 with f1_ f2_ f3_; have f4_ := f1_.symm; have f5_ := f3_.symm; clear f1_ f2_ f3_; subst f4_; subst f5_))
              refine hK.out _ _ ⟨B.bc BK385 0, B.bc BK385 1, B.bc BK385 2, B.bc BK385 3⟩ (fun hHeld => ?_)
              clear hK K
              refine norm_ (a' := ?_) ?_ ?_
              rotate_left
              · show Act.put _ (some 77) _ = _
                simp only [Act.put, List.setIfInBounds_toArray, List.set_cons_zero, List.set_cons_succ, i64_w, i32_w]
                rfl
              refine one_ (i := 23) (N := some 78) #[true, true, true, true, true, true, true, true, true, true, true, true, true, true, true, true, true, true, true, true, true, true, true, true, false, false] rfl rfl (one_of HT_.out (by kernel_rfl)) (by decide) (fun K hK => ?_)
              refine goes_ Try.func17 (by kernel_rfl) rfl #[.slice Ao60 y403.length co60, .slice Ao63 t407.length co63] (by rfl) rfl rfl B.am ?_
              with_reducible refine (laws_equalInts.calls kj4 _ _ y403 _ _ t407 t410 _ ?side1 ?side2 ?side3 ?side4 A53.out).mono ?_
              (case side1 => repeat (first | exact (by repeat (first | (with_reducible exact HR406.out) | (with_reducible refine Kd.C_alloc ?_ _) | (with_reducible refine Kd.C_drewN ?_ _) | (with_reducible refine Kd.C_drew ?_) | exact HR406.out)) | (with_reducible refine Kd.C_alloc ?_ _) | (with_reducible refine Kd.C_drewN ?_ _) | (with_reducible refine Kd.C_drew ?_)))
              (case side2 => exact HC406.out)
              (case side3 => exact B.kc ((Kd.R_reads' HO409.out).2.2))
              (case side4 => exact (Kd.R_reads' HO409.out).2.1)
              rintro e w' ⟨rfl, ⟨nd, rfl⟩⟩
              refine ⟨_, rfl, ?_⟩
              refine hK.out _ _ ⟨B.bc BK385 0, B.bc BK385 1, B.bc BK385 2, B.bc BK385 3⟩ (fun hHeld => ?_)
              clear hK K
              refine norm_ (a' := ?_) ?_ ?_
              rotate_left
              · show Act.put _ (some 78) _ = _
                simp only [Act.put, List.setIfInBounds_toArray, List.set_cons_zero, List.set_cons_succ, i64_w, i32_w]
                rfl
              refine pure_ (i := 24) (N := some 79) (v := ?_) (a' := ?_) #[true, true, true, true, true, true, true, true, true, true, true, true, true, true, true, true, true, true, true, true, true, true, true, true, true, false] rfl rfl (any_of HT_.out (by kernel_rfl)) (fun _ _ _ h => h) (Or.inl ⟨by rfl, ?_⟩) ?_ ?_
              rotate_left
              · intro w'
                go_simp
                with_reducible rfl
              rotate_left
              · simp only [Act.put, List.setIfInBounds_toArray, List.set_cons_zero, List.set_cons_succ, i64_w, i32_w]
                rfl
              refine pure_ (i := 25) (N := some 2) (v := ?_) (a' := ?_) #[true, true, true, true, true, true, true, true, true, true, true, true, true, true, true, true, true, true, true, true, true, true, true, true, true, true] rfl rfl (any_of HT_.out (by kernel_rfl)) (fun _ _ _ h => h) (Or.inl ⟨by rfl, ?_⟩) ?_ ?_
              rotate_left
              · intro w'
                go_simp
                with_reducible rfl
              rotate_left
              · simp only [Act.put, List.setIfInBounds_toArray, List.set_cons_zero, List.set_cons_succ, i64_w, i32_w]
                rfl
              refine done_ (done_of HT_.out (by kernel_rfl)) ?_
              try go_wp2
              go_ret
              exact ⟨by first | rfl | (simp [errW_none, errW_some] <;> rfl) | (simp [*, errW_none, errW_some] <;> rfl), B.bl HB⟩
            rw [if_neg c51] at H
            exact absurd H (by simp)
          rw [if_neg c50] at H
          exact absurd H (by simp)
        rw [if_neg c49] at H
        have c49b0 : decide (t380 ≤ (t400.length : Int)) = false := decide_eq_false c49
        clear c49
        obtain rfl := Option.some.inj H
        exact absurd ht_.out (by decide)
      rw [if_neg c48] at H
      have c48b0 : ((t386.length : Int) == (wrap64 ((wrap64 (t398 * t399)) * t380))) = false := beq_eq_false_iff_ne.mpr c48
      have c48b1 : ((t386.length : Int) != (wrap64 ((wrap64 (t398 * t399)) * t380))) = true := bne_iff_ne.mpr c48
      obtain rfl := Option.some.inj H
      exact absurd ht_.out (by decide)

/-- THE ONE PURE STATEMENT of laws_FnPassData: yours. -/
def laws_FnPassData.Pure : Prop := ∀ (l0 : List Int), l0.length ≤ maxLen → l0.length * 1 ≤ 140737488351232 → (∀ x ∈ l0, (Lit.int .u8 x).wf = true) → ∃ k, laws_FnPassData.f k l0 = some true
theorem laws_FnPassData.walk (P : laws_FnPassData.Pure) (a0 : Option Addr) (len0 cap0 : Nat) (z0 : List Int) (w : World) (w0 : (a0 = none ∧ len0 = 0 ∧ cap0 = 0 ∧ z0 = []) ∨ ∃ x, a0 = some x ∧ len0 ≤ cap0 ∧ cap0 ≤ maxLen ∧ z0.length = cap0 ∧ (∀ i, i < z0.length → w.cell? (x.add i) = some (.int .u8 (z0.getD i 0))) ∧ ∀ n ∈ z0, (Lit.int .u8 n).wf = true) (y0 : len0 * 1 ≤ 140737488351232) :
    Calls Try.prog 7 #[.slice a0 len0 cap0] w fun e w' => e = .returned (.bool true) ∧ Below w.heap.size w w' := by
  obtain ⟨l0, rfl, hr0, hm0, hw0, hc0⟩ := ReadsInt.ofRowC w0
  obtain ⟨k, h⟩ := P l0 hm0 y0 hw0
  refine (laws_FnPassData.calls k _ _ l0 true w (Kd.C_of_reads (d := (0 : Int)) (h1 := fun _ => rfl) hr0) hc0 h ⟨rfl⟩).mono ?_
  rintro e w' ⟨rfl, hd⟩
  exact ⟨rfl, hd⟩

end Go.Proofs.Ytpadegboplcapaa.Q
