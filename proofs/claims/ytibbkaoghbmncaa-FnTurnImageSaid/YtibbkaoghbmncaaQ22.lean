-- Written by a program of this session (the kit's printer, with hand-proved contracts for the functions that it does not take).
import Derived.Test.YtibbkaoghbmncaaQ0
import Derived.Test.YtibbkaoghbmncaaQ4
import Derived.Test.YtibbkaoghbmncaaQ5
import Derived.Test.YtibbkaoghbmncaaQ10
import Derived.Test.YtibbkaoghbmncaaQ13
namespace Go.Proofs.Ytibbkaoghbmncaa.Q
open Go.RowKit Go.Proofs.YtibbkaoghbmncaaW.PrintWords Go.Proofs.YtibbkaoghbmncaaW.PrintLast Go.Proofs.YtibbkaoghbmncaaW.PrintMore
attribute [local go_sem] max2_int min2_int max_two min_two max_three min_three max_four min_four   -- for this text's walks alone
set_option linter.unusedVariables false
set_option linter.unusedSimpArgs false

/-! ### laws_FnTurnImage: function 5 -/
def laws_FnTurnImage.j0 : Nat → Int → Bool → Int → Int → Int → List Int → Int → Int → Int → List Int → Option (Bool)
  | 0, _, _, _, _, _, _, _, _, _, _ => none
  | k + 1, x4, x27, x447000, x447001, x447002, x447003, x454000, x454001, x454002, x454003 => if x27 = true then ((spec_TurnImage.f k x447000 x447001 x447002 x447003 x4).bind fun bt461 => ((laws_equalImage.f k x454000 x454001 x454002 x454003 bt461.1 bt461.2.1 bt461.2.2.1 bt461.2.2.2).bind fun t467 => (some t467))) else ((impl_TurnImage.f x454000 x454001 x454002 x454003 (Int.tmod (wrap64 (4 - x4)) 4)).bind fun bt468 => ((laws_equalImage.f k bt468.1 bt468.2.1 bt468.2.2.1 bt468.2.2.2 x447000 x447001 x447002 x447003).bind fun t474 => (if t474 = true then ((impl_TurnImage.f x454000 x454001 x454002 x454003 1).bind fun bt475 => ((impl_TurnImage.f x447000 x447001 x447002 x447003 (Int.tmod (wrap64 (x4 + 1)) 4)).bind fun bt481 => ((laws_equalImage.f k bt475.1 bt475.2.1 bt475.2.2.1 bt475.2.2.2 bt481.1 bt481.2.1 bt481.2.2.1 bt481.2.2.2).bind fun t487 => (some t487)))) else (some false))))
def laws_FnTurnImage.f (k : Nat) (l0 : List Int) : Option (Bool) := if (l0.length : Int) > 1048576 then (some true) else ((spec_DrawTurnImage.f k l0).bind fun bt439 => ((impl_TurnImage.f bt439.1 bt439.2.1 bt439.2.2.1 bt439.2.2.2.1 bt439.2.2.2.2).bind fun bt447 => ((spec_TurnImage.f k bt439.1 bt439.2.1 bt439.2.2.1 bt439.2.2.2.1 bt439.2.2.2.2).bind fun bt454 => ((laws_equalImage.f k bt447.1 bt447.2.1 bt447.2.2.1 bt447.2.2.2 bt454.1 bt454.2.1 bt454.2.2.1 bt454.2.2.2).bind fun t460 => (if t460 = true then (laws_FnTurnImage.j0 k bt439.2.2.2.2 (bt447.1 == 0) bt439.1 bt439.2.1 bt439.2.2.1 bt439.2.2.2.1 bt447.1 bt447.2.1 bt447.2.2.1 bt447.2.2.2) else (laws_FnTurnImage.j0 k bt439.2.2.2.2 true bt439.1 bt439.2.1 bt439.2.2.1 bt439.2.2.2.1 bt447.1 bt447.2.1 bt447.2.2.1 bt447.2.2.2))))))
theorem laws_FnTurnImage.mono_l : ∀ k, (∀ y0 y1 y2 y3 y4 y5 y6 y7 y8 y9, LeO (laws_FnTurnImage.j0 k y0 y1 y2 y3 y4 y5 y6 y7 y8 y9) (laws_FnTurnImage.j0 (k + 1) y0 y1 y2 y3 y4 y5 y6 y7 y8 y9))
  | 0 => fun _ _ _ _ _ _ _ _ _ _ r h => by simp [laws_FnTurnImage.j0] at h
  | k + 1 => by
    have ih0 := laws_FnTurnImage.mono_l k
    · intro y0 y1 y2 y3 y4 y5 y6 y7 y8 y9
      unfold laws_FnTurnImage.j0
      repeat' first
      | (with_reducible exact ih0 _ _ _ _ _ _ _ _ _ _)
      | (with_reducible exact laws_equalImage.mono _ _ _ _ _ _ _ _ _)
      | (with_reducible exact spec_DrawTurnImage.mono _ _)
      | (with_reducible exact spec_TurnImage.mono _ _ _ _ _ _)
      | (with_reducible exact LeO.refl _)
      | (with_reducible exact LeO.none _)
      | (with_reducible refine LeO.ite ?_ ?_)
      | (with_reducible refine LeO.bind ?_ (fun _ => ?_))
      | exact ih0 _ _ _ _ _ _ _ _ _ _
      | exact laws_equalImage.mono _ _ _ _ _ _ _ _ _
      | exact spec_DrawTurnImage.mono _ _
      | exact spec_TurnImage.mono _ _ _ _ _ _
      | exact LeO.none _
      | refine LeO.ite ?_ ?_
      | refine LeO.bind ?_ (fun _ => ?_)
theorem laws_FnTurnImage.mono : ∀ a0 k, LeO (laws_FnTurnImage.f k a0) (laws_FnTurnImage.f (k + 1) a0) := by
  intro a0 k
  have ih0 := laws_FnTurnImage.mono_l k
  unfold laws_FnTurnImage.f
  repeat' first
      | (with_reducible exact ih0 _ _ _ _ _ _ _ _ _ _)
      | (with_reducible exact laws_equalImage.mono _ _ _ _ _ _ _ _ _)
      | (with_reducible exact spec_DrawTurnImage.mono _ _)
      | (with_reducible exact spec_TurnImage.mono _ _ _ _ _ _)
      | (with_reducible exact LeO.refl _)
      | (with_reducible exact LeO.none _)
      | (with_reducible refine LeO.ite ?_ ?_)
      | (with_reducible refine LeO.bind ?_ (fun _ => ?_))
      | exact ih0 _ _ _ _ _ _ _ _ _ _
      | exact laws_equalImage.mono _ _ _ _ _ _ _ _ _
      | exact spec_DrawTurnImage.mono _ _
      | exact spec_TurnImage.mono _ _ _ _ _ _
      | exact LeO.none _
      | refine LeO.ite ?_ ?_
      | refine LeO.bind ?_ (fun _ => ?_)
def laws_FnTurnImage.T5 : Bool × List (List Nat × List Nat) := (true, [([], []), ([], []), ([], []), ([1, 2], [1, 2]), ([0, 3, 3], [0, 3]), ([4], [4]), ([5, 4], [5]), ([6], [6]), ([7, 6], [6, 7]), ([8, 6], [6, 8]), ([6, 9], [6, 9])])
def laws_FnTurnImage.B5 : List Nat := [0, 0, 0, 6, 15, 31, 63, 127, 255, 511, 1023]
theorem laws_FnTurnImage.tab5 : rtab .any (opsOf Try.f5 5) = laws_FnTurnImage.T5 := by kernel_rfl
theorem laws_FnTurnImage.bits5 : waitsOk laws_FnTurnImage.T5.2 laws_FnTurnImage.B5 = true := by kernel_rfl
def laws_FnTurnImage.T7 : Bool × List (List Nat × List Nat) := (true, [([], []), ([], []), ([1], [1]), ([2], [2]), ([0, 3], [0, 3]), ([], []), ([4, 5, 4], [4, 5]), ([6, 6], [6]), ([7], [7]), ([8, 7, 7], [7, 8]), ([7], [7]), ([7], [7]), ([11, 7], [7, 11]), ([12, 7], [7, 12]), ([10, 13, 9, 7], [7, 10, 13]), ([9, 14, 14, 7], [7, 9, 14]), ([7, 15], [7, 15]), ([16, 15, 0, 1, 2, 3, 4, 5, 6, 7, 8, 9, 10, 11, 12, 13, 14, 15, 16], [16])])
def laws_FnTurnImage.B7 : List Nat := [0, 0, 2, 6, 15, 0, 63, 127, 255, 511, 255, 255, 2303, 6399, 16383, 32767, 65535, 131071]
theorem laws_FnTurnImage.tab7 : rtab .any (opsOf Try.f5 7) = laws_FnTurnImage.T7 := by kernel_rfl
theorem laws_FnTurnImage.bits7 : waitsOk laws_FnTurnImage.T7.2 laws_FnTurnImage.B7 = true := by kernel_rfl
set_option maxHeartbeats 8000000 in
set_option maxRecDepth 100000 in
theorem laws_FnTurnImage.calls (k : Nat) (A0 : Option Addr) (c0 : Nat) (l0 : List Int) (r : Bool) (w : World) (hr0 : Kd.C (Kd.int .u8) w A0 l0.length l0) (hc0 : l0.length ≤ c0) (h : laws_FnTurnImage.f k l0 = some r) (ht_ : Aside0 (r = true)) :
    Calls Try.prog 5 #[.slice A0 l0.length c0] w fun e w' => e = .returned (.bool r) ∧ Below w.heap.size w w' := by
  have hu26 := Try.underlying26
  have HR0 := Aside0.mk hr0
  have HC0 := Aside0.mk hc0
  clear hr0 hc0
  have HB := Aside0.mk (Below.refl w.heap.size w)
  have H : (if (l0.length : Int) > 1048576 then (some true) else ((spec_DrawTurnImage.f k l0).bind fun bt439 => ((impl_TurnImage.f bt439.1 bt439.2.1 bt439.2.2.1 bt439.2.2.2.1 bt439.2.2.2.2).bind fun bt447 => ((spec_TurnImage.f k bt439.1 bt439.2.1 bt439.2.2.1 bt439.2.2.2.1 bt439.2.2.2.2).bind fun bt454 => ((laws_equalImage.f k bt447.1 bt447.2.1 bt447.2.2.1 bt447.2.2.2 bt454.1 bt454.2.1 bt454.2.2.1 bt454.2.2.2).bind fun t460 => (if t460 = true then (laws_FnTurnImage.j0 k bt439.2.2.2.2 (bt447.1 == 0) bt439.1 bt439.2.1 bt439.2.2.1 bt439.2.2.2.1 bt447.1 bt447.2.1 bt447.2.2.1 bt447.2.2.2) else (laws_FnTurnImage.j0 k bt439.2.2.2.2 true bt439.1 bt439.2.1 bt439.2.2.1 bt439.2.2.2.1 bt447.1 bt447.2.1 bt447.2.2.1 bt447.2.2.2))))))) = some r := h
  clear h
  by_cases c2 : (l0.length : Int) > 1048576
  · rw [if_pos c2] at H
    have c2b0 : decide (1048576 < (l0.length : Int)) = true := decide_eq_true c2
    have c2b1 : decide (1048576 < l0.length) = true := decide_eq_true (by omega)
    clear c2
    obtain rfl := Option.some.inj H
    simp only [Option.some.injEq, Prod.mk.injEq] at H
    obtain ⟨rfl⟩ := H
    go_enter Try.func5, Try.ntmps5
    go_wp2
    go_ret
    exact ⟨by first | rfl | (simp [errW_none, errW_some] <;> rfl) | (simp [*, errW_none, errW_some] <;> rfl), B.bl HB⟩
  rw [if_neg c2] at H
  have c2b0 : decide (1048576 < (l0.length : Int)) = false := decide_eq_false c2
  have c2b1 : decide (1048576 < l0.length) = false := decide_eq_false (by omega)
  clear c2
  replace H := Option.bind_eq_some_iff.mp H
  obtain ⟨⟨t439, t440, t441, t442, t445⟩, A30, H⟩ := H
  replace H : ((impl_TurnImage.f t439 t440 t441 t442 t445).bind fun bt447 => ((spec_TurnImage.f k t439 t440 t441 t442 t445).bind fun bt454 => ((laws_equalImage.f k bt447.1 bt447.2.1 bt447.2.2.1 bt447.2.2.2 bt454.1 bt454.2.1 bt454.2.2.1 bt454.2.2.2).bind fun t460 => (if t460 = true then (laws_FnTurnImage.j0 k t445 (bt447.1 == 0) t439 t440 t441 t442 bt447.1 bt447.2.1 bt447.2.2.1 bt447.2.2.2) else (laws_FnTurnImage.j0 k t445 true t439 t440 t441 t442 bt447.1 bt447.2.1 bt447.2.2.1 bt447.2.2.2))))) = some r := H
  have A3 := Aside0.mk A30
  clear A30
  replace H := Option.bind_eq_some_iff.mp H
  obtain ⟨⟨t447, t448, t449, t450⟩, A40, H⟩ := H
  replace H : ((spec_TurnImage.f k t439 t440 t441 t442 t445).bind fun bt454 => ((laws_equalImage.f k t447 t448 t449 t450 bt454.1 bt454.2.1 bt454.2.2.1 bt454.2.2.2).bind fun t460 => (if t460 = true then (laws_FnTurnImage.j0 k t445 (t447 == 0) t439 t440 t441 t442 t447 t448 t449 t450) else (laws_FnTurnImage.j0 k t445 true t439 t440 t441 t442 t447 t448 t449 t450)))) = some r := H
  have A4 := Aside0.mk A40
  clear A40
  have HC5 := Aside0.mk H
  clear H
  go_enter Try.func5, Try.ntmps5
  go_upto_region 5 with (first | ((with_reducible refine gate_callee (f := 23) rfl ?_); refine goesL_ (some 11) rfl rfl Try.func23 (by kernel_rfl) rfl #[.slice A0 l0.length c0] rfl B.am ?_; (with_reducible refine (spec_DrawTurnImage.calls k _ _ l0 t439 t440 t441 t442 t445 _ ?side1 ?side2 A3.out).mono ?_); (case side1 => exact B.kc (HR0.out)); (case side2 => exact HC0.out); rintro e w6 ⟨v443, rfl, ho0, hb⟩; refine ⟨_, rfl, ?_⟩; have n0_ := Aside0.mk (Kd.Q_lower ho0 (below_size (B.bl HB))); have n1_ := Aside0.mk (below_step (B.bl HB) hb); clear HB; have HO444 := n0_; have HB := n1_; clear n0_ n1_; (try clear hb); (try clear hb2); (try clear hk); (try clear hi); (try clear ho0)) | ((with_reducible refine gate_dst (N := 3) rfl ?_); refine box_event ?hg (N := 3) ?hd (cs := #[.int .i64 0, .int .i64 0, .int .i64 0, .slice none 0 0]) (t := 26) ?hr ?_; (case hd => rfl); (case hg => rfl); (case hr => first | (go_simp; done) | (go_simp; rfl)); intro gb446 hg w7 hbox hb; have n0_ := Aside0.mk (Kd.Q_below (B.kq HO444) hb); have n1_ := Aside0.mk (below_step (B.bl HB) hb); have n2_ := Aside0.mk (hbox); have n3_ := Aside0.mk (B.nle hg (below_size (B.bl HB))); have n4_ := Aside0.mk (B.nle hg (below_size (B.bl HB))); clear HO444 HB; have HO444 := n0_; have HB := n1_; have BK446 := n2_; have GW446 := n3_; have GE446 := n4_; clear n0_ n1_ n2_ n3_ n4_; clear hb hbox hg; have hcz8_0 : w7.cell? ⟨gb446, 0, none⟩ = some (.int .i64 0) := B.bc BK446 0; have hcz8_1 : w7.cell? ⟨gb446, 1, none⟩ = some (.int .i64 0) := B.bc BK446 1; have hcz8_2 : w7.cell? ⟨gb446, 2, none⟩ = some (.int .i64 0) := B.bc BK446 2; have hcz8_3 : w7.cell? ⟨gb446, 3, none⟩ = some (.slice none 0 0) := B.bc BK446 3; have hfz8_0 := blk_frozen BK446.out 0; have hfz8_1 := blk_frozen BK446.out 1; have hfz8_2 := blk_frozen BK446.out 2; have hfz8_3 := blk_frozen BK446.out 3; obtain ⟨Ao9, co9, eo9, _⟩ := Kd.Q_slice HO444.out; subst eo9) | ((with_reducible refine gate_callee (f := 22) rfl ?_); refine goesL_ (some 16) rfl rfl Try.func22 (by kernel_rfl) rfl #[.agg #[.int .i64 t439, .int .i64 t440, .int .i64 t441, .slice Ao9 t442.length co9], .int .i64 t445] rfl B.am ?_; (with_reducible refine (impl_TurnImage.calls t439 t440 t441 _ _ t442 t445 t447 t448 t449 t450 _ ?side1 ?side2 A4.out).mono ?_); (case side1 => refine (Kd.Q_reads' (e := 3) (base := w.heap.size) (ok := fun k_ => True) (n := t442.length) (c := co9) ?_).2.2; exact (by (with_reducible repeat (first | apply Kd.Q_alloc | apply Kd.Q_drewN | apply Kd.Q_drew)); exact (Kd.Q_mono (Kd.Q_far (p := ⟨gb446, 3, none⟩) (Kd.Q_far (p := ⟨gb446, 2, none⟩) (Kd.Q_far (p := ⟨gb446, 1, none⟩) (Kd.Q_far (p := ⟨gb446, 0, none⟩) (Kd.Q_types HO444.out BK446.out (by decide)) (fun _ hk => hk.2) (.int .i64 t439)) (fun _ hk => hk.2) (.int .i64 t440)) (fun _ hk => hk.2) (.int .i64 t441)) (fun _ hk => hk.2) (.slice Ao9 t442.length co9)) (fun _ h_ => h_.1)))); (case side2 => exact (Kd.Q_reads' HO444.out).2.1); rintro e w10 ⟨v451, rfl, ho0, hb⟩; refine ⟨_, rfl, ?_⟩; have n0_ := Aside0.mk (Kd.Q_elder' (by (with_reducible repeat (first | apply Kd.Q_alloc | apply Kd.Q_drewN | apply Kd.Q_drew)); exact (Kd.Q_mono (Kd.Q_far (p := ⟨gb446, 3, none⟩) (Kd.Q_far (p := ⟨gb446, 2, none⟩) (Kd.Q_far (p := ⟨gb446, 1, none⟩) (Kd.Q_far (p := ⟨gb446, 0, none⟩) (Kd.Q_types HO444.out BK446.out (by decide)) (fun _ hk => hk.2) (.int .i64 t439)) (fun _ hk => hk.2) (.int .i64 t440)) (fun _ hk => hk.2) (.int .i64 t441)) (fun _ hk => hk.2) (.slice Ao9 t442.length co9)) (fun _ h_ => h_.1))) (Kd.R_base ho0) hb); have n1_ := Aside0.mk (Kd.R_lower (Kd.R_new' ho0 (Kd.Q_lt (by (with_reducible repeat (first | apply Kd.Q_alloc | apply Kd.Q_drewN | apply Kd.Q_drew)); exact (Kd.Q_mono (Kd.Q_far (p := ⟨gb446, 3, none⟩) (Kd.Q_far (p := ⟨gb446, 2, none⟩) (Kd.Q_far (p := ⟨gb446, 1, none⟩) (Kd.Q_far (p := ⟨gb446, 0, none⟩) (Kd.Q_types HO444.out BK446.out (by decide)) (fun _ hk => hk.2) (.int .i64 t439)) (fun _ hk => hk.2) (.int .i64 t440)) (fun _ hk => hk.2) (.int .i64 t441)) (fun _ hk => hk.2) (.slice Ao9 t442.length co9)) (fun _ h_ => h_.1))))) (below_size (B.bl HB))); have n2_ := Aside0.mk (blk_below (g := gb446) (o := .cells #[.int .i64 t439, .int .i64 t440, .int .i64 t441, .slice Ao9 t442.length co9] 26 (0, 0)) (B.kb0 (B.bp4 BK446)) hb); have n3_ := Aside0.mk (below_step (B.bl HB) hb); clear HO444 BK446 HB; have HO444 := n0_; have HO452 := n1_; have BK446 := n2_; have HB := n3_; clear n0_ n1_ n2_ n3_; (try clear hb); (try clear hb2); (try clear hk); (try clear hi); (try clear ho0)) | ((with_reducible refine gate_dst (N := 5) rfl ?_); refine box_event ?hg (N := 5) ?hd (cs := #[.int .i64 0, .int .i64 0, .int .i64 0, .slice none 0 0]) (t := 26) ?hr ?_; (case hd => rfl); (case hg => rfl); (case hr => first | (go_simp; done) | (go_simp; rfl)); intro gb453 hg w11 hbox hb; have n0_ := Aside0.mk (Kd.Q_below (B.kq HO444) hb); have n1_ := Aside0.mk (Kd.R_below (B.kr HO452) hb); have n2_ := Aside0.mk (blk_below (B.kb BK446) hb); have n3_ := Aside0.mk (below_step (B.bl HB) hb); have n4_ := Aside0.mk (hbox); have n5_ := Aside0.mk (B.nle hg (below_size (B.bl HB))); have n6_ := Aside0.mk (B.nle hg (below_size (B.bl HB))); have n7_ := Aside0.mk (B.nlt hg (blk_lt (B.kb BK446))); have n8_ := Aside0.mk (B.ngt hg (blk_lt (B.kb BK446))); clear HO444 HO452 BK446 HB; have HO444 := n0_; have HO452 := n1_; have BK446 := n2_; have HB := n3_; have BK453 := n4_; have GW453 := n5_; have GE453 := n6_; have NB446_453 := n7_; have NB453_446 := n8_; clear n0_ n1_ n2_ n3_ n4_ n5_ n6_ n7_ n8_; clear hb hbox hg; have hnb12 := NB453_446.out; have hnc12 := NB446_453.out; have hcz13_0 : w11.cell? ⟨gb453, 0, none⟩ = some (.int .i64 0) := B.bc BK453 0; have hcz13_1 : w11.cell? ⟨gb453, 1, none⟩ = some (.int .i64 0) := B.bc BK453 1; have hcz13_2 : w11.cell? ⟨gb453, 2, none⟩ = some (.int .i64 0) := B.bc BK453 2; have hcz13_3 : w11.cell? ⟨gb453, 3, none⟩ = some (.slice none 0 0) := B.bc BK453 3; have hfz13_0 := blk_frozen BK453.out 0; have hfz13_1 := blk_frozen BK453.out 1; have hfz13_2 := blk_frozen BK453.out 2; have hfz13_3 := blk_frozen BK453.out 3; obtain ⟨Ao14, co14, eo14⟩ := Kd.R_slice HO452.out; subst eo14))
  (try simp only [Act.put, List.setIfInBounds_toArray, List.set_cons_zero, List.set_cons_succ])
  go_cut [27] (fun v27 wc => ∃ (kq : Nat) (x27_4 : Bool), v27 = .bool x27_4 ∧ Aside0 (laws_FnTurnImage.j0 kq t445 x27_4 t439 t440 t441 t442 t447 t448 t449 t450 = some r) ∧ Aside0 (kq ≤ k) ∧ Aside0 (Kd.Q (Kd.int .i64) 3 wc w.heap.size (fun k_ => some k_ ≠ ((.slice Ao14 t450.length co14) : Value).ownBlock) (.slice Ao9 t442.length co9) t442) ∧ Aside0 (Kd.Q (Kd.int .i64) 3 wc w.heap.size (fun k_ => some k_ ≠ ((.slice Ao9 t442.length co9) : Value).ownBlock) (.slice Ao14 t450.length co14) t450) ∧ Aside0 (wc.heap[gb446]? = some (.cells #[.int .i64 t439, .int .i64 t440, .int .i64 t441, (.slice Ao9 t442.length co9)] 26 (0, 0))) ∧ Aside0 (wc.heap[gb453]? = some (.cells #[.int .i64 t447, .int .i64 t448, .int .i64 t449, (.slice Ao14 t450.length co14)] 26 (0, 0))) ∧ Aside0 (Below w.heap.size w wc))
  case first =>
    have H := HC5.out
    clear HC5
    replace H := Option.bind_eq_some_iff.mp H
    obtain ⟨⟨t454, t455, t456, t457⟩, A150, H⟩ := H
    replace H : ((laws_equalImage.f k t447 t448 t449 t450 t454 t455 t456 t457).bind fun t460 => (if t460 = true then (laws_FnTurnImage.j0 k t445 (t447 == 0) t439 t440 t441 t442 t447 t448 t449 t450) else (laws_FnTurnImage.j0 k t445 true t439 t440 t441 t442 t447 t448 t449 t450))) = some r := H
    have A15 := Aside0.mk A150
    clear A150
    replace H := Option.bind_eq_some_iff.mp H
    obtain ⟨t460, A160, H⟩ := H
    replace H : (if t460 = true then (laws_FnTurnImage.j0 k t445 (t447 == 0) t439 t440 t441 t442 t447 t448 t449 t450) else (laws_FnTurnImage.j0 k t445 true t439 t440 t441 t442 t447 t448 t449 t450)) = some r := H
    have A16 := Aside0.mk A160
    clear A160
    by_cases c17 : t460 = true
    · subst c17
      have H1 : (laws_FnTurnImage.j0 k t445 (t447 == 0) t439 t440 t441 t442 t447 t448 t449 t450) = some r := by rw [if_pos rfl] at H; exact H
      clear H
      have H := H1
      clear H1
      have H' := Aside0.mk H
      clear H
      try go_wp2
      have n0_ : Aside0 (Kd.Q (Kd.int .i64) 3 ((((w11.setCell ⟨gb453, 0, none⟩ (.int .i64 t447)).setCell ⟨gb453, 1, none⟩ (.int .i64 t448)).setCell ⟨gb453, 2, none⟩ (.int .i64 t449)).setCell ⟨gb453, 3, none⟩ (.slice Ao14 t450.length co14)) w.heap.size (fun k_ => some k_ ≠ (.slice Ao14 t450.length co14 : Value).ownBlock) (.slice Ao9 t442.length co9) t442) := ⟨by (with_reducible repeat (first | apply Kd.Q_alloc | apply Kd.Q_drewN | apply Kd.Q_drew)); exact Kd.Q_mono (Kd.Q_far (p := ⟨gb453, 3, none⟩) (Kd.Q_far (p := ⟨gb453, 2, none⟩) (Kd.Q_far (p := ⟨gb453, 1, none⟩) (Kd.Q_far (p := ⟨gb453, 0, none⟩) (Kd.Q_types HO444.out BK453.out (by decide)) (fun _ hk => hk.2) (.int .i64 t447)) (fun _ hk => hk.2) (.int .i64 t448)) (fun _ hk => hk.2) (.int .i64 t449)) (fun _ hk => hk.2) (.slice Ao14 t450.length co14)) (fun _ hk => hk.1.2)⟩
      have n1_ : Aside0 (Kd.R (Kd.int .i64) 3 ((((w11.setCell ⟨gb453, 0, none⟩ (.int .i64 t447)).setCell ⟨gb453, 1, none⟩ (.int .i64 t448)).setCell ⟨gb453, 2, none⟩ (.int .i64 t449)).setCell ⟨gb453, 3, none⟩ (.slice Ao14 t450.length co14)) w.heap.size (fun k_ => some k_ ≠ (.slice Ao9 t442.length co9 : Value).ownBlock) (.slice Ao14 t450.length co14) t450) := ⟨B.kr0 (Kd.R_mono (B.rf4 HO452 BK453) (fun _ hk => hk.1.2))⟩
      have n2_ : Aside0 (((((w11.setCell ⟨gb453, 0, none⟩ (.int .i64 t447)).setCell ⟨gb453, 1, none⟩ (.int .i64 t448)).setCell ⟨gb453, 2, none⟩ (.int .i64 t449)).setCell ⟨gb453, 3, none⟩ (.slice Ao14 t450.length co14)).heap[gb446]? = some (.cells #[.int .i64 t439, .int .i64 t440, .int .i64 t441, .slice Ao9 t442.length co9] 26 (0, 0))) := ⟨B.kb0 (B.bf4 BK446 NB446_453)⟩
      have n3_ : Aside0 (((((w11.setCell ⟨gb453, 0, none⟩ (.int .i64 t447)).setCell ⟨gb453, 1, none⟩ (.int .i64 t448)).setCell ⟨gb453, 2, none⟩ (.int .i64 t449)).setCell ⟨gb453, 3, none⟩ (.slice Ao14 t450.length co14)).heap[gb453]? = some (.cells #[.int .i64 t447, .int .i64 t448, .int .i64 t449, .slice Ao14 t450.length co14] 26 (0, 0))) := ⟨B.kb0 (B.bp4 BK453)⟩
      have n4_ : Aside0 (Below w.heap.size w ((((w11.setCell ⟨gb453, 0, none⟩ (.int .i64 t447)).setCell ⟨gb453, 1, none⟩ (.int .i64 t448)).setCell ⟨gb453, 2, none⟩ (.int .i64 t449)).setCell ⟨gb453, 3, none⟩ (.slice Ao14 t450.length co14))) := ⟨B.bl HB⟩
      (try clear HO444)
      (try clear HO452)
      (try clear BK446)
      (try clear BK453)
      (try clear HB)
      generalize ((((w11.setCell ⟨gb453, 0, none⟩ (.int .i64 t447)).setCell ⟨gb453, 1, none⟩ (.int .i64 t448)).setCell ⟨gb453, 2, none⟩ (.int .i64 t449)).setCell ⟨gb453, 3, none⟩ (.slice Ao14 t450.length co14)) = w18 at n0_ n1_ n2_ n3_ n4_ ⊢
      have HO444 := n0_
      have HO452 := n1_
      have BK446 := n2_
      have BK453 := n3_
      have HB := n4_
      clear n0_ n1_ n2_ n3_ n4_
      have n0_ := Aside0.mk (Kd.Q_drew HO444.out)
      have n1_ := Aside0.mk (Kd.R_drew HO452.out)
      have n2_ := Aside0.mk (blk_drew BK446.out)
      have n3_ := Aside0.mk (blk_drew BK453.out)
      have n4_ := Aside0.mk (below_drew1 HB.out)
      clear HO444 HO452 BK446 BK453 HB
      have HO444 := n0_
      have HO452 := n1_
      have BK446 := n2_
      have BK453 := n3_
      have HB := n4_
      clear n0_ n1_ n2_ n3_ n4_
      refine start_ (n := 11) (S := fun w' => w'.cell? ⟨gb453, 0, none⟩ = some (.int .i64 t447) ∧ w'.cell? ⟨gb453, 1, none⟩ = some (.int .i64 t448) ∧ w'.cell? ⟨gb453, 2, none⟩ = some (.int .i64 t449) ∧ w'.cell? ⟨gb453, 3, none⟩ = some (.slice Ao14 t450.length co14) ∧ w'.cell? ⟨gb446, 0, none⟩ = some (.int .i64 t439) ∧ w'.cell? ⟨gb446, 1, none⟩ = some (.int .i64 t440) ∧ w'.cell? ⟨gb446, 2, none⟩ = some (.int .i64 t441) ∧ w'.cell? ⟨gb446, 3, none⟩ = some (.slice Ao9 t442.length co9)) (ds := []) #[false, false, false, false, false, false, false, false, false, false, false] (by kernel_rfl) rfl rfl ⟨B.bc BK453 0, B.bc BK453 1, B.bc BK453 2, B.bc BK453 3, B.bc BK446 0, B.bc BK446 1, B.bc BK446 2, B.bc BK446 3⟩ (fun hHeld => ?_); refine with_tabW laws_FnTurnImage.tab5 laws_FnTurnImage.bits5 (fun HT_ HW_ => ?_)
      generalize w18.drew = w19 at HO444 HO452 BK446 BK453 HB hHeld ⊢
      refine pure_ (i := 2) (N := some 19) (v := ?_) (a' := ?_) #[false, false, true, false, false, false, false, false, false, false, false] rfl rfl (any_of HT_.out (by kernel_rfl)) (fun _ _ _ h => h) (Or.inl ⟨by rfl, ?_⟩) ?_ ?_
      rotate_left
      · intro w'
        go_simp
        with_reducible rfl
      rotate_left
      · simp only [Act.put, List.setIfInBounds_toArray, List.set_cons_zero, List.set_cons_succ, i64_w, i32_w]
        rfl
      refine take_ (i := 0) (N := some 17) (v := ?_) (a' := ?_) #[true, false, true, false, false, false, false, false, false, false, false] rfl rfl (take_ofW HT_.out HW_.out (by kernel_rfl)) (fun _ _ _ h => h) (Or.inl ⟨by rfl, ?_⟩) hHeld ?_ ?_
      rotate_left
      · rintro w' ⟨s0, s1, s2, s3, s4, s5, s6, s7⟩
        go_simp
        with_reducible rfl
      rotate_left
      · simp only [Act.put, List.setIfInBounds_toArray, List.set_cons_zero, List.set_cons_succ, i64_w, i32_w]
        rfl
      refine take_ (i := 1) (N := some 18) (v := ?_) (a' := ?_) #[true, true, true, false, false, false, false, false, false, false, false] rfl rfl (take_ofW HT_.out HW_.out (by kernel_rfl)) (fun _ _ _ h => h) (Or.inl ⟨by rfl, ?_⟩) hHeld ?_ ?_
      rotate_left
      · rintro w' ⟨s0, s1, s2, s3, s4, s5, s6, s7⟩
        go_simp
        with_reducible rfl
      rotate_left
      · simp only [Act.put, List.setIfInBounds_toArray, List.set_cons_zero, List.set_cons_succ, i64_w, i32_w]
        rfl
      refine one_ (i := 3) (N := some 20) #[true, true, true, true, false, false, false, false, false, false, false] rfl rfl (one_of HT_.out (by kernel_rfl)) (by decide) (fun K hK => ?_)
      refine goes_ Try.func24 (by kernel_rfl) rfl #[.agg #[.int .i64 t439, .int .i64 t440, .int .i64 t441, .slice Ao9 t442.length co9], .int .i64 t445] (by rfl) rfl rfl B.am ?_
      with_reducible refine (spec_TurnImage.calls k t439 t440 t441 _ _ t442 t445 t454 t455 t456 t457 _ ?side1 ?side2 A15.out).mono ?_
      (case side1 => exact B.kc ((Kd.Q_reads' HO444.out).2.2))
      (case side2 => exact (Kd.Q_reads' HO444.out).2.1)
      rintro e w20 ⟨v458, rfl, ho0, hb⟩
      refine ⟨_, rfl, ?_⟩
      have n0_ := Aside0.mk (Kd.Q_elder' (B.kq HO444) (Kd.R_base ho0) hb)
      have n1_ := Aside0.mk (Kd.R_elder' (B.kr HO452) (Kd.R_base ho0) hb)
      have n2_ := Aside0.mk (Kd.R_lower (Kd.R_new' (Kd.R_new' ho0 (Kd.Q_lt (B.kq HO444))) (Kd.R_lt (B.kr HO452))) (below_size (B.bl HB)))
      have n3_ := Aside0.mk (blk_below (B.kb BK446) hb)
      have n4_ := Aside0.mk (blk_below (B.kb BK453) hb)
      have n5_ := Aside0.mk (below_step (B.bl HB) hb)
      clear HO444 HO452 BK446 BK453 HB
      have HO444 := n0_
      have HO452 := n1_
      have HO459 := n2_
      have BK446 := n3_
      have BK453 := n4_
      have HB := n5_
      clear n0_ n1_ n2_ n3_ n4_ n5_
      (try clear hb)
      (try clear hb2)
      (try clear hk)
      (try clear hi)
      (try clear ho0)
      obtain ⟨Ao21, co21, eo21⟩ := Kd.R_slice HO459.out
      (first | subst eo21 | (injection eo21 with f1_ f2_ f3_; have f4_ := f1_.symm; have f5_ := f3_.symm; clear f1_ f2_ f3_; subst f4_; subst f5_))
      refine hK.out _ _ ⟨B.bc BK453 0, B.bc BK453 1, B.bc BK453 2, B.bc BK453 3, B.bc BK446 0, B.bc BK446 1, B.bc BK446 2, B.bc BK446 3⟩ (fun hHeld => ?_)
      clear hK K
      refine norm_ (a' := ?_) ?_ ?_
      rotate_left
      · show Act.put _ (some 20) _ = _
        simp only [Act.put, List.setIfInBounds_toArray, List.set_cons_zero, List.set_cons_succ, i64_w, i32_w]
        rfl
      refine one_ (i := 4) (N := some 21) #[true, true, true, true, true, false, false, false, false, false, false] rfl rfl (one_of HT_.out (by kernel_rfl)) (by decide) (fun K hK => ?_)
      refine goes_ Try.func20 (by kernel_rfl) rfl #[.agg #[.int .i64 t447, .int .i64 t448, .int .i64 t449, .slice Ao14 t450.length co14], .agg #[.int .i64 t454, .int .i64 t455, .int .i64 t456, .slice Ao21 t457.length co21]] (by rfl) rfl rfl B.am ?_
      with_reducible refine (laws_equalImage.calls k t447 t448 t449 _ _ t450 t454 t455 t456 _ _ t457 true _ ?side1 ?side2 ?side3 ?side4 A16.out).mono ?_
      (case side1 => exact B.kc ((Kd.R_reads' HO452.out).2.2))
      (case side2 => exact (Kd.R_reads' HO452.out).2.1)
      (case side3 => exact B.kc ((Kd.R_reads' HO459.out).2.2))
      (case side4 => exact (Kd.R_reads' HO459.out).2.1)
      rintro e w22 ⟨rfl, hb⟩
      refine ⟨_, rfl, ?_⟩
      have n0_ := Aside0.mk (Kd.Q_below (B.kq HO444) hb)
      have n1_ := Aside0.mk (Kd.R_below (B.kr HO452) hb)
      have n2_ := Aside0.mk (Kd.R_below (B.kr HO459) hb)
      have n3_ := Aside0.mk (blk_below (B.kb BK446) hb)
      have n4_ := Aside0.mk (blk_below (B.kb BK453) hb)
      have n5_ := Aside0.mk (below_step (B.bl HB) hb)
      clear HO444 HO452 HO459 BK446 BK453 HB
      have HO444 := n0_
      have HO452 := n1_
      have HO459 := n2_
      have BK446 := n3_
      have BK453 := n4_
      have HB := n5_
      clear n0_ n1_ n2_ n3_ n4_ n5_
      (try clear hb)
      (try clear hb2)
      (try clear hk)
      (try clear hi)
      refine hK.out _ _ ⟨B.bc BK453 0, B.bc BK453 1, B.bc BK453 2, B.bc BK453 3, B.bc BK446 0, B.bc BK446 1, B.bc BK446 2, B.bc BK446 3⟩ (fun hHeld => ?_)
      clear hK K
      refine norm_ (a' := ?_) ?_ ?_
      rotate_left
      · show Act.put _ (some 21) _ = _
        simp only [Act.put, List.setIfInBounds_toArray, List.set_cons_zero, List.set_cons_succ, i64_w, i32_w]
        rfl
      refine pure_ (i := 5) (N := some 22) (v := ?_) (a' := ?_) #[true, true, true, true, true, true, false, false, false, false, false] rfl rfl (any_of HT_.out (by kernel_rfl)) (fun _ _ _ h => h) (Or.inl ⟨by rfl, ?_⟩) ?_ ?_
      rotate_left
      · intro w'
        go_simp
        with_reducible rfl
      rotate_left
      · simp only [Act.put, List.setIfInBounds_toArray, List.set_cons_zero, List.set_cons_succ, i64_w, i32_w]
        rfl
      refine pure_ (i := 6) (N := some 23) (v := ?_) (a' := ?_) #[true, true, true, true, true, true, true, false, false, false, false] rfl rfl (any_of HT_.out (by kernel_rfl)) (fun _ _ _ h => h) (Or.inl ⟨by rfl, ?_⟩) ?_ ?_
      rotate_left
      · intro w'
        go_simp
        with_reducible rfl
      rotate_left
      · simp only [Act.put, List.setIfInBounds_toArray, List.set_cons_zero, List.set_cons_succ, i64_w, i32_w]
        rfl
      refine pure_ (i := 7) (N := some 24) (v := ?_) (a' := ?_) #[true, true, true, true, true, true, true, true, false, false, false] rfl rfl (any_of HT_.out (by kernel_rfl)) (fun _ _ _ h => h) (Or.inl ⟨by rfl, ?_⟩) ?_ ?_
      rotate_left
      · intro w'
        go_simp
        with_reducible rfl
      rotate_left
      · simp only [Act.put, List.setIfInBounds_toArray, List.set_cons_zero, List.set_cons_succ, i64_w, i32_w]
        rfl
      refine take_ (i := 8) (N := some 25) (v := ?_) (a' := ?_) #[true, true, true, true, true, true, true, true, true, false, false] rfl rfl (take_ofW HT_.out HW_.out (by kernel_rfl)) (fun _ _ _ h => h) (Or.inl ⟨by rfl, ?_⟩) hHeld ?_ ?_
      rotate_left
      · rintro w' ⟨s0, s1, s2, s3, s4, s5, s6, s7⟩
        go_simp
        with_reducible rfl
      rotate_left
      · simp only [Act.put, List.setIfInBounds_toArray, List.set_cons_zero, List.set_cons_succ, i64_w, i32_w]
        rfl
      refine pure_ (i := 9) (N := some 26) (v := ?_) (a' := ?_) #[true, true, true, true, true, true, true, true, true, true, false] rfl rfl (any_of HT_.out (by kernel_rfl)) (fun _ _ _ h => h) (Or.inl ⟨by rfl, ?_⟩) ?_ ?_
      rotate_left
      · intro w'
        go_simp
        with_reducible rfl
      rotate_left
      · simp only [Act.put, List.setIfInBounds_toArray, List.set_cons_zero, List.set_cons_succ, i64_w, i32_w]
        rfl
      refine pure_ (i := 10) (N := some 27) (v := ?_) (a' := ?_) #[true, true, true, true, true, true, true, true, true, true, true] rfl rfl (any_of HT_.out (by kernel_rfl)) (fun _ _ _ h => h) (Or.inl ⟨by rfl, ?_⟩) ?_ ?_
      rotate_left
      · intro w'
        go_simp
        with_reducible rfl
      rotate_left
      · simp only [Act.put, List.setIfInBounds_toArray, List.set_cons_zero, List.set_cons_succ, i64_w, i32_w]
        rfl
      refine done_ (done_of HT_.out (by kernel_rfl)) ?_
      try go_wp2
      go_meet
      case rel => exact ⟨_, ((t447 == 0)), (by first | rfl | (simp; done) | (simp [*]; done)), H', ⟨by first | omega | exact Nat.le_refl _⟩, ⟨by (with_reducible repeat (first | apply Kd.Q_alloc | apply Kd.Q_drewN | apply Kd.Q_drew)); exact Kd.Q_mono HO444.out (fun _ hk => hk.1)⟩, ⟨Kd.Q_of_R (B.kr0 (Kd.R_mono HO452.out (fun _ hk => hk.1)))⟩, ⟨B.kb BK446⟩, ⟨B.kb BK453⟩, ⟨B.bl HB⟩⟩
    replace c17 := Bool.eq_false_iff.mpr c17
    subst c17
    have H1 : (laws_FnTurnImage.j0 k t445 true t439 t440 t441 t442 t447 t448 t449 t450) = some r := by rw [if_neg (show ¬ (false = true) by decide)] at H; exact H
    clear H
    have H := H1
    clear H1
    have H' := Aside0.mk H
    clear H
    try go_wp2
    have n0_ : Aside0 (Kd.Q (Kd.int .i64) 3 ((((w11.setCell ⟨gb453, 0, none⟩ (.int .i64 t447)).setCell ⟨gb453, 1, none⟩ (.int .i64 t448)).setCell ⟨gb453, 2, none⟩ (.int .i64 t449)).setCell ⟨gb453, 3, none⟩ (.slice Ao14 t450.length co14)) w.heap.size (fun k_ => some k_ ≠ (.slice Ao14 t450.length co14 : Value).ownBlock) (.slice Ao9 t442.length co9) t442) := ⟨by (with_reducible repeat (first | apply Kd.Q_alloc | apply Kd.Q_drewN | apply Kd.Q_drew)); exact Kd.Q_mono (Kd.Q_far (p := ⟨gb453, 3, none⟩) (Kd.Q_far (p := ⟨gb453, 2, none⟩) (Kd.Q_far (p := ⟨gb453, 1, none⟩) (Kd.Q_far (p := ⟨gb453, 0, none⟩) (Kd.Q_types HO444.out BK453.out (by decide)) (fun _ hk => hk.2) (.int .i64 t447)) (fun _ hk => hk.2) (.int .i64 t448)) (fun _ hk => hk.2) (.int .i64 t449)) (fun _ hk => hk.2) (.slice Ao14 t450.length co14)) (fun _ hk => hk.1.2)⟩
    have n1_ : Aside0 (Kd.R (Kd.int .i64) 3 ((((w11.setCell ⟨gb453, 0, none⟩ (.int .i64 t447)).setCell ⟨gb453, 1, none⟩ (.int .i64 t448)).setCell ⟨gb453, 2, none⟩ (.int .i64 t449)).setCell ⟨gb453, 3, none⟩ (.slice Ao14 t450.length co14)) w.heap.size (fun k_ => some k_ ≠ (.slice Ao9 t442.length co9 : Value).ownBlock) (.slice Ao14 t450.length co14) t450) := ⟨B.kr0 (Kd.R_mono (B.rf4 HO452 BK453) (fun _ hk => hk.1.2))⟩
    have n2_ : Aside0 (((((w11.setCell ⟨gb453, 0, none⟩ (.int .i64 t447)).setCell ⟨gb453, 1, none⟩ (.int .i64 t448)).setCell ⟨gb453, 2, none⟩ (.int .i64 t449)).setCell ⟨gb453, 3, none⟩ (.slice Ao14 t450.length co14)).heap[gb446]? = some (.cells #[.int .i64 t439, .int .i64 t440, .int .i64 t441, .slice Ao9 t442.length co9] 26 (0, 0))) := ⟨B.kb0 (B.bf4 BK446 NB446_453)⟩
    have n3_ : Aside0 (((((w11.setCell ⟨gb453, 0, none⟩ (.int .i64 t447)).setCell ⟨gb453, 1, none⟩ (.int .i64 t448)).setCell ⟨gb453, 2, none⟩ (.int .i64 t449)).setCell ⟨gb453, 3, none⟩ (.slice Ao14 t450.length co14)).heap[gb453]? = some (.cells #[.int .i64 t447, .int .i64 t448, .int .i64 t449, .slice Ao14 t450.length co14] 26 (0, 0))) := ⟨B.kb0 (B.bp4 BK453)⟩
    have n4_ : Aside0 (Below w.heap.size w ((((w11.setCell ⟨gb453, 0, none⟩ (.int .i64 t447)).setCell ⟨gb453, 1, none⟩ (.int .i64 t448)).setCell ⟨gb453, 2, none⟩ (.int .i64 t449)).setCell ⟨gb453, 3, none⟩ (.slice Ao14 t450.length co14))) := ⟨B.bl HB⟩
    (try clear HO444)
    (try clear HO452)
    (try clear BK446)
    (try clear BK453)
    (try clear HB)
    generalize ((((w11.setCell ⟨gb453, 0, none⟩ (.int .i64 t447)).setCell ⟨gb453, 1, none⟩ (.int .i64 t448)).setCell ⟨gb453, 2, none⟩ (.int .i64 t449)).setCell ⟨gb453, 3, none⟩ (.slice Ao14 t450.length co14)) = w23 at n0_ n1_ n2_ n3_ n4_ ⊢
    have HO444 := n0_
    have HO452 := n1_
    have BK446 := n2_
    have BK453 := n3_
    have HB := n4_
    clear n0_ n1_ n2_ n3_ n4_
    have n0_ := Aside0.mk (Kd.Q_drew HO444.out)
    have n1_ := Aside0.mk (Kd.R_drew HO452.out)
    have n2_ := Aside0.mk (blk_drew BK446.out)
    have n3_ := Aside0.mk (blk_drew BK453.out)
    have n4_ := Aside0.mk (below_drew1 HB.out)
    clear HO444 HO452 BK446 BK453 HB
    have HO444 := n0_
    have HO452 := n1_
    have BK446 := n2_
    have BK453 := n3_
    have HB := n4_
    clear n0_ n1_ n2_ n3_ n4_
    refine start_ (n := 11) (S := fun w' => w'.cell? ⟨gb453, 0, none⟩ = some (.int .i64 t447) ∧ w'.cell? ⟨gb453, 1, none⟩ = some (.int .i64 t448) ∧ w'.cell? ⟨gb453, 2, none⟩ = some (.int .i64 t449) ∧ w'.cell? ⟨gb453, 3, none⟩ = some (.slice Ao14 t450.length co14) ∧ w'.cell? ⟨gb446, 0, none⟩ = some (.int .i64 t439) ∧ w'.cell? ⟨gb446, 1, none⟩ = some (.int .i64 t440) ∧ w'.cell? ⟨gb446, 2, none⟩ = some (.int .i64 t441) ∧ w'.cell? ⟨gb446, 3, none⟩ = some (.slice Ao9 t442.length co9)) (ds := []) #[false, false, false, false, false, false, false, false, false, false, false] (by kernel_rfl) rfl rfl ⟨B.bc BK453 0, B.bc BK453 1, B.bc BK453 2, B.bc BK453 3, B.bc BK446 0, B.bc BK446 1, B.bc BK446 2, B.bc BK446 3⟩ (fun hHeld => ?_); refine with_tabW laws_FnTurnImage.tab5 laws_FnTurnImage.bits5 (fun HT_ HW_ => ?_)
    generalize w23.drew = w24 at HO444 HO452 BK446 BK453 HB hHeld ⊢
    refine pure_ (i := 2) (N := some 19) (v := ?_) (a' := ?_) #[false, false, true, false, false, false, false, false, false, false, false] rfl rfl (any_of HT_.out (by kernel_rfl)) (fun _ _ _ h => h) (Or.inl ⟨by rfl, ?_⟩) ?_ ?_
    rotate_left
    · intro w'
      go_simp
      with_reducible rfl
    rotate_left
    · simp only [Act.put, List.setIfInBounds_toArray, List.set_cons_zero, List.set_cons_succ, i64_w, i32_w]
      rfl
    refine take_ (i := 0) (N := some 17) (v := ?_) (a' := ?_) #[true, false, true, false, false, false, false, false, false, false, false] rfl rfl (take_ofW HT_.out HW_.out (by kernel_rfl)) (fun _ _ _ h => h) (Or.inl ⟨by rfl, ?_⟩) hHeld ?_ ?_
    rotate_left
    · rintro w' ⟨s0, s1, s2, s3, s4, s5, s6, s7⟩
      go_simp
      with_reducible rfl
    rotate_left
    · simp only [Act.put, List.setIfInBounds_toArray, List.set_cons_zero, List.set_cons_succ, i64_w, i32_w]
      rfl
    refine take_ (i := 1) (N := some 18) (v := ?_) (a' := ?_) #[true, true, true, false, false, false, false, false, false, false, false] rfl rfl (take_ofW HT_.out HW_.out (by kernel_rfl)) (fun _ _ _ h => h) (Or.inl ⟨by rfl, ?_⟩) hHeld ?_ ?_
    rotate_left
    · rintro w' ⟨s0, s1, s2, s3, s4, s5, s6, s7⟩
      go_simp
      with_reducible rfl
    rotate_left
    · simp only [Act.put, List.setIfInBounds_toArray, List.set_cons_zero, List.set_cons_succ, i64_w, i32_w]
      rfl
    refine one_ (i := 3) (N := some 20) #[true, true, true, true, false, false, false, false, false, false, false] rfl rfl (one_of HT_.out (by kernel_rfl)) (by decide) (fun K hK => ?_)
    refine goes_ Try.func24 (by kernel_rfl) rfl #[.agg #[.int .i64 t439, .int .i64 t440, .int .i64 t441, .slice Ao9 t442.length co9], .int .i64 t445] (by rfl) rfl rfl B.am ?_
    with_reducible refine (spec_TurnImage.calls k t439 t440 t441 _ _ t442 t445 t454 t455 t456 t457 _ ?side1 ?side2 A15.out).mono ?_
    (case side1 => exact B.kc ((Kd.Q_reads' HO444.out).2.2))
    (case side2 => exact (Kd.Q_reads' HO444.out).2.1)
    rintro e w25 ⟨v458, rfl, ho0, hb⟩
    refine ⟨_, rfl, ?_⟩
    have n0_ := Aside0.mk (Kd.Q_elder' (B.kq HO444) (Kd.R_base ho0) hb)
    have n1_ := Aside0.mk (Kd.R_elder' (B.kr HO452) (Kd.R_base ho0) hb)
    have n2_ := Aside0.mk (Kd.R_lower (Kd.R_new' (Kd.R_new' ho0 (Kd.Q_lt (B.kq HO444))) (Kd.R_lt (B.kr HO452))) (below_size (B.bl HB)))
    have n3_ := Aside0.mk (blk_below (B.kb BK446) hb)
    have n4_ := Aside0.mk (blk_below (B.kb BK453) hb)
    have n5_ := Aside0.mk (below_step (B.bl HB) hb)
    clear HO444 HO452 BK446 BK453 HB
    have HO444 := n0_
    have HO452 := n1_
    have HO459 := n2_
    have BK446 := n3_
    have BK453 := n4_
    have HB := n5_
    clear n0_ n1_ n2_ n3_ n4_ n5_
    (try clear hb)
    (try clear hb2)
    (try clear hk)
    (try clear hi)
    (try clear ho0)
    obtain ⟨Ao26, co26, eo26⟩ := Kd.R_slice HO459.out
    (first | subst eo26 | (injection eo26 with f1_ f2_ f3_; have f4_ := f1_.symm; have f5_ := f3_.symm; clear f1_ f2_ f3_; subst f4_; subst f5_))
    refine hK.out _ _ ⟨B.bc BK453 0, B.bc BK453 1, B.bc BK453 2, B.bc BK453 3, B.bc BK446 0, B.bc BK446 1, B.bc BK446 2, B.bc BK446 3⟩ (fun hHeld => ?_)
    clear hK K
    refine norm_ (a' := ?_) ?_ ?_
    rotate_left
    · show Act.put _ (some 20) _ = _
      simp only [Act.put, List.setIfInBounds_toArray, List.set_cons_zero, List.set_cons_succ, i64_w, i32_w]
      rfl
    refine one_ (i := 4) (N := some 21) #[true, true, true, true, true, false, false, false, false, false, false] rfl rfl (one_of HT_.out (by kernel_rfl)) (by decide) (fun K hK => ?_)
    refine goes_ Try.func20 (by kernel_rfl) rfl #[.agg #[.int .i64 t447, .int .i64 t448, .int .i64 t449, .slice Ao14 t450.length co14], .agg #[.int .i64 t454, .int .i64 t455, .int .i64 t456, .slice Ao26 t457.length co26]] (by rfl) rfl rfl B.am ?_
    with_reducible refine (laws_equalImage.calls k t447 t448 t449 _ _ t450 t454 t455 t456 _ _ t457 false _ ?side1 ?side2 ?side3 ?side4 A16.out).mono ?_
    (case side1 => exact B.kc ((Kd.R_reads' HO452.out).2.2))
    (case side2 => exact (Kd.R_reads' HO452.out).2.1)
    (case side3 => exact B.kc ((Kd.R_reads' HO459.out).2.2))
    (case side4 => exact (Kd.R_reads' HO459.out).2.1)
    rintro e w27 ⟨rfl, hb⟩
    refine ⟨_, rfl, ?_⟩
    have n0_ := Aside0.mk (Kd.Q_below (B.kq HO444) hb)
    have n1_ := Aside0.mk (Kd.R_below (B.kr HO452) hb)
    have n2_ := Aside0.mk (Kd.R_below (B.kr HO459) hb)
    have n3_ := Aside0.mk (blk_below (B.kb BK446) hb)
    have n4_ := Aside0.mk (blk_below (B.kb BK453) hb)
    have n5_ := Aside0.mk (below_step (B.bl HB) hb)
    clear HO444 HO452 HO459 BK446 BK453 HB
    have HO444 := n0_
    have HO452 := n1_
    have HO459 := n2_
    have BK446 := n3_
    have BK453 := n4_
    have HB := n5_
    clear n0_ n1_ n2_ n3_ n4_ n5_
    (try clear hb)
    (try clear hb2)
    (try clear hk)
    (try clear hi)
    refine hK.out _ _ ⟨B.bc BK453 0, B.bc BK453 1, B.bc BK453 2, B.bc BK453 3, B.bc BK446 0, B.bc BK446 1, B.bc BK446 2, B.bc BK446 3⟩ (fun hHeld => ?_)
    clear hK K
    refine norm_ (a' := ?_) ?_ ?_
    rotate_left
    · show Act.put _ (some 21) _ = _
      simp only [Act.put, List.setIfInBounds_toArray, List.set_cons_zero, List.set_cons_succ, i64_w, i32_w]
      rfl
    refine pure_ (i := 5) (N := some 22) (v := ?_) (a' := ?_) #[true, true, true, true, true, true, false, false, false, false, false] rfl rfl (any_of HT_.out (by kernel_rfl)) (fun _ _ _ h => h) (Or.inl ⟨by rfl, ?_⟩) ?_ ?_
    rotate_left
    · intro w'
      go_simp
      with_reducible rfl
    rotate_left
    · simp only [Act.put, List.setIfInBounds_toArray, List.set_cons_zero, List.set_cons_succ, i64_w, i32_w]
      rfl
    refine pure_ (i := 6) (N := some 23) (v := ?_) (a' := ?_) #[true, true, true, true, true, true, true, false, false, false, false] rfl rfl (any_of HT_.out (by kernel_rfl)) (fun _ _ _ h => h) (Or.inl ⟨by rfl, ?_⟩) ?_ ?_
    rotate_left
    · intro w'
      go_simp
      with_reducible rfl
    rotate_left
    · simp only [Act.put, List.setIfInBounds_toArray, List.set_cons_zero, List.set_cons_succ, i64_w, i32_w]
      rfl
    refine pure_ (i := 7) (N := some 24) (v := undef) (a' := ?_) #[true, true, true, true, true, true, true, true, false, false, false] rfl rfl (any_of HT_.out (by kernel_rfl)) (fun _ _ _ h => h) (Or.inr ⟨by rfl, rfl⟩) ?_ ?_
    rotate_left
    · simp only [Act.put, List.setIfInBounds_toArray, List.set_cons_zero, List.set_cons_succ, i64_w, i32_w]
      rfl
    refine pure_ (i := 8) (N := some 25) (v := undef) (a' := ?_) #[true, true, true, true, true, true, true, true, true, false, false] rfl rfl (any_of HT_.out (by kernel_rfl)) (fun _ _ _ h => h) (Or.inr ⟨by rfl, rfl⟩) ?_ ?_
    rotate_left
    · simp only [Act.put, List.setIfInBounds_toArray, List.set_cons_zero, List.set_cons_succ, i64_w, i32_w]
      rfl
    refine pure_ (i := 9) (N := some 26) (v := undef) (a' := ?_) #[true, true, true, true, true, true, true, true, true, true, false] rfl rfl (any_of HT_.out (by kernel_rfl)) (fun _ _ _ h => h) (Or.inr ⟨by rfl, rfl⟩) ?_ ?_
    rotate_left
    · simp only [Act.put, List.setIfInBounds_toArray, List.set_cons_zero, List.set_cons_succ, i64_w, i32_w]
      rfl
    refine pure_ (i := 10) (N := some 27) (v := ?_) (a' := ?_) #[true, true, true, true, true, true, true, true, true, true, true] rfl rfl (any_of HT_.out (by kernel_rfl)) (fun _ _ _ h => h) (Or.inl ⟨by rfl, ?_⟩) ?_ ?_
    rotate_left
    · intro w'
      go_simp
      with_reducible rfl
    rotate_left
    · simp only [Act.put, List.setIfInBounds_toArray, List.set_cons_zero, List.set_cons_succ, i64_w, i32_w]
      rfl
    refine done_ (done_of HT_.out (by kernel_rfl)) ?_
    try go_wp2
    go_meet
    case rel => exact ⟨_, (true), (by first | rfl | (simp; done) | (simp [*]; done)), H', ⟨by first | omega | exact Nat.le_refl _⟩, ⟨by (with_reducible repeat (first | apply Kd.Q_alloc | apply Kd.Q_drewN | apply Kd.Q_drew)); exact Kd.Q_mono HO444.out (fun _ hk => hk.1)⟩, ⟨Kd.Q_of_R (B.kr0 (Kd.R_mono HO452.out (fun _ hk => hk.1)))⟩, ⟨B.kb BK446⟩, ⟨B.kb BK453⟩, ⟨B.bl HB⟩⟩
  case rest =>
    clear HC5
    try clear c1
    try clear c2
    try clear c2b0
    try clear c2b1
    try clear p2
    try clear c5
    try clear c12
    try clear c17
    try clear c20
    try clear c22
    try clear c23
    try clear c24
    try clear hcz13_0
    try clear hcz13_1
    try clear hcz13_2
    try clear hcz13_3
    try clear hcz8_0
    try clear hcz8_1
    try clear hcz8_2
    try clear hcz8_3
    try clear hfz13_0
    try clear hfz13_1
    try clear hfz13_2
    try clear hfz13_3
    try clear hfz8_0
    try clear hfz8_1
    try clear hfz8_2
    try clear hfz8_3
    obtain ⟨kq, x27_4, rfl, HA, HJ4, HO_447003, HO_454003, BK446, BK453, HB⟩ := hcut
    cases kq with
    | zero => exact absurd HA.out (by simp [laws_FnTurnImage.j0])
    | succ kj4 =>
      have H := HA.out
      clear HA
      simp only [laws_FnTurnImage.j0] at H
      by_cases c28 : x27_4 = true
      · subst c28
        have H1 : ((spec_TurnImage.f kj4 t439 t440 t441 t442 t445).bind fun bt461 => ((laws_equalImage.f kj4 t447 t448 t449 t450 bt461.1 bt461.2.1 bt461.2.2.1 bt461.2.2.2).bind fun t467 => (some t467))) = some r := by rw [if_pos rfl] at H; exact H
        clear H
        have H := H1
        clear H1
        replace H := Option.bind_eq_some_iff.mp H
        obtain ⟨⟨t461, t462, t463, t464⟩, A290, H⟩ := H
        replace H : ((laws_equalImage.f kj4 t447 t448 t449 t450 t461 t462 t463 t464).bind fun t467 => (some t467)) = some r := H
        have A29 := Aside0.mk A290
        clear A290
        replace H := Option.bind_eq_some_iff.mp H
        obtain ⟨t467, A300, H⟩ := H
        replace H : (some t467) = some r := H
        have A30 := Aside0.mk A300
        clear A300
        obtain rfl := Option.some.inj H
        simp only [Option.some.injEq, Prod.mk.injEq] at H
        obtain ⟨rfl⟩ := H
        try go_wp2
        have n0_ := Aside0.mk (Kd.Q_drew HO_447003.out)
        have n1_ := Aside0.mk (Kd.Q_drew HO_454003.out)
        have n2_ := Aside0.mk (blk_drew BK446.out)
        have n3_ := Aside0.mk (blk_drew BK453.out)
        have n4_ := Aside0.mk (below_drew1 HB.out)
        clear HO_447003 HO_454003 BK446 BK453 HB
        have HO_447003 := n0_
        have HO_454003 := n1_
        have BK446 := n2_
        have BK453 := n3_
        have HB := n4_
        clear n0_ n1_ n2_ n3_ n4_
        refine start_ (n := 6) (S := fun w' => w'.cell? ⟨gb453, 0, none⟩ = some (.int .i64 t447) ∧ w'.cell? ⟨gb453, 1, none⟩ = some (.int .i64 t448) ∧ w'.cell? ⟨gb453, 2, none⟩ = some (.int .i64 t449) ∧ w'.cell? ⟨gb453, 3, none⟩ = some (.slice Ao14 t450.length co14) ∧ w'.cell? ⟨gb446, 0, none⟩ = some (.int .i64 t439) ∧ w'.cell? ⟨gb446, 1, none⟩ = some (.int .i64 t440) ∧ w'.cell? ⟨gb446, 2, none⟩ = some (.int .i64 t441) ∧ w'.cell? ⟨gb446, 3, none⟩ = some (.slice Ao9 t442.length co9)) (ds := []) #[false, false, false, false, false, false] (by kernel_rfl) rfl rfl ⟨B.bc BK453 0, B.bc BK453 1, B.bc BK453 2, B.bc BK453 3, B.bc BK446 0, B.bc BK446 1, B.bc BK446 2, B.bc BK446 3⟩ (fun hHeld => ?_)
        generalize wc.drew = w31 at HO_447003 HO_454003 BK446 BK453 HB hHeld ⊢
        refine pure_ (i := 2) (N := some 30) (v := ?_) (a' := ?_) #[false, false, true, false, false, false] rfl rfl (by kernel_rfl) (fun _ _ _ h => h) (Or.inl ⟨by rfl, ?_⟩) ?_ ?_
        rotate_left
        · intro w'
          go_simp
          with_reducible rfl
        rotate_left
        · simp only [Act.put, List.setIfInBounds_toArray, List.set_cons_zero, List.set_cons_succ, i64_w, i32_w]
          rfl
        refine take_ (i := 0) (N := some 28) (v := ?_) (a' := ?_) #[true, false, true, false, false, false] rfl rfl (by kernel_rfl) (fun _ _ _ h => h) (Or.inl ⟨by rfl, ?_⟩) hHeld ?_ ?_
        rotate_left
        · rintro w' ⟨s0, s1, s2, s3, s4, s5, s6, s7⟩
          go_simp
          with_reducible rfl
        rotate_left
        · simp only [Act.put, List.setIfInBounds_toArray, List.set_cons_zero, List.set_cons_succ, i64_w, i32_w]
          rfl
        refine take_ (i := 1) (N := some 29) (v := ?_) (a' := ?_) #[true, true, true, false, false, false] rfl rfl (by kernel_rfl) (fun _ _ _ h => h) (Or.inl ⟨by rfl, ?_⟩) hHeld ?_ ?_
        rotate_left
        · rintro w' ⟨s0, s1, s2, s3, s4, s5, s6, s7⟩
          go_simp
          with_reducible rfl
        rotate_left
        · simp only [Act.put, List.setIfInBounds_toArray, List.set_cons_zero, List.set_cons_succ, i64_w, i32_w]
          rfl
        refine one_ (i := 3) (N := some 31) #[true, true, true, true, false, false] rfl rfl (by kernel_rfl) (by decide) (fun K hK => ?_)
        refine goes_ Try.func24 (by kernel_rfl) rfl #[.agg #[.int .i64 t439, .int .i64 t440, .int .i64 t441, .slice Ao9 t442.length co9], .int .i64 t445] (by rfl) rfl rfl B.am ?_
        with_reducible refine (spec_TurnImage.calls kj4 t439 t440 t441 _ _ t442 t445 t461 t462 t463 t464 _ ?side1 ?side2 A29.out).mono ?_
        (case side1 => exact B.kc ((Kd.Q_reads' HO_447003.out).2.2))
        (case side2 => exact (Kd.Q_reads' HO_447003.out).2.1)
        rintro e w32 ⟨v465, rfl, ho0, hb⟩
        refine ⟨_, rfl, ?_⟩
        have n0_ := Aside0.mk (Kd.Q_elder' (B.kq HO_447003) (Kd.R_base ho0) hb)
        have n1_ := Aside0.mk (Kd.Q_elder' (B.kq HO_454003) (Kd.R_base ho0) hb)
        have n2_ := Aside0.mk (Kd.R_lower (Kd.R_new' (Kd.R_new' ho0 (Kd.Q_lt (B.kq HO_447003))) (Kd.Q_lt (B.kq HO_454003))) (below_size (B.bl HB)))
        have n3_ := Aside0.mk (blk_below (B.kb BK446) hb)
        have n4_ := Aside0.mk (blk_below (B.kb BK453) hb)
        have n5_ := Aside0.mk (below_step (B.bl HB) hb)
        clear HO_447003 HO_454003 BK446 BK453 HB
        have HO_447003 := n0_
        have HO_454003 := n1_
        have HO466 := n2_
        have BK446 := n3_
        have BK453 := n4_
        have HB := n5_
        clear n0_ n1_ n2_ n3_ n4_ n5_
        (try clear hb)
        (try clear hb2)
        (try clear hk)
        (try clear hi)
        (try clear ho0)
        obtain ⟨Ao33, co33, eo33⟩ := Kd.R_slice HO466.out
        (first | subst eo33 | (injection eo33 with f1_ f2_ f3_; have f4_ := f1_.symm; have f5_ := f3_.symm; clear f1_ f2_ f3_; subst f4_; subst f5_))
        refine hK.out _ _ ⟨B.bc BK453 0, B.bc BK453 1, B.bc BK453 2, B.bc BK453 3, B.bc BK446 0, B.bc BK446 1, B.bc BK446 2, B.bc BK446 3⟩ (fun hHeld => ?_)
        clear hK K
        refine norm_ (a' := ?_) ?_ ?_
        rotate_left
        · show Act.put _ (some 31) _ = _
          simp only [Act.put, List.setIfInBounds_toArray, List.set_cons_zero, List.set_cons_succ, i64_w, i32_w]
          rfl
        refine one_ (i := 4) (N := some 32) #[true, true, true, true, true, false] rfl rfl (by kernel_rfl) (by decide) (fun K hK => ?_)
        refine goes_ Try.func20 (by kernel_rfl) rfl #[.agg #[.int .i64 t447, .int .i64 t448, .int .i64 t449, .slice Ao14 t450.length co14], .agg #[.int .i64 t461, .int .i64 t462, .int .i64 t463, .slice Ao33 t464.length co33]] (by rfl) rfl rfl B.am ?_
        with_reducible refine (laws_equalImage.calls kj4 t447 t448 t449 _ _ t450 t461 t462 t463 _ _ t464 t467 _ ?side1 ?side2 ?side3 ?side4 A30.out).mono ?_
        (case side1 => exact B.kc ((Kd.Q_reads' HO_454003.out).2.2))
        (case side2 => exact (Kd.Q_reads' HO_454003.out).2.1)
        (case side3 => exact B.kc ((Kd.R_reads' HO466.out).2.2))
        (case side4 => exact (Kd.R_reads' HO466.out).2.1)
        rintro e w34 ⟨rfl, hb⟩
        refine ⟨_, rfl, ?_⟩
        have n0_ := Aside0.mk (Kd.Q_below (B.kq HO_447003) hb)
        have n1_ := Aside0.mk (Kd.Q_below (B.kq HO_454003) hb)
        have n2_ := Aside0.mk (Kd.R_below (B.kr HO466) hb)
        have n3_ := Aside0.mk (blk_below (B.kb BK446) hb)
        have n4_ := Aside0.mk (blk_below (B.kb BK453) hb)
        have n5_ := Aside0.mk (below_step (B.bl HB) hb)
        clear HO_447003 HO_454003 HO466 BK446 BK453 HB
        have HO_447003 := n0_
        have HO_454003 := n1_
        have HO466 := n2_
        have BK446 := n3_
        have BK453 := n4_
        have HB := n5_
        clear n0_ n1_ n2_ n3_ n4_ n5_
        (try clear hb)
        (try clear hb2)
        (try clear hk)
        (try clear hi)
        refine hK.out _ _ ⟨B.bc BK453 0, B.bc BK453 1, B.bc BK453 2, B.bc BK453 3, B.bc BK446 0, B.bc BK446 1, B.bc BK446 2, B.bc BK446 3⟩ (fun hHeld => ?_)
        clear hK K
        refine norm_ (a' := ?_) ?_ ?_
        rotate_left
        · show Act.put _ (some 32) _ = _
          simp only [Act.put, List.setIfInBounds_toArray, List.set_cons_zero, List.set_cons_succ, i64_w, i32_w]
          rfl
        refine pure_ (i := 5) (N := some 2) (v := ?_) (a' := ?_) #[true, true, true, true, true, true] rfl rfl (by kernel_rfl) (fun _ _ _ h => h) (Or.inl ⟨by rfl, ?_⟩) ?_ ?_
        rotate_left
        · intro w'
          go_simp
          with_reducible rfl
        rotate_left
        · simp only [Act.put, List.setIfInBounds_toArray, List.set_cons_zero, List.set_cons_succ, i64_w, i32_w]
          rfl
        refine done_ (by kernel_rfl) ?_
        try go_wp2
        go_ret
        exact ⟨by first | rfl | (simp [errW_none, errW_some] <;> rfl) | (simp [*, errW_none, errW_some] <;> rfl), B.bl HB⟩
      replace c28 := Bool.eq_false_iff.mpr c28
      subst c28
      have H1 : ((impl_TurnImage.f t447 t448 t449 t450 (Int.tmod (wrap64 (4 - t445)) 4)).bind fun bt468 => ((laws_equalImage.f kj4 bt468.1 bt468.2.1 bt468.2.2.1 bt468.2.2.2 t439 t440 t441 t442).bind fun t474 => (if t474 = true then ((impl_TurnImage.f t447 t448 t449 t450 1).bind fun bt475 => ((impl_TurnImage.f t439 t440 t441 t442 (Int.tmod (wrap64 (t445 + 1)) 4)).bind fun bt481 => ((laws_equalImage.f kj4 bt475.1 bt475.2.1 bt475.2.2.1 bt475.2.2.2 bt481.1 bt481.2.1 bt481.2.2.1 bt481.2.2.2).bind fun t487 => (some t487)))) else (some false)))) = some r := by rw [if_neg (show ¬ (false = true) by decide)] at H; exact H
      clear H
      have H := H1
      clear H1
      replace H := Option.bind_eq_some_iff.mp H
      obtain ⟨⟨t468, t469, t470, t471⟩, A350, H⟩ := H
      replace H : ((laws_equalImage.f kj4 t468 t469 t470 t471 t439 t440 t441 t442).bind fun t474 => (if t474 = true then ((impl_TurnImage.f t447 t448 t449 t450 1).bind fun bt475 => ((impl_TurnImage.f t439 t440 t441 t442 (Int.tmod (wrap64 (t445 + 1)) 4)).bind fun bt481 => ((laws_equalImage.f kj4 bt475.1 bt475.2.1 bt475.2.2.1 bt475.2.2.2 bt481.1 bt481.2.1 bt481.2.2.1 bt481.2.2.2).bind fun t487 => (some t487)))) else (some false))) = some r := H
      have A35 := Aside0.mk A350
      clear A350
      replace H := Option.bind_eq_some_iff.mp H
      obtain ⟨t474, A360, H⟩ := H
      replace H : (if t474 = true then ((impl_TurnImage.f t447 t448 t449 t450 1).bind fun bt475 => ((impl_TurnImage.f t439 t440 t441 t442 (Int.tmod (wrap64 (t445 + 1)) 4)).bind fun bt481 => ((laws_equalImage.f kj4 bt475.1 bt475.2.1 bt475.2.2.1 bt475.2.2.2 bt481.1 bt481.2.1 bt481.2.2.1 bt481.2.2.2).bind fun t487 => (some t487)))) else (some false)) = some r := H
      have A36 := Aside0.mk A360
      clear A360
      by_cases c37 : t474 = true
      · subst c37
        have H1 : ((impl_TurnImage.f t447 t448 t449 t450 1).bind fun bt475 => ((impl_TurnImage.f t439 t440 t441 t442 (Int.tmod (wrap64 (t445 + 1)) 4)).bind fun bt481 => ((laws_equalImage.f kj4 bt475.1 bt475.2.1 bt475.2.2.1 bt475.2.2.2 bt481.1 bt481.2.1 bt481.2.2.1 bt481.2.2.2).bind fun t487 => (some t487)))) = some r := by rw [if_pos rfl] at H; exact H
        clear H
        have H := H1
        clear H1
        replace H := Option.bind_eq_some_iff.mp H
        obtain ⟨⟨t475, t476, t477, t478⟩, A380, H⟩ := H
        replace H : ((impl_TurnImage.f t439 t440 t441 t442 (Int.tmod (wrap64 (t445 + 1)) 4)).bind fun bt481 => ((laws_equalImage.f kj4 t475 t476 t477 t478 bt481.1 bt481.2.1 bt481.2.2.1 bt481.2.2.2).bind fun t487 => (some t487))) = some r := H
        have A38 := Aside0.mk A380
        clear A380
        replace H := Option.bind_eq_some_iff.mp H
        obtain ⟨⟨t481, t482, t483, t484⟩, A390, H⟩ := H
        replace H : ((laws_equalImage.f kj4 t475 t476 t477 t478 t481 t482 t483 t484).bind fun t487 => (some t487)) = some r := H
        have A39 := Aside0.mk A390
        clear A390
        replace H := Option.bind_eq_some_iff.mp H
        obtain ⟨t487, A400, H⟩ := H
        replace H : (some t487) = some r := H
        have A40 := Aside0.mk A400
        clear A400
        obtain rfl := Option.some.inj H
        simp only [Option.some.injEq, Prod.mk.injEq] at H
        obtain ⟨rfl⟩ := H
        try go_wp2
        have n0_ := Aside0.mk (Kd.Q_drew HO_447003.out)
        have n1_ := Aside0.mk (Kd.Q_drew HO_454003.out)
        have n2_ := Aside0.mk (blk_drew BK446.out)
        have n3_ := Aside0.mk (blk_drew BK453.out)
        have n4_ := Aside0.mk (below_drew1 HB.out)
        clear HO_447003 HO_454003 BK446 BK453 HB
        have HO_447003 := n0_
        have HO_454003 := n1_
        have BK446 := n2_
        have BK453 := n3_
        have HB := n4_
        clear n0_ n1_ n2_ n3_ n4_
        refine start_ (n := 18) (S := fun w' => w'.cell? ⟨gb453, 0, none⟩ = some (.int .i64 t447) ∧ w'.cell? ⟨gb453, 1, none⟩ = some (.int .i64 t448) ∧ w'.cell? ⟨gb453, 2, none⟩ = some (.int .i64 t449) ∧ w'.cell? ⟨gb453, 3, none⟩ = some (.slice Ao14 t450.length co14) ∧ w'.cell? ⟨gb446, 0, none⟩ = some (.int .i64 t439) ∧ w'.cell? ⟨gb446, 1, none⟩ = some (.int .i64 t440) ∧ w'.cell? ⟨gb446, 2, none⟩ = some (.int .i64 t441) ∧ w'.cell? ⟨gb446, 3, none⟩ = some (.slice Ao9 t442.length co9)) (ds := []) #[false, false, false, false, false, false, false, false, false, false, false, false, false, false, false, false, false, false] (by kernel_rfl) rfl rfl ⟨B.bc BK453 0, B.bc BK453 1, B.bc BK453 2, B.bc BK453 3, B.bc BK446 0, B.bc BK446 1, B.bc BK446 2, B.bc BK446 3⟩ (fun hHeld => ?_); refine with_tabW laws_FnTurnImage.tab7 laws_FnTurnImage.bits7 (fun HT_ HW_ => ?_)
        generalize wc.drew = w41 at HO_447003 HO_454003 BK446 BK453 HB hHeld ⊢
        refine pure_ (i := 1) (N := some 34) (v := ?_) (a' := ?_) #[false, true, false, false, false, false, false, false, false, false, false, false, false, false, false, false, false, false] rfl rfl (any_of HT_.out (by kernel_rfl)) (fun _ _ _ h => h) (Or.inl ⟨by rfl, ?_⟩) ?_ ?_
        rotate_left
        · intro w'
          go_simp
          with_reducible rfl
        rotate_left
        · simp only [Act.put, List.setIfInBounds_toArray, List.set_cons_zero, List.set_cons_succ, i64_w, i32_w]
          rfl
        refine pure_ (i := 2) (N := some 35) (v := ?_) (a' := ?_) #[false, true, true, false, false, false, false, false, false, false, false, false, false, false, false, false, false, false] rfl rfl (any_of HT_.out (by kernel_rfl)) (fun _ _ _ h => h) (Or.inl ⟨by rfl, ?_⟩) ?_ ?_
        rotate_left
        · intro w'
          go_simp
          with_reducible rfl
        rotate_left
        · simp only [Act.put, List.setIfInBounds_toArray, List.set_cons_zero, List.set_cons_succ, i64_w, i32_w]
          rfl
        refine pure_ (i := 3) (N := some 36) (v := ?_) (a' := ?_) #[false, true, true, true, false, false, false, false, false, false, false, false, false, false, false, false, false, false] rfl rfl (any_of HT_.out (by kernel_rfl)) (fun _ _ _ h => h) (Or.inl ⟨by rfl, ?_⟩) ?_ ?_
        rotate_left
        · intro w'
          go_simp
          with_reducible rfl
        rotate_left
        · simp only [Act.put, List.setIfInBounds_toArray, List.set_cons_zero, List.set_cons_succ, i64_w, i32_w]
          rfl
        refine take_ (i := 0) (N := some 33) (v := ?_) (a' := ?_) #[true, true, true, true, false, false, false, false, false, false, false, false, false, false, false, false, false, false] rfl rfl (take_ofW HT_.out HW_.out (by kernel_rfl)) (fun _ _ _ h => h) (Or.inl ⟨by rfl, ?_⟩) hHeld ?_ ?_
        rotate_left
        · rintro w' ⟨s0, s1, s2, s3, s4, s5, s6, s7⟩
          go_simp
          with_reducible rfl
        rotate_left
        · simp only [Act.put, List.setIfInBounds_toArray, List.set_cons_zero, List.set_cons_succ, i64_w, i32_w]
          rfl
        refine take_ (i := 5) (N := some 38) (v := ?_) (a' := ?_) #[true, true, true, true, false, true, false, false, false, false, false, false, false, false, false, false, false, false] rfl rfl (take_ofW HT_.out HW_.out (by kernel_rfl)) (fun _ _ _ h => h) (Or.inl ⟨by rfl, ?_⟩) hHeld ?_ ?_
        rotate_left
        · rintro w' ⟨s0, s1, s2, s3, s4, s5, s6, s7⟩
          go_simp
          with_reducible rfl
        rotate_left
        · simp only [Act.put, List.setIfInBounds_toArray, List.set_cons_zero, List.set_cons_succ, i64_w, i32_w]
          rfl
        refine one_ (i := 4) (N := some 37) #[true, true, true, true, true, true, false, false, false, false, false, false, false, false, false, false, false, false] rfl rfl (one_of HT_.out (by kernel_rfl)) (by decide) (fun K hK => ?_)
        refine goes_ Try.func22 (by kernel_rfl) rfl #[.agg #[.int .i64 t447, .int .i64 t448, .int .i64 t449, .slice Ao14 t450.length co14], .int .i64 (Int.tmod (wrap64 (4 - t445)) 4)] (by rfl) rfl rfl B.am ?_
        with_reducible refine (impl_TurnImage.calls t447 t448 t449 _ _ t450 (Int.tmod (wrap64 (4 - t445)) 4) t468 t469 t470 t471 _ ?side1 ?side2 A35.out).mono ?_
        (case side1 => exact B.kc ((Kd.Q_reads' HO_454003.out).2.2))
        (case side2 => exact (Kd.Q_reads' HO_454003.out).2.1)
        rintro e w42 ⟨v472, rfl, ho0, hb⟩
        refine ⟨_, rfl, ?_⟩
        have n0_ := Aside0.mk (Kd.Q_elder' (B.kq HO_447003) (Kd.R_base ho0) hb)
        have n1_ := Aside0.mk (Kd.Q_elder' (B.kq HO_454003) (Kd.R_base ho0) hb)
        have n2_ := Aside0.mk (Kd.R_lower (Kd.R_new' (Kd.R_new' ho0 (Kd.Q_lt (B.kq HO_447003))) (Kd.Q_lt (B.kq HO_454003))) (below_size (B.bl HB)))
        have n3_ := Aside0.mk (blk_below (B.kb BK446) hb)
        have n4_ := Aside0.mk (blk_below (B.kb BK453) hb)
        have n5_ := Aside0.mk (below_step (B.bl HB) hb)
        clear HO_447003 HO_454003 BK446 BK453 HB
        have HO_447003 := n0_
        have HO_454003 := n1_
        have HO473 := n2_
        have BK446 := n3_
        have BK453 := n4_
        have HB := n5_
        clear n0_ n1_ n2_ n3_ n4_ n5_
        (try clear hb)
        (try clear hb2)
        (try clear hk)
        (try clear hi)
        (try clear ho0)
        obtain ⟨Ao43, co43, eo43⟩ := Kd.R_slice HO473.out
        (first | subst eo43 | (injection eo43 with f1_ f2_ f3_; have f4_ := f1_.symm; have f5_ := f3_.symm; clear f1_ f2_ f3_; subst f4_; subst f5_))
        refine hK.out _ _ ⟨B.bc BK453 0, B.bc BK453 1, B.bc BK453 2, B.bc BK453 3, B.bc BK446 0, B.bc BK446 1, B.bc BK446 2, B.bc BK446 3⟩ (fun hHeld => ?_)
        clear hK K
        refine norm_ (a' := ?_) ?_ ?_
        rotate_left
        · show Act.put _ (some 37) _ = _
          simp only [Act.put, List.setIfInBounds_toArray, List.set_cons_zero, List.set_cons_succ, i64_w, i32_w]
          rfl
        refine one_ (i := 6) (N := some 39) #[true, true, true, true, true, true, true, false, false, false, false, false, false, false, false, false, false, false] rfl rfl (one_of HT_.out (by kernel_rfl)) (by decide) (fun K hK => ?_)
        refine goes_ Try.func20 (by kernel_rfl) rfl #[.agg #[.int .i64 t468, .int .i64 t469, .int .i64 t470, .slice Ao43 t471.length co43], .agg #[.int .i64 t439, .int .i64 t440, .int .i64 t441, .slice Ao9 t442.length co9]] (by rfl) rfl rfl B.am ?_
        with_reducible refine (laws_equalImage.calls kj4 t468 t469 t470 _ _ t471 t439 t440 t441 _ _ t442 true _ ?side1 ?side2 ?side3 ?side4 A36.out).mono ?_
        (case side1 => exact B.kc ((Kd.R_reads' HO473.out).2.2))
        (case side2 => exact (Kd.R_reads' HO473.out).2.1)
        (case side3 => exact B.kc ((Kd.Q_reads' HO_447003.out).2.2))
        (case side4 => exact (Kd.Q_reads' HO_447003.out).2.1)
        rintro e w44 ⟨rfl, hb⟩
        refine ⟨_, rfl, ?_⟩
        have n0_ := Aside0.mk (Kd.Q_below (B.kq HO_447003) hb)
        have n1_ := Aside0.mk (Kd.Q_below (B.kq HO_454003) hb)
        have n2_ := Aside0.mk (Kd.R_below (B.kr HO473) hb)
        have n3_ := Aside0.mk (blk_below (B.kb BK446) hb)
        have n4_ := Aside0.mk (blk_below (B.kb BK453) hb)
        have n5_ := Aside0.mk (below_step (B.bl HB) hb)
        clear HO_447003 HO_454003 HO473 BK446 BK453 HB
        have HO_447003 := n0_
        have HO_454003 := n1_
        have HO473 := n2_
        have BK446 := n3_
        have BK453 := n4_
        have HB := n5_
        clear n0_ n1_ n2_ n3_ n4_ n5_
        (try clear hb)
        (try clear hb2)
        (try clear hk)
        (try clear hi)
        refine hK.out _ _ ⟨B.bc BK453 0, B.bc BK453 1, B.bc BK453 2, B.bc BK453 3, B.bc BK446 0, B.bc BK446 1, B.bc BK446 2, B.bc BK446 3⟩ (fun hHeld => ?_)
        clear hK K
        refine norm_ (a' := ?_) ?_ ?_
        rotate_left
        · show Act.put _ (some 39) _ = _
          simp only [Act.put, List.setIfInBounds_toArray, List.set_cons_zero, List.set_cons_succ, i64_w, i32_w]
          rfl
        refine pure_ (i := 7) (N := some 40) (v := ?_) (a' := ?_) #[true, true, true, true, true, true, true, true, false, false, false, false, false, false, false, false, false, false] rfl rfl (any_of HT_.out (by kernel_rfl)) (fun _ _ _ h => h) (Or.inl ⟨by rfl, ?_⟩) ?_ ?_
        rotate_left
        · intro w'
          go_simp
          with_reducible rfl
        rotate_left
        · simp only [Act.put, List.setIfInBounds_toArray, List.set_cons_zero, List.set_cons_succ, i64_w, i32_w]
          rfl
        refine pure_ (i := 11) (N := some 44) (v := ?_) (a' := ?_) #[true, true, true, true, true, true, true, true, false, false, false, true, false, false, false, false, false, false] rfl rfl (any_of HT_.out (by kernel_rfl)) (fun _ _ _ h => h) (Or.inl ⟨by rfl, ?_⟩) ?_ ?_
        rotate_left
        · intro w'
          go_simp
          with_reducible rfl
        rotate_left
        · simp only [Act.put, List.setIfInBounds_toArray, List.set_cons_zero, List.set_cons_succ, i64_w, i32_w]
          rfl
        refine pure_ (i := 12) (N := some 45) (v := ?_) (a' := ?_) #[true, true, true, true, true, true, true, true, false, false, false, true, true, false, false, false, false, false] rfl rfl (any_of HT_.out (by kernel_rfl)) (fun _ _ _ h => h) (Or.inl ⟨by rfl, ?_⟩) ?_ ?_
        rotate_left
        · intro w'
          go_simp
          with_reducible rfl
        rotate_left
        · simp only [Act.put, List.setIfInBounds_toArray, List.set_cons_zero, List.set_cons_succ, i64_w, i32_w]
          rfl
        refine pure_ (i := 13) (N := some 46) (v := ?_) (a' := ?_) #[true, true, true, true, true, true, true, true, false, false, false, true, true, true, false, false, false, false] rfl rfl (any_of HT_.out (by kernel_rfl)) (fun _ _ _ h => h) (Or.inl ⟨by rfl, ?_⟩) ?_ ?_
        rotate_left
        · intro w'
          go_simp
          with_reducible rfl
        rotate_left
        · simp only [Act.put, List.setIfInBounds_toArray, List.set_cons_zero, List.set_cons_succ, i64_w, i32_w]
          rfl
        refine take_ (i := 8) (N := some 41) (v := ?_) (a' := ?_) #[true, true, true, true, true, true, true, true, true, false, false, true, true, true, false, false, false, false] rfl rfl (take_ofW HT_.out HW_.out (by kernel_rfl)) (fun _ _ _ h => h) (Or.inl ⟨by rfl, ?_⟩) hHeld ?_ ?_
        rotate_left
        · rintro w' ⟨s0, s1, s2, s3, s4, s5, s6, s7⟩
          go_simp
          with_reducible rfl
        rotate_left
        · simp only [Act.put, List.setIfInBounds_toArray, List.set_cons_zero, List.set_cons_succ, i64_w, i32_w]
          rfl
        refine take_ (i := 10) (N := some 43) (v := ?_) (a' := ?_) #[true, true, true, true, true, true, true, true, true, false, true, true, true, true, false, false, false, false] rfl rfl (take_ofW HT_.out HW_.out (by kernel_rfl)) (fun _ _ _ h => h) (Or.inl ⟨by rfl, ?_⟩) hHeld ?_ ?_
        rotate_left
        · rintro w' ⟨s0, s1, s2, s3, s4, s5, s6, s7⟩
          go_simp
          with_reducible rfl
        rotate_left
        · simp only [Act.put, List.setIfInBounds_toArray, List.set_cons_zero, List.set_cons_succ, i64_w, i32_w]
          rfl
        refine one_ (i := 9) (N := some 42) #[true, true, true, true, true, true, true, true, true, true, true, true, true, true, false, false, false, false] rfl rfl (one_of HT_.out (by kernel_rfl)) (by decide) (fun K hK => ?_)
        refine goes_ Try.func22 (by kernel_rfl) rfl #[.agg #[.int .i64 t447, .int .i64 t448, .int .i64 t449, .slice Ao14 t450.length co14], .int .i64 1] (by rfl) rfl rfl B.am ?_
        with_reducible refine (impl_TurnImage.calls t447 t448 t449 _ _ t450 1 t475 t476 t477 t478 _ ?side1 ?side2 A38.out).mono ?_
        (case side1 => exact B.kc ((Kd.Q_reads' HO_454003.out).2.2))
        (case side2 => exact (Kd.Q_reads' HO_454003.out).2.1)
        rintro e w45 ⟨v479, rfl, ho0, hb⟩
        refine ⟨_, rfl, ?_⟩
        have n0_ := Aside0.mk (Kd.Q_elder' (B.kq HO_447003) (Kd.R_base ho0) hb)
        have n1_ := Aside0.mk (Kd.Q_elder' (B.kq HO_454003) (Kd.R_base ho0) hb)
        have n2_ := Aside0.mk (Kd.R_elder' (B.kr HO473) (Kd.R_base ho0) hb)
        have n3_ := Aside0.mk (Kd.R_lower (Kd.R_new' (Kd.R_new' (Kd.R_new' ho0 (Kd.Q_lt (B.kq HO_447003))) (Kd.Q_lt (B.kq HO_454003))) (Kd.R_lt (B.kr HO473))) (below_size (B.bl HB)))
        have n4_ := Aside0.mk (blk_below (B.kb BK446) hb)
        have n5_ := Aside0.mk (blk_below (B.kb BK453) hb)
        have n6_ := Aside0.mk (below_step (B.bl HB) hb)
        clear HO_447003 HO_454003 HO473 BK446 BK453 HB
        have HO_447003 := n0_
        have HO_454003 := n1_
        have HO473 := n2_
        have HO480 := n3_
        have BK446 := n4_
        have BK453 := n5_
        have HB := n6_
        clear n0_ n1_ n2_ n3_ n4_ n5_ n6_
        (try clear hb)
        (try clear hb2)
        (try clear hk)
        (try clear hi)
        (try clear ho0)
        refine hK.out _ _ ⟨B.bc BK453 0, B.bc BK453 1, B.bc BK453 2, B.bc BK453 3, B.bc BK446 0, B.bc BK446 1, B.bc BK446 2, B.bc BK446 3⟩ (fun hHeld => ?_)
        clear hK K
        refine norm_ (a' := ?_) ?_ ?_
        rotate_left
        · show Act.put _ (some 42) _ = _
          simp only [Act.put, List.setIfInBounds_toArray, List.set_cons_zero, List.set_cons_succ, i64_w, i32_w]
          rfl
        refine one_ (i := 14) (N := some 47) #[true, true, true, true, true, true, true, true, true, true, true, true, true, true, true, false, false, false] rfl rfl (one_of HT_.out (by kernel_rfl)) (by decide) (fun K hK => ?_)
        refine goes_ Try.func22 (by kernel_rfl) rfl #[.agg #[.int .i64 t439, .int .i64 t440, .int .i64 t441, .slice Ao9 t442.length co9], .int .i64 (Int.tmod (wrap64 (t445 + 1)) 4)] (by rfl) rfl rfl B.am ?_
        with_reducible refine (impl_TurnImage.calls t439 t440 t441 _ _ t442 (Int.tmod (wrap64 (t445 + 1)) 4) t481 t482 t483 t484 _ ?side1 ?side2 A39.out).mono ?_
        (case side1 => exact B.kc ((Kd.Q_reads' HO_447003.out).2.2))
        (case side2 => exact (Kd.Q_reads' HO_447003.out).2.1)
        rintro e w46 ⟨v485, rfl, ho0, hb⟩
        refine ⟨_, rfl, ?_⟩
        have n0_ := Aside0.mk (Kd.Q_elder' (B.kq HO_447003) (Kd.R_base ho0) hb)
        have n1_ := Aside0.mk (Kd.Q_elder' (B.kq HO_454003) (Kd.R_base ho0) hb)
        have n2_ := Aside0.mk (Kd.R_elder' (B.kr HO473) (Kd.R_base ho0) hb)
        have n3_ := Aside0.mk (Kd.R_elder' (B.kr HO480) (Kd.R_base ho0) hb)
        have n4_ := Aside0.mk (Kd.R_lower (Kd.R_new' (Kd.R_new' (Kd.R_new' (Kd.R_new' ho0 (Kd.Q_lt (B.kq HO_447003))) (Kd.Q_lt (B.kq HO_454003))) (Kd.R_lt (B.kr HO473))) (Kd.R_lt (B.kr HO480))) (below_size (B.bl HB)))
        have n5_ := Aside0.mk (blk_below (B.kb BK446) hb)
        have n6_ := Aside0.mk (blk_below (B.kb BK453) hb)
        have n7_ := Aside0.mk (below_step (B.bl HB) hb)
        clear HO_447003 HO_454003 HO473 HO480 BK446 BK453 HB
        have HO_447003 := n0_
        have HO_454003 := n1_
        have HO473 := n2_
        have HO480 := n3_
        have HO486 := n4_
        have BK446 := n5_
        have BK453 := n6_
        have HB := n7_
        clear n0_ n1_ n2_ n3_ n4_ n5_ n6_ n7_
        (try clear hb)
        (try clear hb2)
        (try clear hk)
        (try clear hi)
        (try clear ho0)
        obtain ⟨Ao47, co47, eo47⟩ := Kd.R_slice HO480.out
        (first | subst eo47 | (injection eo47 with f1_ f2_ f3_; have f4_ := f1_.symm; have f5_ := f3_.symm; clear f1_ f2_ f3_; subst f4_; subst f5_))
        obtain ⟨Ao48, co48, eo48⟩ := Kd.R_slice HO486.out
        (first | subst eo48 | (injection eo48 with f1_ f2_ f3_; have f4_ := f1_.symm; have f5_ := f3_.symm; clear f1_ f2_ f3_; subst f4_; subst f5_))
        refine hK.out _ _ ⟨B.bc BK453 0, B.bc BK453 1, B.bc BK453 2, B.bc BK453 3, B.bc BK446 0, B.bc BK446 1, B.bc BK446 2, B.bc BK446 3⟩ (fun hHeld => ?_)
        clear hK K
        refine norm_ (a' := ?_) ?_ ?_
        rotate_left
        · show Act.put _ (some 47) _ = _
          simp only [Act.put, List.setIfInBounds_toArray, List.set_cons_zero, List.set_cons_succ, i64_w, i32_w]
          rfl
        refine one_ (i := 15) (N := some 48) #[true, true, true, true, true, true, true, true, true, true, true, true, true, true, true, true, false, false] rfl rfl (one_of HT_.out (by kernel_rfl)) (by decide) (fun K hK => ?_)
        refine goes_ Try.func20 (by kernel_rfl) rfl #[.agg #[.int .i64 t475, .int .i64 t476, .int .i64 t477, .slice Ao47 t478.length co47], .agg #[.int .i64 t481, .int .i64 t482, .int .i64 t483, .slice Ao48 t484.length co48]] (by rfl) rfl rfl B.am ?_
        with_reducible refine (laws_equalImage.calls kj4 t475 t476 t477 _ _ t478 t481 t482 t483 _ _ t484 t487 _ ?side1 ?side2 ?side3 ?side4 A40.out).mono ?_
        (case side1 => exact B.kc ((Kd.R_reads' HO480.out).2.2))
        (case side2 => exact (Kd.R_reads' HO480.out).2.1)
        (case side3 => exact B.kc ((Kd.R_reads' HO486.out).2.2))
        (case side4 => exact (Kd.R_reads' HO486.out).2.1)
        rintro e w49 ⟨rfl, hb⟩
        refine ⟨_, rfl, ?_⟩
        have n0_ := Aside0.mk (Kd.Q_below (B.kq HO_447003) hb)
        have n1_ := Aside0.mk (Kd.Q_below (B.kq HO_454003) hb)
        have n2_ := Aside0.mk (Kd.R_below (B.kr HO473) hb)
        have n3_ := Aside0.mk (Kd.R_below (B.kr HO480) hb)
        have n4_ := Aside0.mk (Kd.R_below (B.kr HO486) hb)
        have n5_ := Aside0.mk (blk_below (B.kb BK446) hb)
        have n6_ := Aside0.mk (blk_below (B.kb BK453) hb)
        have n7_ := Aside0.mk (below_step (B.bl HB) hb)
        clear HO_447003 HO_454003 HO473 HO480 HO486 BK446 BK453 HB
        have HO_447003 := n0_
        have HO_454003 := n1_
        have HO473 := n2_
        have HO480 := n3_
        have HO486 := n4_
        have BK446 := n5_
        have BK453 := n6_
        have HB := n7_
        clear n0_ n1_ n2_ n3_ n4_ n5_ n6_ n7_
        (try clear hb)
        (try clear hb2)
        (try clear hk)
        (try clear hi)
        refine hK.out _ _ ⟨B.bc BK453 0, B.bc BK453 1, B.bc BK453 2, B.bc BK453 3, B.bc BK446 0, B.bc BK446 1, B.bc BK446 2, B.bc BK446 3⟩ (fun hHeld => ?_)
        clear hK K
        refine norm_ (a' := ?_) ?_ ?_
        rotate_left
        · show Act.put _ (some 48) _ = _
          simp only [Act.put, List.setIfInBounds_toArray, List.set_cons_zero, List.set_cons_succ, i64_w, i32_w]
          rfl
        refine pure_ (i := 16) (N := some 49) (v := ?_) (a' := ?_) #[true, true, true, true, true, true, true, true, true, true, true, true, true, true, true, true, true, false] rfl rfl (any_of HT_.out (by kernel_rfl)) (fun _ _ _ h => h) (Or.inl ⟨by rfl, ?_⟩) ?_ ?_
        rotate_left
        · intro w'
          go_simp
          with_reducible rfl
        rotate_left
        · simp only [Act.put, List.setIfInBounds_toArray, List.set_cons_zero, List.set_cons_succ, i64_w, i32_w]
          rfl
        refine pure_ (i := 17) (N := some 2) (v := ?_) (a' := ?_) #[true, true, true, true, true, true, true, true, true, true, true, true, true, true, true, true, true, true] rfl rfl (any_of HT_.out (by kernel_rfl)) (fun _ _ _ h => h) (Or.inl ⟨by rfl, ?_⟩) ?_ ?_
        rotate_left
        · intro w'
          go_simp
          with_reducible rfl
        rotate_left
        · simp only [Act.put, List.setIfInBounds_toArray, List.set_cons_zero, List.set_cons_succ, i64_w, i32_w]
          rfl
        refine done_ (done_of HT_.out (by kernel_rfl)) ?_
        try go_wp2
        go_ret
        exact ⟨by first | rfl | (simp [errW_none, errW_some] <;> rfl) | (simp [*, errW_none, errW_some] <;> rfl), B.bl HB⟩
      replace c37 := Bool.eq_false_iff.mpr c37
      subst c37
      have H1 : (some false) = some r := by rw [if_neg (show ¬ (false = true) by decide)] at H; exact H
      clear H
      have H := H1
      clear H1
      obtain rfl := Option.some.inj H
      exact absurd ht_.out (by decide)

/-- THE ONE PURE STATEMENT of laws_FnTurnImage: yours. -/
def laws_FnTurnImage.Pure : Prop := ∀ (l0 : List Int), l0.length ≤ maxLen → l0.length * 1 ≤ 140737488351232 → (∀ x ∈ l0, (Lit.int .u8 x).wf = true) → ∃ k, laws_FnTurnImage.f k l0 = some true
theorem laws_FnTurnImage.walk (P : laws_FnTurnImage.Pure) (a0 : Option Addr) (len0 cap0 : Nat) (z0 : List Int) (w : World) (w0 : (a0 = none ∧ len0 = 0 ∧ cap0 = 0 ∧ z0 = []) ∨ ∃ x, a0 = some x ∧ len0 ≤ cap0 ∧ cap0 ≤ maxLen ∧ z0.length = cap0 ∧ (∀ i, i < z0.length → w.cell? (x.add i) = some (.int .u8 (z0.getD i 0))) ∧ ∀ n ∈ z0, (Lit.int .u8 n).wf = true) (y0 : len0 * 1 ≤ 140737488351232) :
    Calls Try.prog 5 #[.slice a0 len0 cap0] w fun e w' => e = .returned (.bool true) ∧ Below w.heap.size w w' := by
  obtain ⟨l0, rfl, hr0, hm0, hw0, hc0⟩ := ReadsInt.ofRowC w0
  obtain ⟨k, h⟩ := P l0 hm0 y0 hw0
  refine (laws_FnTurnImage.calls k _ _ l0 true w (Kd.C_of_reads (d := (0 : Int)) (h1 := fun _ => rfl) hr0) hc0 h ⟨rfl⟩).mono ?_
  rintro e w' ⟨rfl, hd⟩
  exact ⟨rfl, hd⟩

end Go.Proofs.Ytibbkaoghbmncaa.Q
