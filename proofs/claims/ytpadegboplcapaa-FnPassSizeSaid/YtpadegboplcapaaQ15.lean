-- Written by a program of this session (the kit's printer, with hand-proved contracts for the functions that it does not take).
import Derived.Test.YtpadegboplcapaaQ0
import Derived.Test.YtpadegboplcapaaQ4
import Derived.Test.YtpadegboplcapaaQ9
namespace Go.Proofs.Ytpadegboplcapaa.Q
open Go.RowKit Go.Proofs.YtpadegboplcapaaW.PrintWords Go.Proofs.YtpadegboplcapaaW.PrintLast Go.Proofs.YtpadegboplcapaaW.PrintMore
attribute [local go_sem] max2_int min2_int max_two min_two max_three min_three max_four min_four   -- for this text's walks alone
set_option linter.unusedVariables false
set_option linter.unusedSimpArgs false

/-! ### spec_DrawPassSize: function 12 -/
def spec_DrawPassSize.f (k : Nat) (l0 : List Int) : Option (Int × Int × Int) := (spec_newReader.f l0).bind fun bt178 => ((spec_reader_pick.f k bt178.1 bt178.2 18).bind fun bt181 => ((spec_reader_pick.f k bt178.1 bt181.2 18).bind fun bt183 => ((spec_reader_pick.f k bt178.1 bt183.2 9).bind fun bt185 => (some (bt181.1, bt183.1, wrap64 (bt185.1 - 1))))))
theorem spec_DrawPassSize.mono : ∀ a0 k, LeO (spec_DrawPassSize.f k a0) (spec_DrawPassSize.f (k + 1) a0) := by
  intro a0 k
  unfold spec_DrawPassSize.f
  repeat' first
      | (with_reducible exact spec_reader_pick.mono _ _ _ _)
      | (with_reducible exact LeO.refl _)
      | (with_reducible exact LeO.none _)
      | (with_reducible refine LeO.ite ?_ ?_)
      | (with_reducible refine LeO.bind ?_ (fun _ => ?_))
      | exact spec_reader_pick.mono _ _ _ _
      | exact LeO.none _
      | refine LeO.ite ?_ ?_
      | refine LeO.bind ?_ (fun _ => ?_)
set_option maxHeartbeats 8000000 in
set_option maxRecDepth 100000 in
theorem spec_DrawPassSize.calls (k : Nat) (A0 : Option Addr) (c0 : Nat) (l0 : List Int) (r1 : Int) (r2 : Int) (r3 : Int) (w : World) (hr0 : Kd.C (Kd.int .u8) w A0 l0.length l0) (hc0 : l0.length ≤ c0) (h : spec_DrawPassSize.f k l0 = some (r1, r2, r3)) :
    Calls Try.prog 12 #[.slice A0 l0.length c0] w fun e w' => e = .returned (.tuple #[.int .i64 r1, .int .i64 r2, .int .i64 r3]) ∧ Below w.heap.size w w' := by
  have HR0 := Aside0.mk hr0
  have HC0 := Aside0.mk hc0
  clear hr0 hc0
  have HB := Aside0.mk (Below.refl w.heap.size w)
  have H : ((spec_newReader.f l0).bind fun bt178 => ((spec_reader_pick.f k bt178.1 bt178.2 18).bind fun bt181 => ((spec_reader_pick.f k bt178.1 bt181.2 18).bind fun bt183 => ((spec_reader_pick.f k bt178.1 bt183.2 9).bind fun bt185 => (some (bt181.1, bt183.1, wrap64 (bt185.1 - 1))))))) = some (r1, r2, r3) := h
  clear h
  replace H := Option.bind_eq_some_iff.mp H
  obtain ⟨⟨t178, t179⟩, A20, H⟩ := H
  replace H : ((spec_reader_pick.f k t178 t179 18).bind fun bt181 => ((spec_reader_pick.f k t178 bt181.2 18).bind fun bt183 => ((spec_reader_pick.f k t178 bt183.2 9).bind fun bt185 => (some (bt181.1, bt183.1, wrap64 (bt185.1 - 1)))))) = some (r1, r2, r3) := H
  have A2 := Aside0.mk A20
  clear A20
  replace H := Option.bind_eq_some_iff.mp H
  obtain ⟨⟨t181, t182⟩, A30, H⟩ := H
  replace H : ((spec_reader_pick.f k t178 t182 18).bind fun bt183 => ((spec_reader_pick.f k t178 bt183.2 9).bind fun bt185 => (some (t181, bt183.1, wrap64 (bt185.1 - 1))))) = some (r1, r2, r3) := H
  have A3 := Aside0.mk A30
  clear A30
  replace H := Option.bind_eq_some_iff.mp H
  obtain ⟨⟨t183, t184⟩, A40, H⟩ := H
  replace H : ((spec_reader_pick.f k t178 t184 9).bind fun bt185 => (some (t181, t183, wrap64 (bt185.1 - 1)))) = some (r1, r2, r3) := H
  have A4 := Aside0.mk A40
  clear A40
  replace H := Option.bind_eq_some_iff.mp H
  obtain ⟨⟨t185, t186⟩, A50, H⟩ := H
  replace H : (some (t181, t183, wrap64 (t185 - 1))) = some (r1, r2, r3) := H
  have A5 := Aside0.mk A50
  clear A50
  simp only [Option.some.injEq, Prod.mk.injEq] at H
  obtain ⟨rfl, rfl, rfl⟩ := H
  go_enter Try.func12, Try.ntmps12
  go_wp2_with (first | ((with_reducible refine gate_callee (f := 42) rfl ?_); refine goesL_ (some 9) rfl rfl Try.func42 (by kernel_rfl) rfl #[.slice A0 l0.length c0] rfl B.am ?_; (with_reducible refine (spec_newReader.calls _ _ l0 t178 t179 w _ ?side1 ?side2 ?side3 A2.out).mono ?_); (case side1 => exact B.bl HB); (case side2 => exact HR0.out); (case side3 => exact HC0.out); rintro e w6 ⟨g180, rfl, hi, hb, hb2⟩; refine ⟨_, rfl, ?_⟩; have n0_ := Aside0.mk (hb); have n1_ := Aside0.mk (hi); clear HB; have HB := n0_; have HI180 := n1_; clear n0_ n1_; (try clear hb); (try clear hb2); (try clear hk); (try clear hi)) | ((with_reducible refine gate_callee (f := 43) rfl ?_); refine goesL_ (some 11) rfl rfl Try.func43 (by kernel_rfl) rfl #[.pointer (some ⟨g180, 0, none⟩), .int .i64 18] rfl B.am ?_; (with_reducible refine (spec_reader_pick.calls k g180 t178 t179 18 t181 t182 w _ ?side1 ?side2 A3.out).mono ?_); (case side1 => exact B.st HI180); (case side2 => exact B.bs HB); rintro e w7 ⟨rfl, hi, hb, hk⟩; refine ⟨_, rfl, ?_⟩; have n0_ := Aside0.mk (hb); have n1_ := Aside0.mk (hi); clear HB HI180; have HB := n0_; have HI180 := n1_; clear n0_ n1_; (try clear hb); (try clear hb2); (try clear hk); (try clear hi)) | ((with_reducible refine gate_callee (f := 43) rfl ?_); refine goesL_ (some 13) rfl rfl Try.func43 (by kernel_rfl) rfl #[.pointer (some ⟨g180, 0, none⟩), .int .i64 18] rfl B.am ?_; (with_reducible refine (spec_reader_pick.calls k g180 t178 t182 18 t183 t184 w _ ?side1 ?side2 A4.out).mono ?_); (case side1 => exact B.st HI180); (case side2 => exact B.bs HB); rintro e w8 ⟨rfl, hi, hb, hk⟩; refine ⟨_, rfl, ?_⟩; have n0_ := Aside0.mk (hb); have n1_ := Aside0.mk (hi); clear HB HI180; have HB := n0_; have HI180 := n1_; clear n0_ n1_; (try clear hb); (try clear hb2); (try clear hk); (try clear hi)) | ((with_reducible refine gate_callee (f := 43) rfl ?_); refine goesL_ (some 17) rfl rfl Try.func43 (by kernel_rfl) rfl #[.pointer (some ⟨g180, 0, none⟩), .int .i64 9] rfl B.am ?_; (with_reducible refine (spec_reader_pick.calls k g180 t178 t184 9 t185 t186 w _ ?side1 ?side2 A5.out).mono ?_); (case side1 => exact B.st HI180); (case side2 => exact B.bs HB); rintro e w9 ⟨rfl, hi, hb, hk⟩; refine ⟨_, rfl, ?_⟩; have n0_ := Aside0.mk (hb); have n1_ := Aside0.mk (hi); clear HB HI180; have HB := n0_; have HI180 := n1_; clear n0_ n1_; (try clear hb); (try clear hb2); (try clear hk); (try clear hi)))
  go_ret3
  exact ⟨by first | rfl | (simp [errW_none, errW_some] <;> rfl) | (simp [*, errW_none, errW_some] <;> rfl), B.bs HB⟩

/-! ### laws_FnPassSize: function 4 -/
mutual
def laws_FnPassSize.j0 : Nat → Int → Int → Int → Int → Int → Int → Bool → Option (Bool)
  | 0, _, _, _, _, _, _, _ => none
  | k + 1, x3, x4, x6, x7, x8, x9, x48 => if x48 = true then (if x6 = x8 then (some (x7 == x9)) else (some false)) else (laws_FnPassSize.l0 k x3 x4 0 0)
def laws_FnPassSize.l0 : Nat → Int → Int → Int → Int → Option (Bool)
  | 0, _, _, _, _ => none
  | k + 1, x3, x4, x10, x11 => if x11 < 7 then ((impl_PassSize.f k x3 x4 x11).bind fun bt194 => (laws_FnPassSize.l0 k x3 x4 (wrap64 (x10 + (wrap64 (bt194.1 * bt194.2)))) (wrap64 (x11 + 1)))) else (some (x10 == (wrap64 (x3 * x4))))
end
def laws_FnPassSize.f (k : Nat) (l0 : List Int) : Option (Bool) := if (l0.length : Int) > 1048576 then (some true) else ((spec_DrawPassSize.f k l0).bind fun bt187 => ((impl_PassSize.f k bt187.1 bt187.2.1 bt187.2.2).bind fun bt190 => ((spec_PassSize.f bt187.1 bt187.2.1 bt187.2.2).bind fun bt192 => (if bt190.1 = bt192.1 then (if bt190.2 = bt192.2 then (laws_FnPassSize.j0 k bt187.1 bt187.2.1 bt190.1 bt190.2 bt192.1 bt192.2 (decide (bt190.1 < 0))) else (laws_FnPassSize.j0 k bt187.1 bt187.2.1 bt190.1 bt190.2 bt192.1 bt192.2 true)) else (laws_FnPassSize.j0 k bt187.1 bt187.2.1 bt190.1 bt190.2 bt192.1 bt192.2 true)))))
theorem laws_FnPassSize.mono_l : ∀ k, (∀ y0 y1 y2 y3 y4 y5 y6, LeO (laws_FnPassSize.j0 k y0 y1 y2 y3 y4 y5 y6) (laws_FnPassSize.j0 (k + 1) y0 y1 y2 y3 y4 y5 y6)) ∧ (∀ y0 y1 y2 y3, LeO (laws_FnPassSize.l0 k y0 y1 y2 y3) (laws_FnPassSize.l0 (k + 1) y0 y1 y2 y3))
  | 0 => ⟨fun _ _ _ _ _ _ _ r h => by simp [laws_FnPassSize.j0] at h, fun _ _ _ _ r h => by simp [laws_FnPassSize.l0] at h⟩
  | k + 1 => by
    obtain ⟨ih0, ih1⟩ := laws_FnPassSize.mono_l k
    refine ⟨?_, ?_⟩
    · intro y0 y1 y2 y3 y4 y5 y6
      unfold laws_FnPassSize.j0
      repeat' first
      | (with_reducible exact ih0 _ _ _ _ _ _ _)
      | (with_reducible exact ih1 _ _ _ _)
      | (with_reducible exact impl_PassSize.mono _ _ _ _)
      | (with_reducible exact spec_DrawPassSize.mono _ _)
      | (with_reducible exact LeO.refl _)
      | (with_reducible exact LeO.none _)
      | (with_reducible refine LeO.ite ?_ ?_)
      | (with_reducible refine LeO.bind ?_ (fun _ => ?_))
      | exact ih0 _ _ _ _ _ _ _
      | exact ih1 _ _ _ _
      | exact impl_PassSize.mono _ _ _ _
      | exact spec_DrawPassSize.mono _ _
      | exact LeO.none _
      | refine LeO.ite ?_ ?_
      | refine LeO.bind ?_ (fun _ => ?_)
    intro y0 y1 y2 y3
    unfold laws_FnPassSize.l0
    repeat' first
    | (with_reducible exact ih0 _ _ _ _ _ _ _)
    | (with_reducible exact ih1 _ _ _ _)
    | (with_reducible exact impl_PassSize.mono _ _ _ _)
    | (with_reducible exact spec_DrawPassSize.mono _ _)
    | (with_reducible exact LeO.refl _)
    | (with_reducible exact LeO.none _)
    | (with_reducible refine LeO.ite ?_ ?_)
    | (with_reducible refine LeO.bind ?_ (fun _ => ?_))
    | exact ih0 _ _ _ _ _ _ _
    | exact ih1 _ _ _ _
    | exact impl_PassSize.mono _ _ _ _
    | exact spec_DrawPassSize.mono _ _
    | exact LeO.none _
    | refine LeO.ite ?_ ?_
    | refine LeO.bind ?_ (fun _ => ?_)
theorem laws_FnPassSize.mono : ∀ a0 k, LeO (laws_FnPassSize.f k a0) (laws_FnPassSize.f (k + 1) a0) := by
  intro a0 k
  obtain ⟨ih0, ih1⟩ := laws_FnPassSize.mono_l k
  unfold laws_FnPassSize.f
  repeat' first
      | (with_reducible exact ih0 _ _ _ _ _ _ _)
      | (with_reducible exact ih1 _ _ _ _)
      | (with_reducible exact impl_PassSize.mono _ _ _ _)
      | (with_reducible exact spec_DrawPassSize.mono _ _)
      | (with_reducible exact LeO.refl _)
      | (with_reducible exact LeO.none _)
      | (with_reducible refine LeO.ite ?_ ?_)
      | (with_reducible refine LeO.bind ?_ (fun _ => ?_))
      | exact ih0 _ _ _ _ _ _ _
      | exact ih1 _ _ _ _
      | exact impl_PassSize.mono _ _ _ _
      | exact spec_DrawPassSize.mono _ _
      | exact LeO.none _
      | refine LeO.ite ?_ ?_
      | refine LeO.bind ?_ (fun _ => ?_)
set_option maxHeartbeats 8000000 in
set_option maxRecDepth 100000 in
theorem laws_FnPassSize.calls (k : Nat) (A0 : Option Addr) (c0 : Nat) (l0 : List Int) (r : Bool) (w : World) (hr0 : Kd.C (Kd.int .u8) w A0 l0.length l0) (hc0 : l0.length ≤ c0) (h : laws_FnPassSize.f k l0 = some r) (ht_ : Aside0 (r = true)) :
    Calls Try.prog 4 #[.slice A0 l0.length c0] w fun e w' => e = .returned (.bool r) ∧ Below w.heap.size w w' := by
  have HR0 := Aside0.mk hr0
  have HC0 := Aside0.mk hc0
  clear hr0 hc0
  have HB := Aside0.mk (Below.refl w.heap.size w)
  have H : (if (l0.length : Int) > 1048576 then (some true) else ((spec_DrawPassSize.f k l0).bind fun bt187 => ((impl_PassSize.f k bt187.1 bt187.2.1 bt187.2.2).bind fun bt190 => ((spec_PassSize.f bt187.1 bt187.2.1 bt187.2.2).bind fun bt192 => (if bt190.1 = bt192.1 then (if bt190.2 = bt192.2 then (laws_FnPassSize.j0 k bt187.1 bt187.2.1 bt190.1 bt190.2 bt192.1 bt192.2 (decide (bt190.1 < 0))) else (laws_FnPassSize.j0 k bt187.1 bt187.2.1 bt190.1 bt190.2 bt192.1 bt192.2 true)) else (laws_FnPassSize.j0 k bt187.1 bt187.2.1 bt190.1 bt190.2 bt192.1 bt192.2 true)))))) = some r := h
  clear h
  by_cases c2 : (l0.length : Int) > 1048576
  · rw [if_pos c2] at H
    have c2b0 : decide (1048576 < (l0.length : Int)) = true := decide_eq_true c2
    have c2b1 : decide (1048576 < l0.length) = true := decide_eq_true (by omega)
    clear c2
    obtain rfl := Option.some.inj H
    simp only [Option.some.injEq, Prod.mk.injEq] at H
    obtain ⟨rfl⟩ := H
    go_enter Try.func4, Try.ntmps4
    go_wp2
    go_ret
    exact ⟨by first | rfl | (simp [errW_none, errW_some] <;> rfl) | (simp [*, errW_none, errW_some] <;> rfl), B.bl HB⟩
  rw [if_neg c2] at H
  have c2b0 : decide (1048576 < (l0.length : Int)) = false := decide_eq_false c2
  have c2b1 : decide (1048576 < l0.length) = false := decide_eq_false (by omega)
  clear c2
  replace H := Option.bind_eq_some_iff.mp H
  obtain ⟨⟨t187, t188, t189⟩, A30, H⟩ := H
  replace H : ((impl_PassSize.f k t187 t188 t189).bind fun bt190 => ((spec_PassSize.f t187 t188 t189).bind fun bt192 => (if bt190.1 = bt192.1 then (if bt190.2 = bt192.2 then (laws_FnPassSize.j0 k t187 t188 bt190.1 bt190.2 bt192.1 bt192.2 (decide (bt190.1 < 0))) else (laws_FnPassSize.j0 k t187 t188 bt190.1 bt190.2 bt192.1 bt192.2 true)) else (laws_FnPassSize.j0 k t187 t188 bt190.1 bt190.2 bt192.1 bt192.2 true)))) = some r := H
  have A3 := Aside0.mk A30
  clear A30
  replace H := Option.bind_eq_some_iff.mp H
  obtain ⟨⟨t190, t191⟩, A40, H⟩ := H
  replace H : ((spec_PassSize.f t187 t188 t189).bind fun bt192 => (if t190 = bt192.1 then (if t191 = bt192.2 then (laws_FnPassSize.j0 k t187 t188 t190 t191 bt192.1 bt192.2 (decide (t190 < 0))) else (laws_FnPassSize.j0 k t187 t188 t190 t191 bt192.1 bt192.2 true)) else (laws_FnPassSize.j0 k t187 t188 t190 t191 bt192.1 bt192.2 true))) = some r := H
  have A4 := Aside0.mk A40
  clear A40
  replace H := Option.bind_eq_some_iff.mp H
  obtain ⟨⟨t192, t193⟩, A50, H⟩ := H
  replace H : (if t190 = t192 then (if t191 = t193 then (laws_FnPassSize.j0 k t187 t188 t190 t191 t192 t193 (decide (t190 < 0))) else (laws_FnPassSize.j0 k t187 t188 t190 t191 t192 t193 true)) else (laws_FnPassSize.j0 k t187 t188 t190 t191 t192 t193 true)) = some r := H
  have A5 := Aside0.mk A50
  clear A50
  have HC6 := Aside0.mk H
  clear H
  go_enter Try.func4, Try.ntmps4
  go_upto_region 6 with (first | ((with_reducible refine gate_callee (f := 12) rfl ?_); refine goesL_ (some 19) rfl rfl Try.func12 (by kernel_rfl) rfl #[.slice A0 l0.length c0] rfl B.am ?_; (with_reducible refine (spec_DrawPassSize.calls k _ _ l0 t187 t188 t189 _ ?side1 ?side2 A3.out).mono ?_); (case side1 => exact B.kc (HR0.out)); (case side2 => exact HC0.out); rintro e w7 ⟨rfl, hb⟩; refine ⟨_, rfl, ?_⟩; have n0_ := Aside0.mk (below_step (B.bl HB) hb); clear HB; have HB := n0_; clear n0_; (try clear hb); (try clear hb2); (try clear hk); (try clear hi)) | ((with_reducible refine gate_callee (f := 11) rfl ?_); refine goesL_ (some 27) rfl rfl Try.func11 (by kernel_rfl) rfl #[.int .i64 t187, .int .i64 t188, .int .i64 t189] rfl B.am ?_; (with_reducible refine (impl_PassSize.calls k t187 t188 t189 t190 t191 _ A4.out).mono ?_); rintro e w8 ⟨rfl, hb⟩; refine ⟨_, rfl, ?_⟩; have n0_ := Aside0.mk (below_step (B.bl HB) hb); clear HB; have HB := n0_; clear n0_; (try clear hb); (try clear hb2); (try clear hk); (try clear hi)) | ((with_reducible refine gate_callee (f := 10) rfl ?_); refine goesL_ (some 34) rfl rfl Try.func10 (by kernel_rfl) rfl #[.int .i64 t187, .int .i64 t188, .int .i64 t189] rfl B.am ?_; (with_reducible refine (spec_PassSize.calls t187 t188 t189 t192 t193 _ A5.out).mono ?_); rintro e w9 ⟨rfl, hb⟩; refine ⟨_, rfl, ?_⟩; have n0_ := Aside0.mk (below_step (B.bl HB) hb); clear HB; have HB := n0_; clear n0_; (try clear hb); (try clear hb2); (try clear hk); (try clear hi)))
  (try simp only [Act.put, List.setIfInBounds_toArray, List.set_cons_zero, List.set_cons_succ])
  go_cut [48] (fun v48 wc => ∃ (kq : Nat) (x48_5 : Bool), v48 = .bool x48_5 ∧ Aside0 (laws_FnPassSize.j0 kq t187 t188 t190 t191 t192 t193 x48_5 = some r) ∧ Aside0 (kq ≤ k) ∧ Aside0 (Below w.heap.size w wc))
  case first =>
    have H := HC6.out
    clear HC6
    by_cases c10 : t190 = t192
    · rw [if_pos c10] at H
      have c10b0 : (t190 == t192) = true := beq_iff_eq.mpr c10
      have c10b1 : (t190 != t192) = false := bne_eq_false_iff_eq.mpr c10
      clear c10
      (first | rw [c10b0] | (simp only [i64_w, i32_w]; rw [c10b0]) | skip)
      by_cases c11 : t191 = t193
      · rw [if_pos c11] at H
        have c11b0 : (t191 == t193) = true := beq_iff_eq.mpr c11
        have c11b1 : (t191 != t193) = false := bne_eq_false_iff_eq.mpr c11
        clear c11
        have H' := Aside0.mk H
        clear H
        go_wp2
        go_meet
        case rel => exact ⟨_, (decide (t190 < 0)), (by first | rfl | (simp; done) | (simp [*]; done)), H', ⟨by first | omega | exact Nat.le_refl _⟩, ⟨B.bl HB⟩⟩
      rw [if_neg c11] at H
      have c11b0 : (t191 == t193) = false := beq_eq_false_iff_ne.mpr c11
      have c11b1 : (t191 != t193) = true := bne_iff_ne.mpr c11
      have H' := Aside0.mk H
      clear H
      go_wp2
      go_meet
      case rel => exact ⟨_, (true), (by first | rfl | (simp; done) | (simp [*]; done)), H', ⟨by first | omega | exact Nat.le_refl _⟩, ⟨B.bl HB⟩⟩
    rw [if_neg c10] at H
    have c10b0 : (t190 == t192) = false := beq_eq_false_iff_ne.mpr c10
    have c10b1 : (t190 != t192) = true := bne_iff_ne.mpr c10
    (first | rw [c10b0] | (simp only [i64_w, i32_w]; rw [c10b0]) | skip)
    have H' := Aside0.mk H
    clear H
    go_wp2
    go_meet
    case rel => exact ⟨_, (true), (by first | rfl | (simp; done) | (simp [*]; done)), H', ⟨by first | omega | exact Nat.le_refl _⟩, ⟨B.bl HB⟩⟩
  case rest =>
    clear HC6
    try clear c1
    try clear c2
    try clear c2b0
    try clear c2b1
    try clear p2
    try clear c4
    try clear c10
    try clear c10b0
    try clear c10b1
    try clear c11
    try clear c11b0
    try clear c11b1
    obtain ⟨kq, x48_5, rfl, HA, HJ5, HB⟩ := hcut
    cases kq with
    | zero => exact absurd HA.out (by simp [laws_FnPassSize.j0])
    | succ kj5 =>
      have H := HA.out
      clear HA
      simp only [laws_FnPassSize.j0] at H
      by_cases c12 : x48_5 = true
      · subst c12
        have H1 : (if t190 = t192 then (some (t191 == t193)) else (some false)) = some r := by rw [if_pos rfl] at H; exact H
        clear H
        have H := H1
        clear H1
        by_cases c13 : t190 = t192
        · rw [if_pos c13] at H
          have c13b0 : (t190 == t192) = true := beq_iff_eq.mpr c13
          have c13b1 : (t190 != t192) = false := bne_eq_false_iff_eq.mpr c13
          clear c13
          obtain rfl := Option.some.inj H
          simp only [Option.some.injEq, Prod.mk.injEq] at H
          obtain ⟨rfl⟩ := H
          go_wp2
          go_ret
          exact ⟨by first | rfl | (simp [errW_none, errW_some] <;> rfl) | (simp [*, errW_none, errW_some] <;> rfl), B.bl HB⟩
        rw [if_neg c13] at H
        have c13b0 : (t190 == t192) = false := beq_eq_false_iff_ne.mpr c13
        have c13b1 : (t190 != t192) = true := bne_iff_ne.mpr c13
        obtain rfl := Option.some.inj H
        exact absurd ht_.out (by decide)
      replace c12 := Bool.eq_false_iff.mpr c12
      subst c12
      have H1 : (laws_FnPassSize.l0 kj5 t187 t188 0 0) = some r := by rw [if_neg (show ¬ (false = true) by decide)] at H; exact H
      clear H
      have H := H1
      clear H1
      have H' := Aside0.mk H
      clear H
      go_wp2
      go_loopg [10, 11] kj5 (fun kq v10 v11 w' => ∃ (x10_2 : Int) (x11_2 : Int), v10 = .int .i64 x10_2 ∧ v11 = .int .i64 x11_2 ∧ Aside0 (laws_FnPassSize.l0 kq t187 t188 x10_2 x11_2 = some r) ∧ Aside0 (kq ≤ kj5) ∧ Aside0 (Below w.heap.size w w'))
      case atStart => exact ⟨(0), (0), (by first | rfl | (simp; done) | (simp [*]; done)), (by first | rfl | (simp; done) | (simp [*]; done)), H', ⟨Nat.le_refl _⟩, ⟨B.bl HB⟩⟩
      case round =>
        clear H'
        try clear c1
        try clear c2
        try clear c2b0
        try clear c2b1
        try clear p2
        try clear c4
        try clear c10
        try clear c10b0
        try clear c10b1
        try clear c11
        try clear c11b0
        try clear c11b1
        try clear c12
        try clear c13
        try clear c13b0
        try clear c13b1
        try clear p2
        obtain ⟨x10_2, x11_2, rfl, rfl, HA, HK2, HB⟩ := hrel
        cases gk with
        | zero => exact absurd HA.out (by simp [laws_FnPassSize.l0])
        | succ k2 =>
          have H := HA.out
          clear HA
          simp only [laws_FnPassSize.l0] at H
          by_cases c14 : x11_2 < 7
          · rw [if_pos c14] at H
            have c14b0 : decide (x11_2 < 7) = true := decide_eq_true c14
            clear c14
            replace H := Option.bind_eq_some_iff.mp H
            obtain ⟨⟨t194, t195⟩, A150, H⟩ := H
            replace H : (laws_FnPassSize.l0 k2 t187 t188 (wrap64 (x10_2 + (wrap64 (t194 * t195)))) (wrap64 (x11_2 + 1))) = some r := H
            have A15 := Aside0.mk A150
            clear A150
            have H' := Aside0.mk H
            clear H
            go_wp2_with (first | ((with_reducible refine gate_callee (f := 11) rfl ?_); refine goesL_ (some 65) rfl rfl Try.func11 (by kernel_rfl) rfl #[.int .i64 t187, .int .i64 t188, .int .i64 x11_2] rfl B.am ?_; (with_reducible refine (impl_PassSize.calls k2 t187 t188 x11_2 t194 t195 _ A15.out).mono ?_); rintro e w16 ⟨rfl, hb⟩; refine ⟨_, rfl, ?_⟩; have n0_ := Aside0.mk (below_step (B.bl HB) hb); clear HB; have HB := n0_; clear n0_; (try clear hb); (try clear hb2); (try clear hk); (try clear hi)))
            go_roundg k2
            case measure => have := HJ5.out; have := HK2.out; omega
            case rel => exact ⟨(wrap64 (x10_2 + (wrap64 (t194 * t195)))), (wrap64 (x11_2 + 1)), (by first | rfl | (simp; done) | (simp [*]; done)), (by first | rfl | (simp; done) | (simp [*]; done)), H', ⟨by have := HJ5.out; have := HK2.out; omega⟩, ⟨B.bl HB⟩⟩
          rw [if_neg c14] at H
          have c14b0 : decide (x11_2 < 7) = false := decide_eq_false c14
          clear c14
          obtain rfl := Option.some.inj H
          simp only [Option.some.injEq, Prod.mk.injEq] at H
          obtain ⟨rfl⟩ := H
          go_wp2
          go_ret
          exact ⟨by first | rfl | (simp [errW_none, errW_some] <;> rfl) | (simp [*, errW_none, errW_some] <;> rfl), B.bl HB⟩

/-- THE ONE PURE STATEMENT of laws_FnPassSize: yours. -/
def laws_FnPassSize.Pure : Prop := ∀ (l0 : List Int), l0.length ≤ maxLen → l0.length * 1 ≤ 140737488351232 → (∀ x ∈ l0, (Lit.int .u8 x).wf = true) → ∃ k, laws_FnPassSize.f k l0 = some true
theorem laws_FnPassSize.walk (P : laws_FnPassSize.Pure) (a0 : Option Addr) (len0 cap0 : Nat) (z0 : List Int) (w : World) (w0 : (a0 = none ∧ len0 = 0 ∧ cap0 = 0 ∧ z0 = []) ∨ ∃ x, a0 = some x ∧ len0 ≤ cap0 ∧ cap0 ≤ maxLen ∧ z0.length = cap0 ∧ (∀ i, i < z0.length → w.cell? (x.add i) = some (.int .u8 (z0.getD i 0))) ∧ ∀ n ∈ z0, (Lit.int .u8 n).wf = true) (y0 : len0 * 1 ≤ 140737488351232) :
    Calls Try.prog 4 #[.slice a0 len0 cap0] w fun e w' => e = .returned (.bool true) ∧ Below w.heap.size w w' := by
  obtain ⟨l0, rfl, hr0, hm0, hw0, hc0⟩ := ReadsInt.ofRowC w0
  obtain ⟨k, h⟩ := P l0 hm0 y0 hw0
  refine (laws_FnPassSize.calls k _ _ l0 true w (Kd.C_of_reads (d := (0 : Int)) (h1 := fun _ => rfl) hr0) hc0 h ⟨rfl⟩).mono ?_
  rintro e w' ⟨rfl, hd⟩
  exact ⟨rfl, hd⟩

end Go.Proofs.Ytpadegboplcapaa.Q
