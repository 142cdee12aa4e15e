-- Written by a program of this session (the kit's printer, with hand-proved contracts for the functions that it does not take).
import Derived.Test.YtckndapolgajfaaQ0
import Derived.Test.YtckndapolgajfaaQ11
import Derived.Test.YtckndapolgajfaaQ14
import Derived.Test.YtckndapolgajfaaQ17
namespace Go.Proofs.Ytckndapolgajfaa.Q
open Go.RowKit Go.Proofs.YtckndapolgajfaaW.PrintWords Go.Proofs.YtckndapolgajfaaW.PrintLast Go.Proofs.YtckndapolgajfaaW.PrintMore
attribute [local go_sem] max2_int min2_int max_two min_two max_three min_three max_four min_four   -- for this text's walks alone
set_option linter.unusedVariables false
set_option linter.unusedSimpArgs false

/-! ### laws_FnLongestMatchBest: function 10 -/
mutual
def laws_FnLongestMatchBest.j0 : Nat → List Int → Int → Int → Int → Int → Int → Bool → Option (Bool)
  | 0, _, _, _, _, _, _, _ => none
  | k + 1, x3, x4, x5, x6, x7, x8, x42 => if x42 = true then (if x5 = x7 then (some (x6 == x8)) else (some false)) else (laws_FnLongestMatchBest.l0 k x3 x4 x5 x6 1)
def laws_FnLongestMatchBest.l0 : Nat → List Int → Int → Int → Int → Int → Option (Bool)
  | 0, _, _, _, _, _ => none
  | k + 1, x3, x4, x5, x6, x9 => if x9 ≤ x4 then (laws_FnLongestMatchBest.j2 k x3 x4 x5 x6 x9 (decide (x9 ≤ 64))) else (laws_FnLongestMatchBest.j2 k x3 x4 x5 x6 x9 false)
def laws_FnLongestMatchBest.j2 : Nat → List Int → Int → Int → Int → Int → Bool → Option (Bool)
  | 0, _, _, _, _, _, _ => none
  | k + 1, x3, x4, x5, x6, x9, x57 => if x57 = true then (laws_FnLongestMatchBest.l1 k x3 x4 x5 x6 x9 0) else (some true)
def laws_FnLongestMatchBest.l1 : Nat → List Int → Int → Int → Int → Int → Int → Option (Bool)
  | 0, _, _, _, _, _, _ => none
  | k + 1, x3, x4, x5, x6, x9, x10 => if x10 < 18 then (if (wrap64 (x4 + x10)) < (x3.length : Int) then (if 0 ≤ (wrap64 (x4 + x10)) then (if 0 ≤ (wrap64 ((wrap64 (x4 + x10)) - x9)) then (if (wrap64 ((wrap64 (x4 + x10)) - x9)) < (x3.length : Int) then (if (rd x3 (wrap64 (x4 + x10))) = (rd x3 (wrap64 ((wrap64 (x4 + x10)) - x9))) then (laws_FnLongestMatchBest.l1 k x3 x4 x5 x6 x9 (wrap64 (x10 + 1))) else (if x10 ≥ 3 then (if x10 > x5 then (some false) else (if x10 = x5 then (if x9 < x6 then (some false) else (laws_FnLongestMatchBest.l0 k x3 x4 x5 x6 (wrap64 (x9 + 1)))) else (laws_FnLongestMatchBest.l0 k x3 x4 x5 x6 (wrap64 (x9 + 1))))) else (laws_FnLongestMatchBest.l0 k x3 x4 x5 x6 (wrap64 (x9 + 1))))) else (none)) else (none)) else (none)) else (if x10 ≥ 3 then (if x10 > x5 then (some false) else (if x10 = x5 then (if x9 < x6 then (some false) else (laws_FnLongestMatchBest.l0 k x3 x4 x5 x6 (wrap64 (x9 + 1)))) else (laws_FnLongestMatchBest.l0 k x3 x4 x5 x6 (wrap64 (x9 + 1))))) else (laws_FnLongestMatchBest.l0 k x3 x4 x5 x6 (wrap64 (x9 + 1))))) else (if x10 ≥ 3 then (if x10 > x5 then (some false) else (if x10 = x5 then (if x9 < x6 then (some false) else (laws_FnLongestMatchBest.l0 k x3 x4 x5 x6 (wrap64 (x9 + 1)))) else (laws_FnLongestMatchBest.l0 k x3 x4 x5 x6 (wrap64 (x9 + 1))))) else (laws_FnLongestMatchBest.l0 k x3 x4 x5 x6 (wrap64 (x9 + 1))))
end
def laws_FnLongestMatchBest.f (k : Nat) (l0 : List Int) : Option (Bool) := if (l0.length : Int) > 1048576 then (some true) else ((spec_DrawLongestMatch.f k l0).bind fun bt543 => ((impl_LongestMatch.f k bt543.1 bt543.2).bind fun bt547 => ((spec_LongestMatch.f k bt543.1 bt543.2).bind fun bt549 => (if bt547.1 = bt549.1 then (if bt547.2 = bt549.2 then (laws_FnLongestMatchBest.j0 k bt543.1 bt543.2 bt547.1 bt547.2 bt549.1 bt549.2 (decide (bt547.1 < 0))) else (laws_FnLongestMatchBest.j0 k bt543.1 bt543.2 bt547.1 bt547.2 bt549.1 bt549.2 true)) else (laws_FnLongestMatchBest.j0 k bt543.1 bt543.2 bt547.1 bt547.2 bt549.1 bt549.2 true)))))
theorem laws_FnLongestMatchBest.mono_l : ∀ k, (∀ y0 y1 y2 y3 y4 y5 y6, LeO (laws_FnLongestMatchBest.j0 k y0 y1 y2 y3 y4 y5 y6) (laws_FnLongestMatchBest.j0 (k + 1) y0 y1 y2 y3 y4 y5 y6)) ∧ (∀ y0 y1 y2 y3 y4, LeO (laws_FnLongestMatchBest.l0 k y0 y1 y2 y3 y4) (laws_FnLongestMatchBest.l0 (k + 1) y0 y1 y2 y3 y4)) ∧ (∀ y0 y1 y2 y3 y4 y5, LeO (laws_FnLongestMatchBest.j2 k y0 y1 y2 y3 y4 y5) (laws_FnLongestMatchBest.j2 (k + 1) y0 y1 y2 y3 y4 y5)) ∧ (∀ y0 y1 y2 y3 y4 y5, LeO (laws_FnLongestMatchBest.l1 k y0 y1 y2 y3 y4 y5) (laws_FnLongestMatchBest.l1 (k + 1) y0 y1 y2 y3 y4 y5))
  | 0 => ⟨fun _ _ _ _ _ _ _ r h => by simp [laws_FnLongestMatchBest.j0] at h, fun _ _ _ _ _ r h => by simp [laws_FnLongestMatchBest.l0] at h, fun _ _ _ _ _ _ r h => by simp [laws_FnLongestMatchBest.j2] at h, fun _ _ _ _ _ _ r h => by simp [laws_FnLongestMatchBest.l1] at h⟩
  | k + 1 => by
    obtain ⟨ih0, ih1, ih2, ih3⟩ := laws_FnLongestMatchBest.mono_l k
    refine ⟨?_, ?_, ?_, ?_⟩
    · intro y0 y1 y2 y3 y4 y5 y6
      unfold laws_FnLongestMatchBest.j0
      repeat' first
      | (with_reducible exact ih0 _ _ _ _ _ _ _)
      | (with_reducible exact ih1 _ _ _ _ _)
      | (with_reducible exact ih2 _ _ _ _ _ _)
      | (with_reducible exact ih3 _ _ _ _ _ _)
      | (with_reducible exact impl_LongestMatch.mono _ _ _)
      | (with_reducible exact spec_DrawLongestMatch.mono _ _)
      | (with_reducible exact spec_LongestMatch.mono _ _ _)
      | (with_reducible exact LeO.refl _)
      | (with_reducible exact LeO.none _)
      | (with_reducible refine LeO.ite ?_ ?_)
      | (with_reducible refine LeO.bind ?_ (fun _ => ?_))
      | exact ih0 _ _ _ _ _ _ _
      | exact ih1 _ _ _ _ _
      | exact ih2 _ _ _ _ _ _
      | exact ih3 _ _ _ _ _ _
      | exact impl_LongestMatch.mono _ _ _
      | exact spec_DrawLongestMatch.mono _ _
      | exact spec_LongestMatch.mono _ _ _
      | exact LeO.none _
      | refine LeO.ite ?_ ?_
      | refine LeO.bind ?_ (fun _ => ?_)
    · intro y0 y1 y2 y3 y4
      unfold laws_FnLongestMatchBest.l0
      repeat' first
      | (with_reducible exact ih0 _ _ _ _ _ _ _)
      | (with_reducible exact ih1 _ _ _ _ _)
      | (with_reducible exact ih2 _ _ _ _ _ _)
      | (with_reducible exact ih3 _ _ _ _ _ _)
      | (with_reducible exact impl_LongestMatch.mono _ _ _)
      | (with_reducible exact spec_DrawLongestMatch.mono _ _)
      | (with_reducible exact spec_LongestMatch.mono _ _ _)
      | (with_reducible exact LeO.refl _)
      | (with_reducible exact LeO.none _)
      | (with_reducible refine LeO.ite ?_ ?_)
      | (with_reducible refine LeO.bind ?_ (fun _ => ?_))
      | exact ih0 _ _ _ _ _ _ _
      | exact ih1 _ _ _ _ _
      | exact ih2 _ _ _ _ _ _
      | exact ih3 _ _ _ _ _ _
      | exact impl_LongestMatch.mono _ _ _
      | exact spec_DrawLongestMatch.mono _ _
      | exact spec_LongestMatch.mono _ _ _
      | exact LeO.none _
      | refine LeO.ite ?_ ?_
      | refine LeO.bind ?_ (fun _ => ?_)
    · intro y0 y1 y2 y3 y4 y5
      unfold laws_FnLongestMatchBest.j2
      repeat' first
      | (with_reducible exact ih0 _ _ _ _ _ _ _)
      | (with_reducible exact ih1 _ _ _ _ _)
      | (with_reducible exact ih2 _ _ _ _ _ _)
      | (with_reducible exact ih3 _ _ _ _ _ _)
      | (with_reducible exact impl_LongestMatch.mono _ _ _)
      | (with_reducible exact spec_DrawLongestMatch.mono _ _)
      | (with_reducible exact spec_LongestMatch.mono _ _ _)
      | (with_reducible exact LeO.refl _)
      | (with_reducible exact LeO.none _)
      | (with_reducible refine LeO.ite ?_ ?_)
      | (with_reducible refine LeO.bind ?_ (fun _ => ?_))
      | exact ih0 _ _ _ _ _ _ _
      | exact ih1 _ _ _ _ _
      | exact ih2 _ _ _ _ _ _
      | exact ih3 _ _ _ _ _ _
      | exact impl_LongestMatch.mono _ _ _
      | exact spec_DrawLongestMatch.mono _ _
      | exact spec_LongestMatch.mono _ _ _
      | exact LeO.none _
      | refine LeO.ite ?_ ?_
      | refine LeO.bind ?_ (fun _ => ?_)
    · intro y0 y1 y2 y3 y4 y5
      unfold laws_FnLongestMatchBest.l1
      repeat' first
      | (with_reducible exact ih0 _ _ _ _ _ _ _)
      | (with_reducible exact ih1 _ _ _ _ _)
      | (with_reducible exact ih2 _ _ _ _ _ _)
      | (with_reducible exact ih3 _ _ _ _ _ _)
      | (with_reducible exact impl_LongestMatch.mono _ _ _)
      | (with_reducible exact spec_DrawLongestMatch.mono _ _)
      | (with_reducible exact spec_LongestMatch.mono _ _ _)
      | (with_reducible exact LeO.refl _)
      | (with_reducible exact LeO.none _)
      | (with_reducible refine LeO.ite ?_ ?_)
      | (with_reducible refine LeO.bind ?_ (fun _ => ?_))
      | exact ih0 _ _ _ _ _ _ _
      | exact ih1 _ _ _ _ _
      | exact ih2 _ _ _ _ _ _
      | exact ih3 _ _ _ _ _ _
      | exact impl_LongestMatch.mono _ _ _
      | exact spec_DrawLongestMatch.mono _ _
      | exact spec_LongestMatch.mono _ _ _
      | exact LeO.none _
      | refine LeO.ite ?_ ?_
      | refine LeO.bind ?_ (fun _ => ?_)
theorem laws_FnLongestMatchBest.mono : ∀ a0 k, LeO (laws_FnLongestMatchBest.f k a0) (laws_FnLongestMatchBest.f (k + 1) a0) := by
  intro a0 k
  obtain ⟨ih0, ih1, ih2, ih3⟩ := laws_FnLongestMatchBest.mono_l k
  unfold laws_FnLongestMatchBest.f
  repeat' first
      | (with_reducible exact ih0 _ _ _ _ _ _ _)
      | (with_reducible exact ih1 _ _ _ _ _)
      | (with_reducible exact ih2 _ _ _ _ _ _)
      | (with_reducible exact ih3 _ _ _ _ _ _)
      | (with_reducible exact impl_LongestMatch.mono _ _ _)
      | (with_reducible exact spec_DrawLongestMatch.mono _ _)
      | (with_reducible exact spec_LongestMatch.mono _ _ _)
      | (with_reducible exact LeO.refl _)
      | (with_reducible exact LeO.none _)
      | (with_reducible refine LeO.ite ?_ ?_)
      | (with_reducible refine LeO.bind ?_ (fun _ => ?_))
      | exact ih0 _ _ _ _ _ _ _
      | exact ih1 _ _ _ _ _
      | exact ih2 _ _ _ _ _ _
      | exact ih3 _ _ _ _ _ _
      | exact impl_LongestMatch.mono _ _ _
      | exact spec_DrawLongestMatch.mono _ _
      | exact spec_LongestMatch.mono _ _ _
      | exact LeO.none _
      | refine LeO.ite ?_ ?_
      | refine LeO.bind ?_ (fun _ => ?_)
set_option maxHeartbeats 8000000 in
set_option maxRecDepth 100000 in
theorem laws_FnLongestMatchBest.calls (k : Nat) (A0 : Option Addr) (c0 : Nat) (l0 : List Int) (r : Bool) (w : World) (hr0 : Kd.C (Kd.int .u8) w A0 l0.length l0) (hc0 : l0.length ≤ c0) (h : laws_FnLongestMatchBest.f k l0 = some r) (ht_ : Aside0 (r = true)) :
    Calls Try.prog 10 #[.slice A0 l0.length c0] w fun e w' => e = .returned (.bool r) ∧ Below w.heap.size w w' := by
  have HR0 := Aside0.mk hr0
  have HC0 := Aside0.mk hc0
  clear hr0 hc0
  have HB := Aside0.mk (Below.refl w.heap.size w)
  have H : (if (l0.length : Int) > 1048576 then (some true) else ((spec_DrawLongestMatch.f k l0).bind fun bt543 => ((impl_LongestMatch.f k bt543.1 bt543.2).bind fun bt547 => ((spec_LongestMatch.f k bt543.1 bt543.2).bind fun bt549 => (if bt547.1 = bt549.1 then (if bt547.2 = bt549.2 then (laws_FnLongestMatchBest.j0 k bt543.1 bt543.2 bt547.1 bt547.2 bt549.1 bt549.2 (decide (bt547.1 < 0))) else (laws_FnLongestMatchBest.j0 k bt543.1 bt543.2 bt547.1 bt547.2 bt549.1 bt549.2 true)) else (laws_FnLongestMatchBest.j0 k bt543.1 bt543.2 bt547.1 bt547.2 bt549.1 bt549.2 true)))))) = some r := h
  clear h
  by_cases c2 : (l0.length : Int) > 1048576
  · rw [if_pos c2] at H
    have c2b0 : decide (1048576 < (l0.length : Int)) = true := decide_eq_true c2
    have c2b1 : decide (1048576 < l0.length) = true := decide_eq_true (by omega)
    clear c2
    obtain rfl := Option.some.inj H
    simp only [Option.some.injEq, Prod.mk.injEq] at H
    obtain ⟨rfl⟩ := H
    go_enter Try.func10, Try.ntmps10
    go_wp2
    repeat (go_quiet (fail); try go_wp2)
    go_ret
    exact ⟨by first | rfl | (simp [errW_none, errW_some] <;> rfl) | (simp [*, errW_none, errW_some] <;> rfl), by repeat (first | (with_reducible first | exact HB.out | apply below_alloc | apply pw_below_drewN | apply below_drew1) | exact HB.out)⟩
  · rw [if_neg c2] at H
    have c2b0 : decide (1048576 < (l0.length : Int)) = false := decide_eq_false c2
    have c2b1 : decide (1048576 < l0.length) = false := decide_eq_false (by omega)
    clear c2
    replace H := Option.bind_eq_some_iff.mp H
    obtain ⟨⟨t543, t544⟩, A30, H⟩ := H
    replace H : ((impl_LongestMatch.f k t543 t544).bind fun bt547 => ((spec_LongestMatch.f k t543 t544).bind fun bt549 => (if bt547.1 = bt549.1 then (if bt547.2 = bt549.2 then (laws_FnLongestMatchBest.j0 k t543 t544 bt547.1 bt547.2 bt549.1 bt549.2 (decide (bt547.1 < 0))) else (laws_FnLongestMatchBest.j0 k t543 t544 bt547.1 bt547.2 bt549.1 bt549.2 true)) else (laws_FnLongestMatchBest.j0 k t543 t544 bt547.1 bt547.2 bt549.1 bt549.2 true)))) = some r := H
    have A3 := Aside0.mk A30
    clear A30
    replace H := Option.bind_eq_some_iff.mp H
    obtain ⟨⟨t547, t548⟩, A40, H⟩ := H
    replace H : ((spec_LongestMatch.f k t543 t544).bind fun bt549 => (if t547 = bt549.1 then (if t548 = bt549.2 then (laws_FnLongestMatchBest.j0 k t543 t544 t547 t548 bt549.1 bt549.2 (decide (t547 < 0))) else (laws_FnLongestMatchBest.j0 k t543 t544 t547 t548 bt549.1 bt549.2 true)) else (laws_FnLongestMatchBest.j0 k t543 t544 t547 t548 bt549.1 bt549.2 true))) = some r := H
    have A4 := Aside0.mk A40
    clear A40
    replace H := Option.bind_eq_some_iff.mp H
    obtain ⟨⟨t549, t550⟩, A50, H⟩ := H
    replace H : (if t547 = t549 then (if t548 = t550 then (laws_FnLongestMatchBest.j0 k t543 t544 t547 t548 t549 t550 (decide (t547 < 0))) else (laws_FnLongestMatchBest.j0 k t543 t544 t547 t548 t549 t550 true)) else (laws_FnLongestMatchBest.j0 k t543 t544 t547 t548 t549 t550 true)) = some r := H
    have A5 := Aside0.mk A50
    clear A50
    have HC6 := Aside0.mk H
    clear H
    go_enter Try.func10, Try.ntmps10
    go_upto_region 6 with (first | (go_at_call 40; (with_reducible refine (spec_DrawLongestMatch.calls k _ _ l0 t543 t544 _ ?side1 ?side2 A3.out).mono ?_); (case side1 => repeat (first | exact HR0.out | (with_reducible refine Kd.C_alloc ?_ _) | (with_reducible refine Kd.C_drewN ?_ _) | (with_reducible refine Kd.C_drew ?_))); (case side2 => exact HC0.out); rintro e w7 ⟨v545, rfl, ho0, hb⟩; have n0_ := Aside0.mk (Kd.Q_lower ho0 (below_size (by repeat (first | (with_reducible first | exact HB.out | apply below_alloc | apply pw_below_drewN | apply below_drew1) | exact HB.out)))); have n1_ := Aside0.mk (below_step (by repeat (first | (with_reducible first | exact HB.out | apply below_alloc | apply pw_below_drewN | apply below_drew1) | exact HB.out)) hb); clear HB; have HO546 := n0_; have HB := n1_; clear n0_ n1_; (try clear hb); (try clear hb2); (try clear hk); (try clear hi); (try clear ho0); obtain ⟨Ao8, co8, eo8, _⟩ := Kd.Q_slice HO546.out; subst eo8) | (go_at_call 34; (with_reducible refine (impl_LongestMatch.calls k _ _ t543 t544 t547 t548 _ ?side1 ?side2 A4.out).mono ?_); (case side1 => repeat (first | exact (Kd.Q_reads' HO546.out).2.2 | (with_reducible refine Kd.C_alloc ?_ _) | (with_reducible refine Kd.C_drewN ?_ _) | (with_reducible refine Kd.C_drew ?_))); (case side2 => exact (Kd.Q_reads' HO546.out).2.1); rintro e w9 ⟨rfl, hb⟩; have n0_ := Aside0.mk (Kd.Q_below (by (with_reducible repeat (first | apply Kd.Q_alloc | apply Kd.Q_drewN | apply Kd.Q_drew)); exact HO546.out) hb); have n1_ := Aside0.mk (below_step (by repeat (first | (with_reducible first | exact HB.out | apply below_alloc | apply pw_below_drewN | apply below_drew1) | exact HB.out)) hb); clear HO546; clear HB; have HO546 := n0_; have HB := n1_; clear n0_ n1_; (try clear hb); (try clear hb2); (try clear hk); (try clear hi)) | (go_at_call 33; (with_reducible refine (spec_LongestMatch.calls k _ _ t543 t544 t549 t550 _ ?side1 ?side2 A5.out).mono ?_); (case side1 => repeat (first | exact (Kd.Q_reads' HO546.out).2.2 | (with_reducible refine Kd.C_alloc ?_ _) | (with_reducible refine Kd.C_drewN ?_ _) | (with_reducible refine Kd.C_drew ?_))); (case side2 => exact (Kd.Q_reads' HO546.out).2.1); rintro e w' ⟨rfl, ⟨nd, rfl⟩⟩; (try first | exact ⟨rfl, _, World.drewN_drewN _ _ _⟩ | exact ⟨rfl, _, Eq.trans (World.drewN_drewN _ _ _) (congrArg (World.drewN _) (Nat.add_assoc _ _ _))⟩)))
    repeat (go_quiet (first | (go_at_call 40; (with_reducible refine (spec_DrawLongestMatch.calls k _ _ l0 t543 t544 _ ?side1 ?side2 A3.out).mono ?_); (case side1 => repeat (first | exact HR0.out | (with_reducible refine Kd.C_alloc ?_ _) | (with_reducible refine Kd.C_drewN ?_ _) | (with_reducible refine Kd.C_drew ?_))); (case side2 => exact HC0.out); rintro e w7 ⟨v545, rfl, ho0, hb⟩; have n0_ := Aside0.mk (Kd.Q_lower ho0 (below_size (by repeat (first | (with_reducible first | exact HB.out | apply below_alloc | apply pw_below_drewN | apply below_drew1) | exact HB.out)))); have n1_ := Aside0.mk (below_step (by repeat (first | (with_reducible first | exact HB.out | apply below_alloc | apply pw_below_drewN | apply below_drew1) | exact HB.out)) hb); clear HB; have HO546 := n0_; have HB := n1_; clear n0_ n1_; (try clear hb); (try clear hb2); (try clear hk); (try clear hi); (try clear ho0); obtain ⟨Ao8, co8, eo8, _⟩ := Kd.Q_slice HO546.out; subst eo8) | (go_at_call 34; (with_reducible refine (impl_LongestMatch.calls k _ _ t543 t544 t547 t548 _ ?side1 ?side2 A4.out).mono ?_); (case side1 => repeat (first | exact (Kd.Q_reads' HO546.out).2.2 | (with_reducible refine Kd.C_alloc ?_ _) | (with_reducible refine Kd.C_drewN ?_ _) | (with_reducible refine Kd.C_drew ?_))); (case side2 => exact (Kd.Q_reads' HO546.out).2.1); rintro e w9 ⟨rfl, hb⟩; have n0_ := Aside0.mk (Kd.Q_below (by (with_reducible repeat (first | apply Kd.Q_alloc | apply Kd.Q_drewN | apply Kd.Q_drew)); exact HO546.out) hb); have n1_ := Aside0.mk (below_step (by repeat (first | (with_reducible first | exact HB.out | apply below_alloc | apply pw_below_drewN | apply below_drew1) | exact HB.out)) hb); clear HO546; clear HB; have HO546 := n0_; have HB := n1_; clear n0_ n1_; (try clear hb); (try clear hb2); (try clear hk); (try clear hi)) | (go_at_call 33; (with_reducible refine (spec_LongestMatch.calls k _ _ t543 t544 t549 t550 _ ?side1 ?side2 A5.out).mono ?_); (case side1 => repeat (first | exact (Kd.Q_reads' HO546.out).2.2 | (with_reducible refine Kd.C_alloc ?_ _) | (with_reducible refine Kd.C_drewN ?_ _) | (with_reducible refine Kd.C_drew ?_))); (case side2 => exact (Kd.Q_reads' HO546.out).2.1); rintro e w' ⟨rfl, ⟨nd, rfl⟩⟩; (try first | exact ⟨rfl, _, World.drewN_drewN _ _ _⟩ | exact ⟨rfl, _, Eq.trans (World.drewN_drewN _ _ _) (congrArg (World.drewN _) (Nat.add_assoc _ _ _))⟩))); go_upto_region 6 with (first | (go_at_call 40; (with_reducible refine (spec_DrawLongestMatch.calls k _ _ l0 t543 t544 _ ?side1 ?side2 A3.out).mono ?_); (case side1 => repeat (first | exact HR0.out | (with_reducible refine Kd.C_alloc ?_ _) | (with_reducible refine Kd.C_drewN ?_ _) | (with_reducible refine Kd.C_drew ?_))); (case side2 => exact HC0.out); rintro e w7 ⟨v545, rfl, ho0, hb⟩; have n0_ := Aside0.mk (Kd.Q_lower ho0 (below_size (by repeat (first | (with_reducible first | exact HB.out | apply below_alloc | apply pw_below_drewN | apply below_drew1) | exact HB.out)))); have n1_ := Aside0.mk (below_step (by repeat (first | (with_reducible first | exact HB.out | apply below_alloc | apply pw_below_drewN | apply below_drew1) | exact HB.out)) hb); clear HB; have HO546 := n0_; have HB := n1_; clear n0_ n1_; (try clear hb); (try clear hb2); (try clear hk); (try clear hi); (try clear ho0); obtain ⟨Ao8, co8, eo8, _⟩ := Kd.Q_slice HO546.out; subst eo8) | (go_at_call 34; (with_reducible refine (impl_LongestMatch.calls k _ _ t543 t544 t547 t548 _ ?side1 ?side2 A4.out).mono ?_); (case side1 => repeat (first | exact (Kd.Q_reads' HO546.out).2.2 | (with_reducible refine Kd.C_alloc ?_ _) | (with_reducible refine Kd.C_drewN ?_ _) | (with_reducible refine Kd.C_drew ?_))); (case side2 => exact (Kd.Q_reads' HO546.out).2.1); rintro e w9 ⟨rfl, hb⟩; have n0_ := Aside0.mk (Kd.Q_below (by (with_reducible repeat (first | apply Kd.Q_alloc | apply Kd.Q_drewN | apply Kd.Q_drew)); exact HO546.out) hb); have n1_ := Aside0.mk (below_step (by repeat (first | (with_reducible first | exact HB.out | apply below_alloc | apply pw_below_drewN | apply below_drew1) | exact HB.out)) hb); clear HO546; clear HB; have HO546 := n0_; have HB := n1_; clear n0_ n1_; (try clear hb); (try clear hb2); (try clear hk); (try clear hi)) | (go_at_call 33; (with_reducible refine (spec_LongestMatch.calls k _ _ t543 t544 t549 t550 _ ?side1 ?side2 A5.out).mono ?_); (case side1 => repeat (first | exact (Kd.Q_reads' HO546.out).2.2 | (with_reducible refine Kd.C_alloc ?_ _) | (with_reducible refine Kd.C_drewN ?_ _) | (with_reducible refine Kd.C_drew ?_))); (case side2 => exact (Kd.Q_reads' HO546.out).2.1); rintro e w' ⟨rfl, ⟨nd, rfl⟩⟩; (try first | exact ⟨rfl, _, World.drewN_drewN _ _ _⟩ | exact ⟨rfl, _, Eq.trans (World.drewN_drewN _ _ _) (congrArg (World.drewN _) (Nat.add_assoc _ _ _))⟩))))
    (try simp only [Act.put, List.setIfInBounds_toArray, List.set_cons_zero, List.set_cons_succ])
    go_cut [42] (fun v42 wc => ∃ (kq : Nat) (x42_5 : Bool), v42 = .bool x42_5 ∧ Aside0 (laws_FnLongestMatchBest.j0 kq t543 t544 t547 t548 t549 t550 x42_5 = some r) ∧ Aside0 (kq ≤ k) ∧ Aside0 (Kd.Q (Kd.int .i64) 3 wc w.heap.size (fun _ => True) (.slice Ao8 t543.length co8) t543) ∧ Aside0 (Below w.heap.size w wc))
    case first =>
      have H := HC6.out
      clear HC6
      by_cases c10 : t547 = t549
      · rw [if_pos c10] at H
        have c10b0 : (t547 == t549) = true := beq_iff_eq.mpr c10
        have c10b1 : (t547 != t549) = false := bne_eq_false_iff_eq.mpr c10
        clear c10
        (first | rw [c10b0] | (simp only [i64_w, i32_w]; rw [c10b0]) | skip)
        by_cases c11 : t548 = t550
        · rw [if_pos c11] at H
          have c11b0 : (t548 == t550) = true := beq_iff_eq.mpr c11
          have c11b1 : (t548 != t550) = false := bne_eq_false_iff_eq.mpr c11
          clear c11
          have H' := Aside0.mk H
          clear H
          go_wp2
          repeat (go_quiet (fail); try go_wp2)
          go_meet
          case rel => exact ⟨_, (decide (t547 < 0)), (by first | rfl | (simp; done) | (simp [*]; done)), H', ⟨by first | omega | exact Nat.le_refl _⟩, ⟨by (with_reducible repeat (first | apply Kd.Q_alloc | apply Kd.Q_drewN | apply Kd.Q_drew)); exact HO546.out⟩, ⟨by repeat (first | (with_reducible first | exact HB.out | apply below_alloc | apply pw_below_drewN | apply below_drew1) | exact HB.out)⟩⟩
        · rw [if_neg c11] at H
          have c11b0 : (t548 == t550) = false := beq_eq_false_iff_ne.mpr c11
          have c11b1 : (t548 != t550) = true := bne_iff_ne.mpr c11
          have H' := Aside0.mk H
          clear H
          go_wp2
          repeat (go_quiet (fail); try go_wp2)
          go_meet
          case rel => exact ⟨_, (true), (by first | rfl | (simp; done) | (simp [*]; done)), H', ⟨by first | omega | exact Nat.le_refl _⟩, ⟨by (with_reducible repeat (first | apply Kd.Q_alloc | apply Kd.Q_drewN | apply Kd.Q_drew)); exact HO546.out⟩, ⟨by repeat (first | (with_reducible first | exact HB.out | apply below_alloc | apply pw_below_drewN | apply below_drew1) | exact HB.out)⟩⟩
      · rw [if_neg c10] at H
        have c10b0 : (t547 == t549) = false := beq_eq_false_iff_ne.mpr c10
        have c10b1 : (t547 != t549) = true := bne_iff_ne.mpr c10
        (first | rw [c10b0] | (simp only [i64_w, i32_w]; rw [c10b0]) | skip)
        have H' := Aside0.mk H
        clear H
        go_wp2
        repeat (go_quiet (fail); try go_wp2)
        go_meet
        case rel => exact ⟨_, (true), (by first | rfl | (simp; done) | (simp [*]; done)), H', ⟨by first | omega | exact Nat.le_refl _⟩, ⟨by (with_reducible repeat (first | apply Kd.Q_alloc | apply Kd.Q_drewN | apply Kd.Q_drew)); exact HO546.out⟩, ⟨by repeat (first | (with_reducible first | exact HB.out | apply below_alloc | apply pw_below_drewN | apply below_drew1) | exact HB.out)⟩⟩
    case rest =>
      clear HC6
      try clear c1
      try clear c2
      try clear c2b0
      try clear c2b1
      try clear p2
      try clear c10
      try clear c10b0
      try clear c10b1
      try clear c11
      try clear c11b0
      try clear c11b1
      obtain ⟨kq, x42_5, rfl, HA, HJ5, HO_3, HB⟩ := hcut
      cases kq with
      | zero => exact absurd HA.out (by simp [laws_FnLongestMatchBest.j0])
      | succ kj5 =>
        have H := HA.out
        clear HA
        simp only [laws_FnLongestMatchBest.j0] at H
        by_cases c12 : x42_5 = true
        · subst c12
          have H1 : (if t547 = t549 then (some (t548 == t550)) else (some false)) = some r := by rw [if_pos rfl] at H; exact H
          clear H
          have H := H1
          clear H1
          by_cases c13 : t547 = t549
          · rw [if_pos c13] at H
            have c13b0 : (t547 == t549) = true := beq_iff_eq.mpr c13
            have c13b1 : (t547 != t549) = false := bne_eq_false_iff_eq.mpr c13
            clear c13
            obtain rfl := Option.some.inj H
            simp only [Option.some.injEq, Prod.mk.injEq] at H
            obtain ⟨rfl⟩ := H
            go_wp2
            repeat (go_quiet (fail); try go_wp2)
            go_ret
            exact ⟨by first | rfl | (simp [errW_none, errW_some] <;> rfl) | (simp [*, errW_none, errW_some] <;> rfl), by repeat (first | (with_reducible first | exact HB.out | apply below_alloc | apply pw_below_drewN | apply below_drew1) | exact HB.out)⟩
          · rw [if_neg c13] at H
            have c13b0 : (t547 == t549) = false := beq_eq_false_iff_ne.mpr c13
            have c13b1 : (t547 != t549) = true := bne_iff_ne.mpr c13
            obtain rfl := Option.some.inj H
            exact absurd ht_.out (by decide)
        · replace c12 := Bool.eq_false_iff.mpr c12
          subst c12
          have H1 : (laws_FnLongestMatchBest.l0 kj5 t543 t544 t547 t548 1) = some r := by rw [if_neg (show ¬ (false = true) by decide)] at H; exact H
          clear H
          have H := H1
          clear H1
          have H' := Aside0.mk H
          clear H
          go_wp2
          repeat (go_quiet (fail); try go_wp2)
          go_loopg [9] kj5 (fun kq v9 w' => ∃ (x9_2 : Int), v9 = .int .i64 x9_2 ∧ Aside0 (laws_FnLongestMatchBest.l0 kq t543 t544 t547 t548 x9_2 = some r) ∧ Aside0 (kq ≤ kj5) ∧ Aside0 (Kd.Q (Kd.int .i64) 3 w' w.heap.size (fun _ => True) (.slice Ao8 t543.length co8) t543) ∧ Aside0 (Below w.heap.size w w'))
          case atStart => exact ⟨(1), (by first | rfl | (simp; done) | (simp [*]; done)), H', ⟨Nat.le_refl _⟩, ⟨by (with_reducible repeat (first | apply Kd.Q_alloc | apply Kd.Q_drewN | apply Kd.Q_drew)); exact HO_3.out⟩, ⟨by repeat (first | (with_reducible first | exact HB.out | apply below_alloc | apply pw_below_drewN | apply below_drew1) | exact HB.out)⟩⟩
          case round =>
            clear H'
            try clear c1
            try clear c2
            try clear c2b0
            try clear c2b1
            try clear p2
            try clear c10
            try clear c10b0
            try clear c10b1
            try clear c11
            try clear c11b0
            try clear c11b1
            try clear c12
            try clear c13
            try clear c13b0
            try clear c13b1
            try clear p2
            obtain ⟨x9_2, rfl, HA, HK2, HO_3, HB⟩ := hrel
            cases gk with
            | zero => exact absurd HA.out (by simp [laws_FnLongestMatchBest.l0])
            | succ k2 =>
              have H := HA.out
              clear HA
              simp only [laws_FnLongestMatchBest.l0] at H
              have HC14 := Aside0.mk H
              clear H
              go_upto_region 9 with (fail)
              repeat (go_quiet (fail); go_upto_region 9 with (fail))
              go_cut [57] (fun v57 wc => ∃ (kq : Nat) (x57_13 : Bool), v57 = .bool x57_13 ∧ Aside0 (laws_FnLongestMatchBest.j2 kq t543 t544 t547 t548 x9_2 x57_13 = some r) ∧ Aside0 (kq ≤ k2) ∧ Aside0 (Kd.Q (Kd.int .i64) 3 wc w.heap.size (fun _ => True) (.slice Ao8 t543.length co8) t543) ∧ Aside0 (Below w.heap.size w wc))
              case first =>
                have H := HC14.out
                clear HC14
                by_cases c15 : x9_2 ≤ t544
                · rw [if_pos c15] at H
                  have c15b0 : decide (x9_2 ≤ t544) = true := decide_eq_true c15
                  clear c15
                  (first | rw [c15b0] | (simp only [i64_w, i32_w]; rw [c15b0]) | skip)
                  have H' := Aside0.mk H
                  clear H
                  go_wp2
                  repeat (go_quiet (fail); try go_wp2)
                  go_meet
                  case rel => exact ⟨_, (decide (x9_2 ≤ 64)), (by first | rfl | (simp; done) | (simp [*]; done)), H', ⟨by have := HJ5.out; have := HK2.out; first | omega | exact Nat.le_refl _⟩, ⟨by (with_reducible repeat (first | apply Kd.Q_alloc | apply Kd.Q_drewN | apply Kd.Q_drew)); exact HO_3.out⟩, ⟨by repeat (first | (with_reducible first | exact HB.out | apply below_alloc | apply pw_below_drewN | apply below_drew1) | exact HB.out)⟩⟩
                · rw [if_neg c15] at H
                  have c15b0 : decide (x9_2 ≤ t544) = false := decide_eq_false c15
                  clear c15
                  (first | rw [c15b0] | (simp only [i64_w, i32_w]; rw [c15b0]) | skip)
                  have H' := Aside0.mk H
                  clear H
                  go_wp2
                  repeat (go_quiet (fail); try go_wp2)
                  go_meet
                  case rel => exact ⟨_, (false), (by first | rfl | (simp; done) | (simp [*]; done)), H', ⟨by have := HJ5.out; have := HK2.out; first | omega | exact Nat.le_refl _⟩, ⟨by (with_reducible repeat (first | apply Kd.Q_alloc | apply Kd.Q_drewN | apply Kd.Q_drew)); exact HO_3.out⟩, ⟨by repeat (first | (with_reducible first | exact HB.out | apply below_alloc | apply pw_below_drewN | apply below_drew1) | exact HB.out)⟩⟩
              case rest =>
                clear HC14
                try clear c1
                try clear c2
                try clear c2b0
                try clear c2b1
                try clear p2
                try clear c10
                try clear c10b0
                try clear c10b1
                try clear c11
                try clear c11b0
                try clear c11b1
                try clear c12
                try clear c13
                try clear c13b0
                try clear c13b1
                try clear c15
                try clear c15b0
                try clear p2
                obtain ⟨kq, x57_13, rfl, HA, HJ13, HO_3, HB⟩ := hcut
                cases kq with
                | zero => exact absurd HA.out (by simp [laws_FnLongestMatchBest.j2])
                | succ kj13 =>
                  have H := HA.out
                  clear HA
                  simp only [laws_FnLongestMatchBest.j2] at H
                  by_cases c16 : x57_13 = true
                  · subst c16
                    have H1 : (laws_FnLongestMatchBest.l1 kj13 t543 t544 t547 t548 x9_2 0) = some r := by rw [if_pos rfl] at H; exact H
                    clear H
                    have H := H1
                    clear H1
                    have H' := Aside0.mk H
                    clear H
                    go_wp2
                    repeat (go_quiet (fail); try go_wp2)
                    go_loopg [10] kj13 (fun kq v10 w' => ∃ (x10_4 : Int), v10 = .int .i64 x10_4 ∧ Aside0 (laws_FnLongestMatchBest.l1 kq t543 t544 t547 t548 x9_2 x10_4 = some r) ∧ Aside0 (kq ≤ kj13) ∧ Aside0 (Kd.Q (Kd.int .i64) 3 w' w.heap.size (fun _ => True) (.slice Ao8 t543.length co8) t543) ∧ Aside0 (Below w.heap.size w w'))
                    case atStart => exact ⟨(0), (by first | rfl | (simp; done) | (simp [*]; done)), H', ⟨Nat.le_refl _⟩, ⟨by (with_reducible repeat (first | apply Kd.Q_alloc | apply Kd.Q_drewN | apply Kd.Q_drew)); exact HO_3.out⟩, ⟨by repeat (first | (with_reducible first | exact HB.out | apply below_alloc | apply pw_below_drewN | apply below_drew1) | exact HB.out)⟩⟩
                    case round =>
                      clear H'
                      try clear c1
                      try clear c2
                      try clear c2b0
                      try clear c2b1
                      try clear p2
                      try clear c10
                      try clear c10b0
                      try clear c10b1
                      try clear c11
                      try clear c11b0
                      try clear c11b1
                      try clear c12
                      try clear c13
                      try clear c13b0
                      try clear c13b1
                      try clear c15
                      try clear c15b0
                      try clear c16
                      try clear p2
                      obtain ⟨x10_4, rfl, HA, HK4, HO_3, HB⟩ := hrel
                      cases gk with
                      | zero => exact absurd HA.out (by simp [laws_FnLongestMatchBest.l1])
                      | succ k4 =>
                        have H := HA.out
                        clear HA
                        simp only [laws_FnLongestMatchBest.l1] at H
                        by_cases c17 : x10_4 < 18
                        · rw [if_pos c17] at H
                          have c17b0 : decide (x10_4 < 18) = true := decide_eq_true c17
                          clear c17
                          by_cases c18 : (wrap64 (t544 + x10_4)) < (t543.length : Int)
                          · rw [if_pos c18] at H
                            have c18b0 : decide ((wrap64 (t544 + x10_4)) < (t543.length : Int)) = true := decide_eq_true c18
                            clear c18
                            obtain ⟨ji19, hji19⟩ : ∃ j_ : Int, (wrap64 (t544 + x10_4)) = j_ := ⟨_, rfl⟩
                            replace H : (if 0 ≤ (ji19) then (if 0 ≤ (wrap64 ((ji19) - x9_2)) then (if (wrap64 ((ji19) - x9_2)) < (t543.length : Int) then (if (rd t543 (ji19)) = (rd t543 (wrap64 ((ji19) - x9_2))) then (laws_FnLongestMatchBest.l1 k4 t543 t544 t547 t548 x9_2 (wrap64 (x10_4 + 1))) else (if x10_4 ≥ 3 then (if x10_4 > t547 then (some false) else (if x10_4 = t547 then (if x9_2 < t548 then (some false) else (laws_FnLongestMatchBest.l0 k4 t543 t544 t547 t548 (wrap64 (x9_2 + 1)))) else (laws_FnLongestMatchBest.l0 k4 t543 t544 t547 t548 (wrap64 (x9_2 + 1))))) else (laws_FnLongestMatchBest.l0 k4 t543 t544 t547 t548 (wrap64 (x9_2 + 1))))) else (none)) else (none)) else (none)) = some r := by first | (rw [hji19] at H; exact H) | (simp only [hji19] at H ⊢; exact H)
                            (try rw [hji19] at c18b0)
                            have hji19w : (IntKind.i64.wrap (t544 + x10_4)) = ji19 := (i64_w _).trans hji19
                            by_cases c20 : 0 ≤ (ji19)
                            · rw [if_pos c20] at H
                              have c20b0 : decide (0 ≤ (ji19)) = true := decide_eq_true c20
                              clear c20
                              obtain ⟨ji21, hji21⟩ : ∃ j_ : Int, (wrap64 ((ji19) - x9_2)) = j_ := ⟨_, rfl⟩
                              replace H : (if 0 ≤ (ji21) then (if (ji21) < (t543.length : Int) then (if (rd t543 (ji19)) = (rd t543 (ji21)) then (laws_FnLongestMatchBest.l1 k4 t543 t544 t547 t548 x9_2 (wrap64 (x10_4 + 1))) else (if x10_4 ≥ 3 then (if x10_4 > t547 then (some false) else (if x10_4 = t547 then (if x9_2 < t548 then (some false) else (laws_FnLongestMatchBest.l0 k4 t543 t544 t547 t548 (wrap64 (x9_2 + 1)))) else (laws_FnLongestMatchBest.l0 k4 t543 t544 t547 t548 (wrap64 (x9_2 + 1))))) else (laws_FnLongestMatchBest.l0 k4 t543 t544 t547 t548 (wrap64 (x9_2 + 1))))) else (none)) else (none)) = some r := by first | (rw [hji21] at H; exact H) | (simp only [hji21] at H ⊢; exact H)
                              have hji21w : (IntKind.i64.wrap ((ji19) - x9_2)) = ji21 := (i64_w _).trans hji21
                              by_cases c22 : 0 ≤ (ji21)
                              · rw [if_pos c22] at H
                                have c22b0 : decide (0 ≤ (ji21)) = true := decide_eq_true c22
                                clear c22
                                by_cases c23 : (ji21) < (t543.length : Int)
                                · rw [if_pos c23] at H
                                  have c23b0 : decide ((ji21) < (t543.length : Int)) = true := decide_eq_true c23
                                  clear c23
                                  by_cases c24 : (rd t543 (ji19)) = (rd t543 (ji21))
                                  · rw [if_pos c24] at H
                                    have c24b0 : ((rd t543 (ji19)) == (rd t543 (ji21))) = true := beq_iff_eq.mpr c24
                                    have c24b1 : ((rd t543 (ji19)) != (rd t543 (ji21))) = false := bne_eq_false_iff_eq.mpr c24
                                    clear c24
                                    have H' := Aside0.mk H
                                    clear H
                                    have p551 : 0 ≤ ((ji19) : Int) := of_decide_eq_true (by first | (with_reducible assumption) | assumption)
                                    have q551 : (ji19) < (t543.length : Int) := of_decide_eq_true (by first | (with_reducible assumption) | assumption)
                                    obtain ⟨ad551, e551, hx551_0⟩ := Kd.at_int (Kd.Q_reads' HO_3.out).2.2 (ji19) p551 q551
                                    cases e551
                                    replace p551 := eq_true p551
                                    replace q551 := eq_true q551
                                    have p552 : 0 ≤ ((ji21) : Int) := of_decide_eq_true (by first | (with_reducible assumption) | assumption)
                                    have q552 : (ji21) < (t543.length : Int) := of_decide_eq_true (by first | (with_reducible assumption) | assumption)
                                    obtain ⟨ad552, e552, hx552_0⟩ := Kd.at_int (Kd.Q_reads' HO_3.out).2.2 (ji21) p552 q552
                                    obtain rfl : ad551 = ad552 := (by injection e552)
                                    replace p552 := eq_true p552
                                    replace q552 := eq_true q552
                                    go_wp2
                                    repeat (go_quiet (fail); try go_wp2)
                                    go_roundg k4
                                    case measure => have := HJ5.out; have := HK2.out; have := HJ13.out; have := HK4.out; omega
                                    case rel => exact ⟨(wrap64 (x10_4 + 1)), (by first | rfl | (simp; done) | (simp [*]; done)), H', ⟨by have := HJ5.out; have := HK2.out; have := HJ13.out; have := HK4.out; omega⟩, ⟨by (with_reducible repeat (first | apply Kd.Q_alloc | apply Kd.Q_drewN | apply Kd.Q_drew)); exact HO_3.out⟩, ⟨by repeat (first | (with_reducible first | exact HB.out | apply below_alloc | apply pw_below_drewN | apply below_drew1) | exact HB.out)⟩⟩
                                  · rw [if_neg c24] at H
                                    have c24b0 : ((rd t543 (ji19)) == (rd t543 (ji21))) = false := beq_eq_false_iff_ne.mpr c24
                                    have c24b1 : ((rd t543 (ji19)) != (rd t543 (ji21))) = true := bne_iff_ne.mpr c24
                                    by_cases c25 : x10_4 ≥ 3
                                    · rw [if_pos c25] at H
                                      have c25b0 : decide (3 ≤ x10_4) = true := decide_eq_true c25
                                      clear c25
                                      by_cases c26 : x10_4 > t547
                                      · rw [if_pos c26] at H
                                        have c26b0 : decide (t547 < x10_4) = true := decide_eq_true c26
                                        clear c26
                                        obtain rfl := Option.some.inj H
                                        exact absurd ht_.out (by decide)
                                      · rw [if_neg c26] at H
                                        have c26b0 : decide (t547 < x10_4) = false := decide_eq_false c26
                                        clear c26
                                        by_cases c27 : x10_4 = t547
                                        · rw [if_pos c27] at H
                                          have c27b0 : (x10_4 == t547) = true := beq_iff_eq.mpr c27
                                          have c27b1 : (x10_4 != t547) = false := bne_eq_false_iff_eq.mpr c27
                                          clear c27
                                          by_cases c28 : x9_2 < t548
                                          · rw [if_pos c28] at H
                                            have c28b0 : decide (x9_2 < t548) = true := decide_eq_true c28
                                            clear c28
                                            obtain rfl := Option.some.inj H
                                            exact absurd ht_.out (by decide)
                                          · rw [if_neg c28] at H
                                            have c28b0 : decide (x9_2 < t548) = false := decide_eq_false c28
                                            clear c28
                                            have H' := Aside0.mk H
                                            clear H
                                            have p551 : 0 ≤ ((ji19) : Int) := of_decide_eq_true (by first | (with_reducible assumption) | assumption)
                                            have q551 : (ji19) < (t543.length : Int) := of_decide_eq_true (by first | (with_reducible assumption) | assumption)
                                            obtain ⟨ad551, e551, hx551_0⟩ := Kd.at_int (Kd.Q_reads' HO_3.out).2.2 (ji19) p551 q551
                                            cases e551
                                            replace p551 := eq_true p551
                                            replace q551 := eq_true q551
                                            have p552 : 0 ≤ ((ji21) : Int) := of_decide_eq_true (by first | (with_reducible assumption) | assumption)
                                            have q552 : (ji21) < (t543.length : Int) := of_decide_eq_true (by first | (with_reducible assumption) | assumption)
                                            obtain ⟨ad552, e552, hx552_0⟩ := Kd.at_int (Kd.Q_reads' HO_3.out).2.2 (ji21) p552 q552
                                            obtain rfl : ad551 = ad552 := (by injection e552)
                                            replace p552 := eq_true p552
                                            replace q552 := eq_true q552
                                            go_wp2
                                            repeat (go_quiet (fail); try go_wp2)
                                            go_roundg k4
                                            case measure => have := HJ5.out; have := HK2.out; have := HJ13.out; have := HK4.out; omega
                                            case rel => exact ⟨(wrap64 (x9_2 + 1)), (by first | rfl | (simp; done) | (simp [*]; done)), H', ⟨by have := HJ5.out; have := HK2.out; have := HJ13.out; have := HK4.out; omega⟩, ⟨by (with_reducible repeat (first | apply Kd.Q_alloc | apply Kd.Q_drewN | apply Kd.Q_drew)); exact HO_3.out⟩, ⟨by repeat (first | (with_reducible first | exact HB.out | apply below_alloc | apply pw_below_drewN | apply below_drew1) | exact HB.out)⟩⟩
                                        · rw [if_neg c27] at H
                                          have c27b0 : (x10_4 == t547) = false := beq_eq_false_iff_ne.mpr c27
                                          have c27b1 : (x10_4 != t547) = true := bne_iff_ne.mpr c27
                                          have H' := Aside0.mk H
                                          clear H
                                          have p551 : 0 ≤ ((ji19) : Int) := of_decide_eq_true (by first | (with_reducible assumption) | assumption)
                                          have q551 : (ji19) < (t543.length : Int) := of_decide_eq_true (by first | (with_reducible assumption) | assumption)
                                          obtain ⟨ad551, e551, hx551_0⟩ := Kd.at_int (Kd.Q_reads' HO_3.out).2.2 (ji19) p551 q551
                                          cases e551
                                          replace p551 := eq_true p551
                                          replace q551 := eq_true q551
                                          have p552 : 0 ≤ ((ji21) : Int) := of_decide_eq_true (by first | (with_reducible assumption) | assumption)
                                          have q552 : (ji21) < (t543.length : Int) := of_decide_eq_true (by first | (with_reducible assumption) | assumption)
                                          obtain ⟨ad552, e552, hx552_0⟩ := Kd.at_int (Kd.Q_reads' HO_3.out).2.2 (ji21) p552 q552
                                          obtain rfl : ad551 = ad552 := (by injection e552)
                                          replace p552 := eq_true p552
                                          replace q552 := eq_true q552
                                          go_wp2
                                          repeat (go_quiet (fail); try go_wp2)
                                          go_roundg k4
                                          case measure => have := HJ5.out; have := HK2.out; have := HJ13.out; have := HK4.out; omega
                                          case rel => exact ⟨(wrap64 (x9_2 + 1)), (by first | rfl | (simp; done) | (simp [*]; done)), H', ⟨by have := HJ5.out; have := HK2.out; have := HJ13.out; have := HK4.out; omega⟩, ⟨by (with_reducible repeat (first | apply Kd.Q_alloc | apply Kd.Q_drewN | apply Kd.Q_drew)); exact HO_3.out⟩, ⟨by repeat (first | (with_reducible first | exact HB.out | apply below_alloc | apply pw_below_drewN | apply below_drew1) | exact HB.out)⟩⟩
                                    · rw [if_neg c25] at H
                                      have c25b0 : decide (3 ≤ x10_4) = false := decide_eq_false c25
                                      clear c25
                                      have H' := Aside0.mk H
                                      clear H
                                      have p551 : 0 ≤ ((ji19) : Int) := of_decide_eq_true (by first | (with_reducible assumption) | assumption)
                                      have q551 : (ji19) < (t543.length : Int) := of_decide_eq_true (by first | (with_reducible assumption) | assumption)
                                      obtain ⟨ad551, e551, hx551_0⟩ := Kd.at_int (Kd.Q_reads' HO_3.out).2.2 (ji19) p551 q551
                                      cases e551
                                      replace p551 := eq_true p551
                                      replace q551 := eq_true q551
                                      have p552 : 0 ≤ ((ji21) : Int) := of_decide_eq_true (by first | (with_reducible assumption) | assumption)
                                      have q552 : (ji21) < (t543.length : Int) := of_decide_eq_true (by first | (with_reducible assumption) | assumption)
                                      obtain ⟨ad552, e552, hx552_0⟩ := Kd.at_int (Kd.Q_reads' HO_3.out).2.2 (ji21) p552 q552
                                      obtain rfl : ad551 = ad552 := (by injection e552)
                                      replace p552 := eq_true p552
                                      replace q552 := eq_true q552
                                      go_wp2
                                      repeat (go_quiet (fail); try go_wp2)
                                      go_roundg k4
                                      case measure => have := HJ5.out; have := HK2.out; have := HJ13.out; have := HK4.out; omega
                                      case rel => exact ⟨(wrap64 (x9_2 + 1)), (by first | rfl | (simp; done) | (simp [*]; done)), H', ⟨by have := HJ5.out; have := HK2.out; have := HJ13.out; have := HK4.out; omega⟩, ⟨by (with_reducible repeat (first | apply Kd.Q_alloc | apply Kd.Q_drewN | apply Kd.Q_drew)); exact HO_3.out⟩, ⟨by repeat (first | (with_reducible first | exact HB.out | apply below_alloc | apply pw_below_drewN | apply below_drew1) | exact HB.out)⟩⟩
                                · rw [if_neg c23] at H
                                  exact absurd H (by simp)
                              · rw [if_neg c22] at H
                                exact absurd H (by simp)
                            · rw [if_neg c20] at H
                              exact absurd H (by simp)
                          · rw [if_neg c18] at H
                            have c18b0 : decide ((wrap64 (t544 + x10_4)) < (t543.length : Int)) = false := decide_eq_false c18
                            clear c18
                            by_cases c29 : x10_4 ≥ 3
                            · rw [if_pos c29] at H
                              have c29b0 : decide (3 ≤ x10_4) = true := decide_eq_true c29
                              clear c29
                              by_cases c30 : x10_4 > t547
                              · rw [if_pos c30] at H
                                have c30b0 : decide (t547 < x10_4) = true := decide_eq_true c30
                                clear c30
                                obtain rfl := Option.some.inj H
                                exact absurd ht_.out (by decide)
                              · rw [if_neg c30] at H
                                have c30b0 : decide (t547 < x10_4) = false := decide_eq_false c30
                                clear c30
                                by_cases c31 : x10_4 = t547
                                · rw [if_pos c31] at H
                                  have c31b0 : (x10_4 == t547) = true := beq_iff_eq.mpr c31
                                  have c31b1 : (x10_4 != t547) = false := bne_eq_false_iff_eq.mpr c31
                                  clear c31
                                  by_cases c32 : x9_2 < t548
                                  · rw [if_pos c32] at H
                                    have c32b0 : decide (x9_2 < t548) = true := decide_eq_true c32
                                    clear c32
                                    obtain rfl := Option.some.inj H
                                    exact absurd ht_.out (by decide)
                                  · rw [if_neg c32] at H
                                    have c32b0 : decide (x9_2 < t548) = false := decide_eq_false c32
                                    clear c32
                                    have H' := Aside0.mk H
                                    clear H
                                    go_wp2
                                    repeat (go_quiet (fail); try go_wp2)
                                    go_roundg k4
                                    case measure => have := HJ5.out; have := HK2.out; have := HJ13.out; have := HK4.out; omega
                                    case rel => exact ⟨(wrap64 (x9_2 + 1)), (by first | rfl | (simp; done) | (simp [*]; done)), H', ⟨by have := HJ5.out; have := HK2.out; have := HJ13.out; have := HK4.out; omega⟩, ⟨by (with_reducible repeat (first | apply Kd.Q_alloc | apply Kd.Q_drewN | apply Kd.Q_drew)); exact HO_3.out⟩, ⟨by repeat (first | (with_reducible first | exact HB.out | apply below_alloc | apply pw_below_drewN | apply below_drew1) | exact HB.out)⟩⟩
                                · rw [if_neg c31] at H
                                  have c31b0 : (x10_4 == t547) = false := beq_eq_false_iff_ne.mpr c31
                                  have c31b1 : (x10_4 != t547) = true := bne_iff_ne.mpr c31
                                  have H' := Aside0.mk H
                                  clear H
                                  go_wp2
                                  repeat (go_quiet (fail); try go_wp2)
                                  go_roundg k4
                                  case measure => have := HJ5.out; have := HK2.out; have := HJ13.out; have := HK4.out; omega
                                  case rel => exact ⟨(wrap64 (x9_2 + 1)), (by first | rfl | (simp; done) | (simp [*]; done)), H', ⟨by have := HJ5.out; have := HK2.out; have := HJ13.out; have := HK4.out; omega⟩, ⟨by (with_reducible repeat (first | apply Kd.Q_alloc | apply Kd.Q_drewN | apply Kd.Q_drew)); exact HO_3.out⟩, ⟨by repeat (first | (with_reducible first | exact HB.out | apply below_alloc | apply pw_below_drewN | apply below_drew1) | exact HB.out)⟩⟩
                            · rw [if_neg c29] at H
                              have c29b0 : decide (3 ≤ x10_4) = false := decide_eq_false c29
                              clear c29
                              have H' := Aside0.mk H
                              clear H
                              go_wp2
                              repeat (go_quiet (fail); try go_wp2)
                              go_roundg k4
                              case measure => have := HJ5.out; have := HK2.out; have := HJ13.out; have := HK4.out; omega
                              case rel => exact ⟨(wrap64 (x9_2 + 1)), (by first | rfl | (simp; done) | (simp [*]; done)), H', ⟨by have := HJ5.out; have := HK2.out; have := HJ13.out; have := HK4.out; omega⟩, ⟨by (with_reducible repeat (first | apply Kd.Q_alloc | apply Kd.Q_drewN | apply Kd.Q_drew)); exact HO_3.out⟩, ⟨by repeat (first | (with_reducible first | exact HB.out | apply below_alloc | apply pw_below_drewN | apply below_drew1) | exact HB.out)⟩⟩
                        · rw [if_neg c17] at H
                          have c17b0 : decide (x10_4 < 18) = false := decide_eq_false c17
                          clear c17
                          by_cases c33 : x10_4 ≥ 3
                          · rw [if_pos c33] at H
                            have c33b0 : decide (3 ≤ x10_4) = true := decide_eq_true c33
                            clear c33
                            by_cases c34 : x10_4 > t547
                            · rw [if_pos c34] at H
                              have c34b0 : decide (t547 < x10_4) = true := decide_eq_true c34
                              clear c34
                              obtain rfl := Option.some.inj H
                              exact absurd ht_.out (by decide)
                            · rw [if_neg c34] at H
                              have c34b0 : decide (t547 < x10_4) = false := decide_eq_false c34
                              clear c34
                              by_cases c35 : x10_4 = t547
                              · rw [if_pos c35] at H
                                have c35b0 : (x10_4 == t547) = true := beq_iff_eq.mpr c35
                                have c35b1 : (x10_4 != t547) = false := bne_eq_false_iff_eq.mpr c35
                                clear c35
                                by_cases c36 : x9_2 < t548
                                · rw [if_pos c36] at H
                                  have c36b0 : decide (x9_2 < t548) = true := decide_eq_true c36
                                  clear c36
                                  obtain rfl := Option.some.inj H
                                  exact absurd ht_.out (by decide)
                                · rw [if_neg c36] at H
                                  have c36b0 : decide (x9_2 < t548) = false := decide_eq_false c36
                                  clear c36
                                  have H' := Aside0.mk H
                                  clear H
                                  go_wp2
                                  repeat (go_quiet (fail); try go_wp2)
                                  go_roundg k4
                                  case measure => have := HJ5.out; have := HK2.out; have := HJ13.out; have := HK4.out; omega
                                  case rel => exact ⟨(wrap64 (x9_2 + 1)), (by first | rfl | (simp; done) | (simp [*]; done)), H', ⟨by have := HJ5.out; have := HK2.out; have := HJ13.out; have := HK4.out; omega⟩, ⟨by (with_reducible repeat (first | apply Kd.Q_alloc | apply Kd.Q_drewN | apply Kd.Q_drew)); exact HO_3.out⟩, ⟨by repeat (first | (with_reducible first | exact HB.out | apply below_alloc | apply pw_below_drewN | apply below_drew1) | exact HB.out)⟩⟩
                              · rw [if_neg c35] at H
                                have c35b0 : (x10_4 == t547) = false := beq_eq_false_iff_ne.mpr c35
                                have c35b1 : (x10_4 != t547) = true := bne_iff_ne.mpr c35
                                have H' := Aside0.mk H
                                clear H
                                go_wp2
                                repeat (go_quiet (fail); try go_wp2)
                                go_roundg k4
                                case measure => have := HJ5.out; have := HK2.out; have := HJ13.out; have := HK4.out; omega
                                case rel => exact ⟨(wrap64 (x9_2 + 1)), (by first | rfl | (simp; done) | (simp [*]; done)), H', ⟨by have := HJ5.out; have := HK2.out; have := HJ13.out; have := HK4.out; omega⟩, ⟨by (with_reducible repeat (first | apply Kd.Q_alloc | apply Kd.Q_drewN | apply Kd.Q_drew)); exact HO_3.out⟩, ⟨by repeat (first | (with_reducible first | exact HB.out | apply below_alloc | apply pw_below_drewN | apply below_drew1) | exact HB.out)⟩⟩
                          · rw [if_neg c33] at H
                            have c33b0 : decide (3 ≤ x10_4) = false := decide_eq_false c33
                            clear c33
                            have H' := Aside0.mk H
                            clear H
                            go_wp2
                            repeat (go_quiet (fail); try go_wp2)
                            go_roundg k4
                            case measure => have := HJ5.out; have := HK2.out; have := HJ13.out; have := HK4.out; omega
                            case rel => exact ⟨(wrap64 (x9_2 + 1)), (by first | rfl | (simp; done) | (simp [*]; done)), H', ⟨by have := HJ5.out; have := HK2.out; have := HJ13.out; have := HK4.out; omega⟩, ⟨by (with_reducible repeat (first | apply Kd.Q_alloc | apply Kd.Q_drewN | apply Kd.Q_drew)); exact HO_3.out⟩, ⟨by repeat (first | (with_reducible first | exact HB.out | apply below_alloc | apply pw_below_drewN | apply below_drew1) | exact HB.out)⟩⟩
                  · replace c16 := Bool.eq_false_iff.mpr c16
                    subst c16
                    have H1 : (some true) = some r := by rw [if_neg (show ¬ (false = true) by decide)] at H; exact H
                    clear H
                    have H := H1
                    clear H1
                    obtain rfl := Option.some.inj H
                    simp only [Option.some.injEq, Prod.mk.injEq] at H
                    obtain ⟨rfl⟩ := H
                    go_wp2
                    repeat (go_quiet (fail); try go_wp2)
                    go_ret
                    exact ⟨by first | rfl | (simp [errW_none, errW_some] <;> rfl) | (simp [*, errW_none, errW_some] <;> rfl), by repeat (first | (with_reducible first | exact HB.out | apply below_alloc | apply pw_below_drewN | apply below_drew1) | exact HB.out)⟩

/-- THE ONE PURE STATEMENT of laws_FnLongestMatchBest: yours. -/
def laws_FnLongestMatchBest.Pure : Prop := ∀ (l0 : List Int), l0.length ≤ maxLen → l0.length * 1 ≤ 140737488351232 → (∀ x ∈ l0, (Lit.int .u8 x).wf = true) → ∃ k, laws_FnLongestMatchBest.f k l0 = some true
theorem laws_FnLongestMatchBest.walk (P : laws_FnLongestMatchBest.Pure) (a0 : Option Addr) (len0 cap0 : Nat) (z0 : List Int) (w : World) (w0 : (a0 = none ∧ len0 = 0 ∧ cap0 = 0 ∧ z0 = []) ∨ ∃ x, a0 = some x ∧ len0 ≤ cap0 ∧ cap0 ≤ maxLen ∧ z0.length = cap0 ∧ (∀ i, i < z0.length → w.cell? (x.add i) = some (.int .u8 (z0.getD i 0))) ∧ ∀ n ∈ z0, (Lit.int .u8 n).wf = true) (y0 : len0 * 1 ≤ 140737488351232) :
    Calls Try.prog 10 #[.slice a0 len0 cap0] w fun e w' => e = .returned (.bool true) ∧ Below w.heap.size w w' := by
  obtain ⟨l0, rfl, hr0, hm0, hw0, hc0⟩ := ReadsInt.ofRowC w0
  obtain ⟨k, h⟩ := P l0 hm0 y0 hw0
  refine (laws_FnLongestMatchBest.calls k _ _ l0 true w (Kd.C_of_reads (d := (0 : Int)) (h1 := fun _ => rfl) hr0) hc0 h ⟨rfl⟩).mono ?_
  rintro e w' ⟨rfl, hd⟩
  exact ⟨rfl, hd⟩

end Go.Proofs.Ytckndapolgajfaa.Q
