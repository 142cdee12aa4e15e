-- Written by a program of this session (the kit's printer, with hand-proved contracts for the functions that it does not take).
import Derived.Test.YtepifjggnfaeoaaQ0
import Derived.Test.YtepifjggnfaeoaaQ1
namespace Go.Proofs.Ytepifjggnfaeoaa.Q
open Go.RowKit Go.Proofs.YtepifjggnfaeoaaW.PrintWords Go.Proofs.YtepifjggnfaeoaaW.PrintLast Go.Proofs.YtepifjggnfaeoaaW.PrintMore
attribute [local go_sem] max2_int min2_int max_two min_two max_three min_three max_four min_four   -- for this text's walks alone
set_option linter.unusedVariables false
set_option linter.unusedSimpArgs false

/-! ### laws_heldIntS: function 9 -/
def laws_heldIntS.l0 : Nat → List Int → Int → Int → Option (Int)
  | 0, _, _, _ => none
  | k + 1, x0, x1, x5 => if x5 < (x0.length : Int) then (if 0 ≤ x5 then (if (rd x0 x5) = x1 then (laws_heldIntS.l0 k x0 (wrap64 (x1 + 1)) (wrap64 (x5 + 1))) else (some (-1))) else (none)) else (some x1)
def laws_heldIntS.f (k : Nat) (l0 : List Int) (a1 : Int) : Option (Int) := laws_heldIntS.l0 k l0 a1 0
theorem laws_heldIntS.mono_l : ∀ k, (∀ y0 y1 y2, LeO (laws_heldIntS.l0 k y0 y1 y2) (laws_heldIntS.l0 (k + 1) y0 y1 y2))
  | 0 => fun _ _ _ r h => by simp [laws_heldIntS.l0] at h
  | k + 1 => by
    have ih0 := laws_heldIntS.mono_l k
    · intro y0 y1 y2
      unfold laws_heldIntS.l0
      repeat' first
      | (with_reducible exact ih0 _ _ _)
      | (with_reducible exact LeO.refl _)
      | (with_reducible exact LeO.none _)
      | (with_reducible refine LeO.ite ?_ ?_)
      | (with_reducible refine LeO.bind ?_ (fun _ => ?_))
      | exact ih0 _ _ _
      | exact LeO.none _
      | refine LeO.ite ?_ ?_
      | refine LeO.bind ?_ (fun _ => ?_)
theorem laws_heldIntS.mono : ∀ a0 a1 k, LeO (laws_heldIntS.f k a0 a1) (laws_heldIntS.f (k + 1) a0 a1) := by
  intro a0 a1 k
  have ih0 := laws_heldIntS.mono_l k
  unfold laws_heldIntS.f
  repeat' first
      | (with_reducible exact ih0 _ _ _)
      | (with_reducible exact LeO.refl _)
      | (with_reducible exact LeO.none _)
      | (with_reducible refine LeO.ite ?_ ?_)
      | (with_reducible refine LeO.bind ?_ (fun _ => ?_))
      | exact ih0 _ _ _
      | exact LeO.none _
      | refine LeO.ite ?_ ?_
      | refine LeO.bind ?_ (fun _ => ?_)
set_option maxHeartbeats 8000000 in
set_option maxRecDepth 100000 in
theorem laws_heldIntS.calls (k : Nat) (A0 : Option Addr) (c0 : Nat) (l0 : List Int) (a1 : Int) (r : Int) (w : World) (hr0 : Kd.C (Kd.int .i64) w A0 l0.length l0) (hc0 : l0.length ≤ c0) (h : laws_heldIntS.f k l0 a1 = some r) :
    Calls Try.prog 9 #[.slice A0 l0.length c0, .int .i64 a1] w fun e w' => e = .returned (.int .i64 r) ∧ Drawn0 w w' := by
  have HR0 := Aside0.mk hr0
  have HC0 := Aside0.mk hc0
  clear hr0 hc0
  have H : (laws_heldIntS.l0 k l0 a1 0) = some r := h
  clear h
  have H' := Aside0.mk H
  clear H
  go_enter Try.func9, Try.ntmps9
  go_wp2
  go_loopg [1, 5] k (fun kq v1 v5 w' => ∃ (x1_1 : Int) (x5_1 : Int), v1 = .int .i64 x1_1 ∧ v5 = .int .i64 x5_1 ∧ Aside0 (laws_heldIntS.l0 kq l0 x1_1 x5_1 = some r) ∧ Aside0 (kq ≤ k) ∧ Drawn0 w w')
  case atStart => exact ⟨(a1), (0), (by first | rfl | (simp; done) | (simp [*]; done)), (by first | rfl | (simp; done) | (simp [*]; done)), H', ⟨Nat.le_refl _⟩, by repeat (first | exact Drawn0.refl _ | apply Drawn0.step)⟩
  case round =>
    clear H'
    try clear p2
    obtain ⟨x1_1, x5_1, rfl, rfl, HA, HK1, ⟨m1, rfl⟩⟩ := hrel
    cases gk with
    | zero => exact absurd HA.out (by simp [laws_heldIntS.l0])
    | succ k1 =>
      have H := HA.out
      clear HA
      simp only [laws_heldIntS.l0] at H
      by_cases c3 : x5_1 < (l0.length : Int)
      · rw [if_pos c3] at H
        have c3b0 : decide (x5_1 < (l0.length : Int)) = true := decide_eq_true c3
        clear c3
        by_cases c4 : 0 ≤ x5_1
        · rw [if_pos c4] at H
          have c4b0 : decide (0 ≤ x5_1) = true := decide_eq_true c4
          clear c4
          by_cases c5 : (rd l0 x5_1) = x1_1
          · rw [if_pos c5] at H
            have c5b0 : ((rd l0 x5_1) == x1_1) = true := beq_iff_eq.mpr c5
            have c5b1 : ((rd l0 x5_1) != x1_1) = false := bne_eq_false_iff_eq.mpr c5
            clear c5
            have H' := Aside0.mk H
            clear H
            have p137 : 0 ≤ (x5_1 : Int) := of_decide_eq_true (by first | (with_reducible assumption) | assumption)
            have q137 : x5_1 < (l0.length : Int) := of_decide_eq_true (by first | (with_reducible assumption) | assumption)
            obtain ⟨ad137, e137, hx137_0⟩ := Kd.at_int HR0.out x5_1 p137 q137
            cases e137
            replace p137 := eq_true p137
            replace q137 := eq_true q137
            go_wp2
            go_roundg k1
            case measure => have := HK1.out; omega
            case rel => exact ⟨(wrap64 (x1_1 + 1)), (wrap64 (x5_1 + 1)), (by first | rfl | (simp; done) | (simp [*]; done)), (by first | rfl | (simp; done) | (simp [*]; done)), H', ⟨by have := HK1.out; omega⟩, by repeat (first | exact Drawn0.refl _ | apply Drawn0.step)⟩
          rw [if_neg c5] at H
          have c5b0 : ((rd l0 x5_1) == x1_1) = false := beq_eq_false_iff_ne.mpr c5
          have c5b1 : ((rd l0 x5_1) != x1_1) = true := bne_iff_ne.mpr c5
          obtain rfl := Option.some.inj H
          simp only [Option.some.injEq, Prod.mk.injEq] at H
          obtain ⟨rfl⟩ := H
          have p137 : 0 ≤ (x5_1 : Int) := of_decide_eq_true (by first | (with_reducible assumption) | assumption)
          have q137 : x5_1 < (l0.length : Int) := of_decide_eq_true (by first | (with_reducible assumption) | assumption)
          obtain ⟨ad137, e137, hx137_0⟩ := Kd.at_int HR0.out x5_1 p137 q137
          cases e137
          replace p137 := eq_true p137
          replace q137 := eq_true q137
          go_wp2
          go_ret
          exact ⟨by first | rfl | (simp; done) | (simp [*]; done), by repeat (first | exact Drawn0.refl _ | apply Drawn0.step)⟩
        rw [if_neg c4] at H
        exact absurd H (by simp)
      rw [if_neg c3] at H
      have c3b0 : decide (x5_1 < (l0.length : Int)) = false := decide_eq_false c3
      clear c3
      obtain rfl := Option.some.inj H
      simp only [Option.some.injEq, Prod.mk.injEq] at H
      obtain ⟨rfl⟩ := H
      go_wp2
      go_ret
      exact ⟨by first | rfl | (simp; done) | (simp [*]; done), by repeat (first | exact Drawn0.refl _ | apply Drawn0.step)⟩

/-! ### laws_FnExactCanonicalCodes: function 3 -/
def laws_FnExactCanonicalCodes.j0 : Nat → List Int → List Int → List Int → Bool → Option (Bool)
  | 0, _, _, _, _ => none
  | k + 1, x0, x3, x5, x39 => if x39 = true then (some false) else ((laws_markIntS.f k x5 1).bind fun bt158 => ((laws_heldIntS.f k bt158.2 1).bind fun t160 => (if t160 < 0 then (some false) else (if t160 = bt158.1 then ((laws_toIntS.f k x0).bind fun t161 => ((impl_CanonicalCodes.f k t161).bind fun t164 => ((laws_eqIntS.f k t164 x3).bind fun t167 => (if t167 = true then ((laws_heldIntS.f k bt158.2 1).bind fun t168 => (if t168 < 0 then (some false) else (if t168 = bt158.1 then (some true) else (some false)))) else (some false))))) else (some false)))))
def laws_FnExactCanonicalCodes.f (k : Nat) (l0 : List Int) : Option (Bool) := if (l0.length : Int) > 1048576 then (some true) else ((laws_toIntS.f k l0).bind fun t138 => ((spec_CanonicalCodes.f k t138).bind fun t141 => ((laws_toIntS.f k l0).bind fun t144 => ((impl_CanonicalCodes.f k t144).bind fun t147 => ((laws_eqIntS.f k t147 t141).bind fun t150 => (if t150 = true then ((laws_toIntS.f k l0).bind fun t151 => ((laws_eqIntS.f k t144 t151).bind fun t154 => (if t154 = true then ((laws_markIntS.f k t144 1).bind fun bt155 => (if bt155.1 < 0 then (laws_FnExactCanonicalCodes.j0 k l0 t141 t147 true) else ((laws_eqIntS.f k t147 t141).bind fun t157 => (laws_FnExactCanonicalCodes.j0 k l0 t141 t147 (!t157))))) else (some false)))) else (some false)))))))
theorem laws_FnExactCanonicalCodes.mono_l : ∀ k, (∀ y0 y1 y2 y3, LeO (laws_FnExactCanonicalCodes.j0 k y0 y1 y2 y3) (laws_FnExactCanonicalCodes.j0 (k + 1) y0 y1 y2 y3))
  | 0 => fun _ _ _ _ r h => by simp [laws_FnExactCanonicalCodes.j0] at h
  | k + 1 => by
    have ih0 := laws_FnExactCanonicalCodes.mono_l k
    · intro y0 y1 y2 y3
      unfold laws_FnExactCanonicalCodes.j0
      repeat' first
      | (with_reducible exact ih0 _ _ _ _)
      | (with_reducible exact impl_CanonicalCodes.mono _ _)
      | (with_reducible exact laws_eqIntS.mono _ _ _)
      | (with_reducible exact laws_heldIntS.mono _ _ _)
      | (with_reducible exact laws_markIntS.mono _ _ _)
      | (with_reducible exact laws_toIntS.mono _ _)
      | (with_reducible exact spec_CanonicalCodes.mono _ _)
      | (with_reducible exact LeO.refl _)
      | (with_reducible exact LeO.none _)
      | (with_reducible refine LeO.ite ?_ ?_)
      | (with_reducible refine LeO.bind ?_ (fun _ => ?_))
      | exact ih0 _ _ _ _
      | exact impl_CanonicalCodes.mono _ _
      | exact laws_eqIntS.mono _ _ _
      | exact laws_heldIntS.mono _ _ _
      | exact laws_markIntS.mono _ _ _
      | exact laws_toIntS.mono _ _
      | exact spec_CanonicalCodes.mono _ _
      | exact LeO.none _
      | refine LeO.ite ?_ ?_
      | refine LeO.bind ?_ (fun _ => ?_)
theorem laws_FnExactCanonicalCodes.mono : ∀ a0 k, LeO (laws_FnExactCanonicalCodes.f k a0) (laws_FnExactCanonicalCodes.f (k + 1) a0) := by
  intro a0 k
  have ih0 := laws_FnExactCanonicalCodes.mono_l k
  unfold laws_FnExactCanonicalCodes.f
  repeat' first
      | (with_reducible exact ih0 _ _ _ _)
      | (with_reducible exact impl_CanonicalCodes.mono _ _)
      | (with_reducible exact laws_eqIntS.mono _ _ _)
      | (with_reducible exact laws_heldIntS.mono _ _ _)
      | (with_reducible exact laws_markIntS.mono _ _ _)
      | (with_reducible exact laws_toIntS.mono _ _)
      | (with_reducible exact spec_CanonicalCodes.mono _ _)
      | (with_reducible exact LeO.refl _)
      | (with_reducible exact LeO.none _)
      | (with_reducible refine LeO.ite ?_ ?_)
      | (with_reducible refine LeO.bind ?_ (fun _ => ?_))
      | exact ih0 _ _ _ _
      | exact impl_CanonicalCodes.mono _ _
      | exact laws_eqIntS.mono _ _ _
      | exact laws_heldIntS.mono _ _ _
      | exact laws_markIntS.mono _ _ _
      | exact laws_toIntS.mono _ _
      | exact spec_CanonicalCodes.mono _ _
      | exact LeO.none _
      | refine LeO.ite ?_ ?_
      | refine LeO.bind ?_ (fun _ => ?_)
set_option maxHeartbeats 8000000 in
set_option maxRecDepth 100000 in
theorem laws_FnExactCanonicalCodes.calls (k : Nat) (A0 : Option Addr) (c0 : Nat) (l0 : List Int) (r : Bool) (w : World) (hr0 : Kd.C (Kd.int .i64) w A0 l0.length l0) (hc0 : l0.length ≤ c0) (h : laws_FnExactCanonicalCodes.f k l0 = some r) (ht_ : Aside0 (r = true)) :
    Calls Try.prog 3 #[.slice A0 l0.length c0] w fun e w' => e = .returned (.bool r) ∧ Below w.heap.size w w' := by
  have HR0 := Aside0.mk hr0
  have HC0 := Aside0.mk hc0
  clear hr0 hc0
  have HB := Aside0.mk (Below.refl w.heap.size w)
  have H : (if (l0.length : Int) > 1048576 then (some true) else ((laws_toIntS.f k l0).bind fun t138 => ((spec_CanonicalCodes.f k t138).bind fun t141 => ((laws_toIntS.f k l0).bind fun t144 => ((impl_CanonicalCodes.f k t144).bind fun t147 => ((laws_eqIntS.f k t147 t141).bind fun t150 => (if t150 = true then ((laws_toIntS.f k l0).bind fun t151 => ((laws_eqIntS.f k t144 t151).bind fun t154 => (if t154 = true then ((laws_markIntS.f k t144 1).bind fun bt155 => (if bt155.1 < 0 then (laws_FnExactCanonicalCodes.j0 k l0 t141 t147 true) else ((laws_eqIntS.f k t147 t141).bind fun t157 => (laws_FnExactCanonicalCodes.j0 k l0 t141 t147 (!t157))))) else (some false)))) else (some false)))))))) = some r := h
  clear h
  by_cases c2 : (l0.length : Int) > 1048576
  · rw [if_pos c2] at H
    have c2b0 : decide (1048576 < (l0.length : Int)) = true := decide_eq_true c2
    have c2b1 : decide (1048576 < l0.length) = true := decide_eq_true (by omega)
    clear c2
    obtain rfl := Option.some.inj H
    simp only [Option.some.injEq, Prod.mk.injEq] at H
    obtain ⟨rfl⟩ := H
    go_enter Try.func3, Try.ntmps3
    go_wp2
    go_ret
    exact ⟨by first | rfl | (simp [errW_none, errW_some] <;> rfl) | (simp [*, errW_none, errW_some] <;> rfl), B.bl HB⟩
  rw [if_neg c2] at H
  have c2b0 : decide (1048576 < (l0.length : Int)) = false := decide_eq_false c2
  have c2b1 : decide (1048576 < l0.length) = false := decide_eq_false (by omega)
  clear c2
  replace H := Option.bind_eq_some_iff.mp H
  obtain ⟨t138, A30, H⟩ := H
  replace H : ((spec_CanonicalCodes.f k t138).bind fun t141 => ((laws_toIntS.f k l0).bind fun t144 => ((impl_CanonicalCodes.f k t144).bind fun t147 => ((laws_eqIntS.f k t147 t141).bind fun t150 => (if t150 = true then ((laws_toIntS.f k l0).bind fun t151 => ((laws_eqIntS.f k t144 t151).bind fun t154 => (if t154 = true then ((laws_markIntS.f k t144 1).bind fun bt155 => (if bt155.1 < 0 then (laws_FnExactCanonicalCodes.j0 k l0 t141 t147 true) else ((laws_eqIntS.f k t147 t141).bind fun t157 => (laws_FnExactCanonicalCodes.j0 k l0 t141 t147 (!t157))))) else (some false)))) else (some false)))))) = some r := H
  have A3 := Aside0.mk A30
  clear A30
  replace H := Option.bind_eq_some_iff.mp H
  obtain ⟨t141, A40, H⟩ := H
  replace H : ((laws_toIntS.f k l0).bind fun t144 => ((impl_CanonicalCodes.f k t144).bind fun t147 => ((laws_eqIntS.f k t147 t141).bind fun t150 => (if t150 = true then ((laws_toIntS.f k l0).bind fun t151 => ((laws_eqIntS.f k t144 t151).bind fun t154 => (if t154 = true then ((laws_markIntS.f k t144 1).bind fun bt155 => (if bt155.1 < 0 then (laws_FnExactCanonicalCodes.j0 k l0 t141 t147 true) else ((laws_eqIntS.f k t147 t141).bind fun t157 => (laws_FnExactCanonicalCodes.j0 k l0 t141 t147 (!t157))))) else (some false)))) else (some false))))) = some r := H
  have A4 := Aside0.mk A40
  clear A40
  replace H := Option.bind_eq_some_iff.mp H
  obtain ⟨t144, A50, H⟩ := H
  replace H : ((impl_CanonicalCodes.f k t144).bind fun t147 => ((laws_eqIntS.f k t147 t141).bind fun t150 => (if t150 = true then ((laws_toIntS.f k l0).bind fun t151 => ((laws_eqIntS.f k t144 t151).bind fun t154 => (if t154 = true then ((laws_markIntS.f k t144 1).bind fun bt155 => (if bt155.1 < 0 then (laws_FnExactCanonicalCodes.j0 k l0 t141 t147 true) else ((laws_eqIntS.f k t147 t141).bind fun t157 => (laws_FnExactCanonicalCodes.j0 k l0 t141 t147 (!t157))))) else (some false)))) else (some false)))) = some r := H
  have A5 := Aside0.mk A50
  clear A50
  replace H := Option.bind_eq_some_iff.mp H
  obtain ⟨t147, A60, H⟩ := H
  replace H : ((laws_eqIntS.f k t147 t141).bind fun t150 => (if t150 = true then ((laws_toIntS.f k l0).bind fun t151 => ((laws_eqIntS.f k t144 t151).bind fun t154 => (if t154 = true then ((laws_markIntS.f k t144 1).bind fun bt155 => (if bt155.1 < 0 then (laws_FnExactCanonicalCodes.j0 k l0 t141 t147 true) else ((laws_eqIntS.f k t147 t141).bind fun t157 => (laws_FnExactCanonicalCodes.j0 k l0 t141 t147 (!t157))))) else (some false)))) else (some false))) = some r := H
  have A6 := Aside0.mk A60
  clear A60
  replace H := Option.bind_eq_some_iff.mp H
  obtain ⟨t150, A70, H⟩ := H
  replace H : (if t150 = true then ((laws_toIntS.f k l0).bind fun t151 => ((laws_eqIntS.f k t144 t151).bind fun t154 => (if t154 = true then ((laws_markIntS.f k t144 1).bind fun bt155 => (if bt155.1 < 0 then (laws_FnExactCanonicalCodes.j0 k l0 t141 t147 true) else ((laws_eqIntS.f k t147 t141).bind fun t157 => (laws_FnExactCanonicalCodes.j0 k l0 t141 t147 (!t157))))) else (some false)))) else (some false)) = some r := H
  have A7 := Aside0.mk A70
  clear A70
  by_cases c8 : t150 = true
  · subst c8
    have H1 : ((laws_toIntS.f k l0).bind fun t151 => ((laws_eqIntS.f k t144 t151).bind fun t154 => (if t154 = true then ((laws_markIntS.f k t144 1).bind fun bt155 => (if bt155.1 < 0 then (laws_FnExactCanonicalCodes.j0 k l0 t141 t147 true) else ((laws_eqIntS.f k t147 t141).bind fun t157 => (laws_FnExactCanonicalCodes.j0 k l0 t141 t147 (!t157))))) else (some false)))) = some r := by rw [if_pos rfl] at H; exact H
    clear H
    have H := H1
    clear H1
    replace H := Option.bind_eq_some_iff.mp H
    obtain ⟨t151, A90, H⟩ := H
    replace H : ((laws_eqIntS.f k t144 t151).bind fun t154 => (if t154 = true then ((laws_markIntS.f k t144 1).bind fun bt155 => (if bt155.1 < 0 then (laws_FnExactCanonicalCodes.j0 k l0 t141 t147 true) else ((laws_eqIntS.f k t147 t141).bind fun t157 => (laws_FnExactCanonicalCodes.j0 k l0 t141 t147 (!t157))))) else (some false))) = some r := H
    have A9 := Aside0.mk A90
    clear A90
    replace H := Option.bind_eq_some_iff.mp H
    obtain ⟨t154, A100, H⟩ := H
    replace H : (if t154 = true then ((laws_markIntS.f k t144 1).bind fun bt155 => (if bt155.1 < 0 then (laws_FnExactCanonicalCodes.j0 k l0 t141 t147 true) else ((laws_eqIntS.f k t147 t141).bind fun t157 => (laws_FnExactCanonicalCodes.j0 k l0 t141 t147 (!t157))))) else (some false)) = some r := H
    have A10 := Aside0.mk A100
    clear A100
    by_cases c11 : t154 = true
    · subst c11
      have H1 : ((laws_markIntS.f k t144 1).bind fun bt155 => (if bt155.1 < 0 then (laws_FnExactCanonicalCodes.j0 k l0 t141 t147 true) else ((laws_eqIntS.f k t147 t141).bind fun t157 => (laws_FnExactCanonicalCodes.j0 k l0 t141 t147 (!t157))))) = some r := by rw [if_pos rfl] at H; exact H
      clear H
      have H := H1
      clear H1
      replace H := Option.bind_eq_some_iff.mp H
      obtain ⟨⟨t155, t156⟩, A120, H⟩ := H
      replace H : (if t155 < 0 then (laws_FnExactCanonicalCodes.j0 k l0 t141 t147 true) else ((laws_eqIntS.f k t147 t141).bind fun t157 => (laws_FnExactCanonicalCodes.j0 k l0 t141 t147 (!t157)))) = some r := H
      have A12 := Aside0.mk A120
      clear A120
      have HC13 := Aside0.mk H
      clear H
      go_enter Try.func3, Try.ntmps3
      go_upto_region 12 with (first | ((with_reducible refine gate_callee (f := 5) rfl ?_); refine goesL_ (some 14) rfl rfl Try.func5 (by kernel_rfl) rfl #[.slice A0 l0.length c0] rfl B.am ?_; (with_reducible refine (laws_toIntS.calls k _ _ l0 t138 _ ?side1 ?side2 A3.out).mono ?_); (case side1 => exact B.kc (HR0.out)); (case side2 => exact HC0.out); rintro e w14 ⟨v139, rfl, ho0, hb⟩; refine ⟨_, rfl, ?_⟩; have n0_ := Aside0.mk (Kd.R_lower ho0 (below_size (B.bl HB))); have n1_ := Aside0.mk (below_step (B.bl HB) hb); clear HB; have HO140 := n0_; have HB := n1_; clear n0_ n1_; (try clear hb); (try clear hb2); (try clear hk); (try clear hi); (try clear ho0); obtain ⟨Ao15, co15, eo15⟩ := Kd.R_slice HO140.out; subst eo15) | ((with_reducible refine gate_callee (f := 4) rfl ?_); refine goesL_ (some 15) rfl rfl Try.func4 (by kernel_rfl) rfl #[.slice Ao15 t138.length co15] rfl B.am ?_; (with_reducible refine (spec_CanonicalCodes.calls k _ _ t138 t141 _ ?side1 ?side2 A4.out).mono ?_); (case side1 => exact B.kc ((Kd.R_reads' HO140.out).2.2)); (case side2 => exact (Kd.R_reads' HO140.out).2.1); rintro e w16 ⟨v142, rfl, ho0, hb⟩; refine ⟨_, rfl, ?_⟩; have n0_ := Aside0.mk (Kd.R_elder' (B.kr HO140) (Kd.R_base ho0) hb); have n1_ := Aside0.mk (Kd.R_lower (Kd.R_new' ho0 (Kd.R_lt (B.kr HO140))) (below_size (B.bl HB))); have n2_ := Aside0.mk (below_step (B.bl HB) hb); clear HO140 HB; have HO140 := n0_; have HO143 := n1_; have HB := n2_; clear n0_ n1_ n2_; (try clear hb); (try clear hb2); (try clear hk); (try clear hi); (try clear ho0)) | ((with_reducible refine gate_callee (f := 5) rfl ?_); refine goesL_ (some 17) rfl rfl Try.func5 (by kernel_rfl) rfl #[.slice A0 l0.length c0] rfl B.am ?_; (with_reducible refine (laws_toIntS.calls k _ _ l0 t144 _ ?side1 ?side2 A5.out).mono ?_); (case side1 => exact B.kc (Kd.C_below HR0.out HB.out)); (case side2 => exact HC0.out); rintro e w17 ⟨v145, rfl, ho0, hb⟩; refine ⟨_, rfl, ?_⟩; have n0_ := Aside0.mk (Kd.R_elder' (B.kr HO140) (Kd.R_base ho0) hb); have n1_ := Aside0.mk (Kd.R_elder' (B.kr HO143) (Kd.R_base ho0) hb); have n2_ := Aside0.mk (Kd.R_lower (Kd.R_new' (Kd.R_new' ho0 (Kd.R_lt (B.kr HO140))) (Kd.R_lt (B.kr HO143))) (below_size (B.bl HB))); have n3_ := Aside0.mk (below_step (B.bl HB) hb); clear HO140 HO143 HB; have HO140 := n0_; have HO143 := n1_; have HO146 := n2_; have HB := n3_; clear n0_ n1_ n2_ n3_; (try clear hb); (try clear hb2); (try clear hk); (try clear hi); (try clear ho0); obtain ⟨Ao18, co18, eo18⟩ := Kd.R_slice HO146.out; subst eo18) | ((with_reducible refine gate_callee (f := 6) rfl ?_); refine goesL_ (some 19) rfl rfl Try.func6 (by kernel_rfl) rfl #[.slice Ao18 t144.length co18] rfl B.am ?_; (with_reducible refine (impl_CanonicalCodes.calls k _ _ t144 t147 _ ?side1 ?side2 A6.out).mono ?_); (case side1 => exact B.kc ((Kd.R_reads' HO146.out).2.2)); (case side2 => exact (Kd.R_reads' HO146.out).2.1); rintro e w19 ⟨v148, rfl, ho0, hb⟩; refine ⟨_, rfl, ?_⟩; have n0_ := Aside0.mk (Kd.R_elder' (B.kr HO140) (Kd.R_base ho0) hb); have n1_ := Aside0.mk (Kd.R_elder' (B.kr HO143) (Kd.R_base ho0) hb); have n2_ := Aside0.mk (Kd.R_elder' (B.kr HO146) (Kd.R_base ho0) hb); have n3_ := Aside0.mk (Kd.R_lower (Kd.R_new' (Kd.R_new' (Kd.R_new' ho0 (Kd.R_lt (B.kr HO140))) (Kd.R_lt (B.kr HO143))) (Kd.R_lt (B.kr HO146))) (below_size (B.bl HB))); have n4_ := Aside0.mk (below_step (B.bl HB) hb); clear HO140 HO143 HO146 HB; have HO140 := n0_; have HO143 := n1_; have HO146 := n2_; have HO149 := n3_; have HB := n4_; clear n0_ n1_ n2_ n3_ n4_; (try clear hb); (try clear hb2); (try clear hk); (try clear hi); (try clear ho0); obtain ⟨Ao20, co20, eo20⟩ := Kd.R_slice HO149.out; subst eo20; obtain ⟨Ao21, co21, eo21⟩ := Kd.R_slice HO143.out; subst eo21) | ((with_reducible refine gate_callee (f := 7) rfl ?_); refine goesL_ (some 22) rfl rfl Try.func7 (by kernel_rfl) rfl #[.slice Ao20 t147.length co20, .slice Ao21 t141.length co21] rfl B.am ?_; (with_reducible refine (laws_eqIntS.calls k _ _ t147 _ _ t141 true _ ?side1 ?side2 ?side3 ?side4 A7.out).mono ?_); (case side1 => exact B.kc ((Kd.R_reads' HO149.out).2.2)); (case side2 => exact (Kd.R_reads' HO149.out).2.1); (case side3 => exact B.kc ((Kd.R_reads' HO143.out).2.2)); (case side4 => exact (Kd.R_reads' HO143.out).2.1); rintro e w' ⟨rfl, ⟨nd, rfl⟩⟩; refine ⟨_, rfl, ?_⟩) | ((with_reducible refine gate_callee (f := 5) rfl ?_); refine goesL_ (some 26) rfl rfl Try.func5 (by kernel_rfl) rfl #[.slice A0 l0.length c0] rfl B.am ?_; (with_reducible refine (laws_toIntS.calls k _ _ l0 t151 _ ?side1 ?side2 A9.out).mono ?_); (case side1 => exact B.kc (Kd.C_below HR0.out (B.bl HB))); (case side2 => exact HC0.out); rintro e w22 ⟨v152, rfl, ho0, hb⟩; refine ⟨_, rfl, ?_⟩; have n0_ := Aside0.mk (Kd.R_elder' (B.kr HO140) (Kd.R_base ho0) hb); have n1_ := Aside0.mk (Kd.R_elder' (B.kr HO143) (Kd.R_base ho0) hb); have n2_ := Aside0.mk (Kd.R_elder' (B.kr HO146) (Kd.R_base ho0) hb); have n3_ := Aside0.mk (Kd.R_elder' (B.kr HO149) (Kd.R_base ho0) hb); have n4_ := Aside0.mk (Kd.R_lower (Kd.R_new' (Kd.R_new' (Kd.R_new' (Kd.R_new' ho0 (Kd.R_lt (B.kr HO140))) (Kd.R_lt (B.kr HO143))) (Kd.R_lt (B.kr HO146))) (Kd.R_lt (B.kr HO149))) (below_size (B.bl HB))); have n5_ := Aside0.mk (below_step (B.bl HB) hb); clear HO140 HO143 HO146 HO149 HB; have HO140 := n0_; have HO143 := n1_; have HO146 := n2_; have HO149 := n3_; have HO153 := n4_; have HB := n5_; clear n0_ n1_ n2_ n3_ n4_ n5_; (try clear hb); (try clear hb2); (try clear hk); (try clear hi); (try clear ho0); obtain ⟨Ao23, co23, eo23⟩ := Kd.R_slice HO153.out; subst eo23) | ((with_reducible refine gate_callee (f := 7) rfl ?_); refine goesL_ (some 27) rfl rfl Try.func7 (by kernel_rfl) rfl #[.slice Ao18 t144.length co18, .slice Ao23 t151.length co23] rfl B.am ?_; (with_reducible refine (laws_eqIntS.calls k _ _ t144 _ _ t151 true _ ?side1 ?side2 ?side3 ?side4 A10.out).mono ?_); (case side1 => exact B.kc ((Kd.R_reads' HO146.out).2.2)); (case side2 => exact (Kd.R_reads' HO146.out).2.1); (case side3 => exact B.kc ((Kd.R_reads' HO153.out).2.2)); (case side4 => exact (Kd.R_reads' HO153.out).2.1); rintro e w' ⟨rfl, ⟨nd, rfl⟩⟩; refine ⟨_, rfl, ?_⟩) | ((with_reducible refine gate_callee (f := 8) rfl ?_); refine goesL_ (some 31) rfl rfl Try.func8 (by kernel_rfl) rfl #[.slice Ao18 t144.length co18, .int .i64 1] rfl B.am ?_; (with_reducible refine (laws_markIntS.calls k (fun k_ => some k_ = (.slice Ao18 t144.length co18 : Value).ownBlock) (.slice Ao18 t144.length co18) t144 1 t155 t156 w _ ?side1 ?side2 A12.out).mono ?_); (case side1 => exact B.bl HB); (case side2 => exact Kd.R_tight rfl HO146.out); rintro e w24 ⟨rfl, hy0, hb, hkp⟩; refine ⟨_, rfl, ?_⟩; have n0_ := Aside0.mk (Kd.R_mono (ok' := fun k_ => some k_ ≠ (.slice Ao21 t141.length co21 : Value).ownBlock ∧ some k_ ≠ (.slice Ao18 t144.length co18 : Value).ownBlock ∧ some k_ ≠ (.slice Ao20 t147.length co20 : Value).ownBlock ∧ some k_ ≠ (.slice Ao23 t151.length co23 : Value).ownBlock) (Kd.R_keptB (HO140.out) hkp (fun k_ hk_ hs_ => (hk_.1.1.2) hs_)) (fun k_ hk_ => ⟨hk_.1.1.1.1.2, hk_.1.1.1.2, hk_.1.1.2, hk_.1.2⟩)); have n1_ := Aside0.mk (Kd.R_mono (ok' := fun k_ => some k_ ≠ (.slice Ao15 t138.length co15 : Value).ownBlock ∧ some k_ ≠ (.slice Ao18 t144.length co18 : Value).ownBlock ∧ some k_ ≠ (.slice Ao20 t147.length co20 : Value).ownBlock ∧ some k_ ≠ (.slice Ao23 t151.length co23 : Value).ownBlock) (Kd.R_keptB (HO143.out) hkp (fun k_ hk_ hs_ => (hk_.1.1.2) hs_)) (fun k_ hk_ => ⟨hk_.1.1.1.1.2, hk_.1.1.1.2, hk_.1.1.2, hk_.1.2⟩)); have n2_ := Aside0.mk (Kd.R_reok rfl hy0 (fun k_ e_ => HO146.out.1 k_ e_)); have n3_ := Aside0.mk (Kd.R_mono (ok' := fun k_ => some k_ ≠ (.slice Ao15 t138.length co15 : Value).ownBlock ∧ some k_ ≠ (.slice Ao21 t141.length co21 : Value).ownBlock ∧ some k_ ≠ (.slice Ao18 t144.length co18 : Value).ownBlock ∧ some k_ ≠ (.slice Ao23 t151.length co23 : Value).ownBlock) (Kd.R_keptB (HO149.out) hkp (fun k_ hk_ hs_ => (hk_.1.2) hs_)) (fun k_ hk_ => ⟨hk_.1.1.1.1.2, hk_.1.1.1.2, hk_.1.1.2, hk_.1.2⟩)); have n4_ := Aside0.mk (Kd.R_mono (ok' := fun k_ => some k_ ≠ (.slice Ao15 t138.length co15 : Value).ownBlock ∧ some k_ ≠ (.slice Ao21 t141.length co21 : Value).ownBlock ∧ some k_ ≠ (.slice Ao18 t144.length co18 : Value).ownBlock ∧ some k_ ≠ (.slice Ao20 t147.length co20 : Value).ownBlock) (Kd.R_keptB (HO153.out) hkp (fun k_ hk_ hs_ => (hk_.1.2) hs_)) (fun k_ hk_ => ⟨hk_.1.1.1.1.2, hk_.1.1.1.2, hk_.1.1.2, hk_.1.2⟩)); have n5_ := Aside0.mk (hb); clear HO140 HO143 HO146 HO149 HO153 HB; have HO140 := n0_; have HO143 := n1_; have HO146 := n2_; have HO149 := n3_; have HO153 := n4_; have HB := n5_; clear n0_ n1_ n2_ n3_ n4_ n5_; (try clear hb); (try clear hkp); (try clear hy0)))
      (try simp only [Act.put, List.setIfInBounds_toArray, List.set_cons_zero, List.set_cons_succ])
      go_cut [39] (fun v39 wc => ∃ (kq : Nat) (x39_12 : Bool), v39 = .bool x39_12 ∧ Aside0 (laws_FnExactCanonicalCodes.j0 kq l0 t141 t147 x39_12 = some r) ∧ Aside0 (kq ≤ k) ∧ Aside0 (Kd.R (Kd.int .i64) 3 wc w.heap.size (fun k_ => some k_ ≠ ((.slice Ao20 t147.length co20) : Value).ownBlock) (.slice Ao21 t141.length co21) t141) ∧ Aside0 (Kd.R (Kd.int .i64) 3 wc w.heap.size (fun k_ => some k_ ≠ ((.slice Ao21 t141.length co21) : Value).ownBlock) (.slice Ao20 t147.length co20) t147) ∧ Aside0 (Below w.heap.size w wc))
      case first =>
        have H := HC13.out
        clear HC13
        by_cases c25 : t155 < 0
        · rw [if_pos c25] at H
          have c25b0 : decide (t155 < 0) = true := decide_eq_true c25
          clear c25
          (first | rw [c25b0] | (simp only [i64_w, i32_w]; rw [c25b0]) | skip)
          exact absurd ht_.out (by revert H; cases k <;> intro H <;> simp [laws_FnExactCanonicalCodes.j0] at H <;> (first | (subst H; decide) | simp [← H] | simp [H]))
        rw [if_neg c25] at H
        have c25b0 : decide (t155 < 0) = false := decide_eq_false c25
        clear c25
        (first | rw [c25b0] | (simp only [i64_w, i32_w]; rw [c25b0]) | skip)
        replace H := Option.bind_eq_some_iff.mp H
        obtain ⟨t157, A260, H⟩ := H
        replace H : (laws_FnExactCanonicalCodes.j0 k l0 t141 t147 (!t157)) = some r := H
        have A26 := Aside0.mk A260
        clear A260
        have H' := Aside0.mk H
        clear H
        go_wp2_with (first | (go_at_call 7; (with_reducible refine (laws_eqIntS.calls k _ _ t147 _ _ t141 t157 _ ?side1 ?side2 ?side3 ?side4 A26.out).mono ?_); (case side1 => exact B.kc ((Kd.R_reads' HO149.out).2.2)); (case side2 => exact (Kd.R_reads' HO149.out).2.1); (case side3 => exact B.kc ((Kd.R_reads' HO143.out).2.2)); (case side4 => exact (Kd.R_reads' HO143.out).2.1); rintro e w' ⟨rfl, ⟨nd, rfl⟩⟩))
        go_meet
        case rel => exact ⟨_, (!t157), (by first | rfl | (simp; done) | (simp [*]; done)), H', ⟨by first | omega | exact Nat.le_refl _⟩, ⟨B.kr0 (Kd.R_mono HO143.out (fun _ hk => hk.2.2.1))⟩, ⟨B.kr0 (Kd.R_mono HO149.out (fun _ hk => hk.2.1))⟩, ⟨B.bl HB⟩⟩
      case rest =>
        clear HC13
        try clear c1
        try clear c2
        try clear c2b0
        try clear c2b1
        try clear p2
        try clear c3
        try clear c4
        try clear c5
        try clear c6
        try clear c7
        try clear c8
        try clear c11
        try clear c25
        try clear c25b0
        obtain ⟨kq, x39_12, rfl, HA, HJ12, HO_3, HO_5, HB⟩ := hcut
        cases kq with
        | zero => exact absurd HA.out (by simp [laws_FnExactCanonicalCodes.j0])
        | succ kj12 =>
          have H := HA.out
          clear HA
          simp only [laws_FnExactCanonicalCodes.j0] at H
          by_cases c27 : x39_12 = true
          · subst c27
            have H1 : (some false) = some r := by rw [if_pos rfl] at H; exact H
            clear H
            have H := H1
            clear H1
            obtain rfl := Option.some.inj H
            exact absurd ht_.out (by decide)
          replace c27 := Bool.eq_false_iff.mpr c27
          subst c27
          have H1 : ((laws_markIntS.f kj12 t147 1).bind fun bt158 => ((laws_heldIntS.f kj12 bt158.2 1).bind fun t160 => (if t160 < 0 then (some false) else (if t160 = bt158.1 then ((laws_toIntS.f kj12 l0).bind fun t161 => ((impl_CanonicalCodes.f kj12 t161).bind fun t164 => ((laws_eqIntS.f kj12 t164 t141).bind fun t167 => (if t167 = true then ((laws_heldIntS.f kj12 bt158.2 1).bind fun t168 => (if t168 < 0 then (some false) else (if t168 = bt158.1 then (some true) else (some false)))) else (some false))))) else (some false))))) = some r := by rw [if_neg (show ¬ (false = true) by decide)] at H; exact H
          clear H
          have H := H1
          clear H1
          replace H := Option.bind_eq_some_iff.mp H
          obtain ⟨⟨t158, t159⟩, A280, H⟩ := H
          replace H : ((laws_heldIntS.f kj12 t159 1).bind fun t160 => (if t160 < 0 then (some false) else (if t160 = t158 then ((laws_toIntS.f kj12 l0).bind fun t161 => ((impl_CanonicalCodes.f kj12 t161).bind fun t164 => ((laws_eqIntS.f kj12 t164 t141).bind fun t167 => (if t167 = true then ((laws_heldIntS.f kj12 t159 1).bind fun t168 => (if t168 < 0 then (some false) else (if t168 = t158 then (some true) else (some false)))) else (some false))))) else (some false)))) = some r := H
          have A28 := Aside0.mk A280
          clear A280
          replace H := Option.bind_eq_some_iff.mp H
          obtain ⟨t160, A290, H⟩ := H
          replace H : (if t160 < 0 then (some false) else (if t160 = t158 then ((laws_toIntS.f kj12 l0).bind fun t161 => ((impl_CanonicalCodes.f kj12 t161).bind fun t164 => ((laws_eqIntS.f kj12 t164 t141).bind fun t167 => (if t167 = true then ((laws_heldIntS.f kj12 t159 1).bind fun t168 => (if t168 < 0 then (some false) else (if t168 = t158 then (some true) else (some false)))) else (some false))))) else (some false))) = some r := H
          have A29 := Aside0.mk A290
          clear A290
          by_cases c30 : t160 < 0
          · rw [if_pos c30] at H
            have c30b0 : decide (t160 < 0) = true := decide_eq_true c30
            clear c30
            obtain rfl := Option.some.inj H
            exact absurd ht_.out (by decide)
          rw [if_neg c30] at H
          have c30b0 : decide (t160 < 0) = false := decide_eq_false c30
          clear c30
          by_cases c31 : t160 = t158
          · rw [if_pos c31] at H
            have c31b0 : (t160 == t158) = true := beq_iff_eq.mpr c31
            have c31b1 : (t160 != t158) = false := bne_eq_false_iff_eq.mpr c31
            clear c31
            replace H := Option.bind_eq_some_iff.mp H
            obtain ⟨t161, A320, H⟩ := H
            replace H : ((impl_CanonicalCodes.f kj12 t161).bind fun t164 => ((laws_eqIntS.f kj12 t164 t141).bind fun t167 => (if t167 = true then ((laws_heldIntS.f kj12 t159 1).bind fun t168 => (if t168 < 0 then (some false) else (if t168 = t158 then (some true) else (some false)))) else (some false)))) = some r := H
            have A32 := Aside0.mk A320
            clear A320
            replace H := Option.bind_eq_some_iff.mp H
            obtain ⟨t164, A330, H⟩ := H
            replace H : ((laws_eqIntS.f kj12 t164 t141).bind fun t167 => (if t167 = true then ((laws_heldIntS.f kj12 t159 1).bind fun t168 => (if t168 < 0 then (some false) else (if t168 = t158 then (some true) else (some false)))) else (some false))) = some r := H
            have A33 := Aside0.mk A330
            clear A330
            replace H := Option.bind_eq_some_iff.mp H
            obtain ⟨t167, A340, H⟩ := H
            replace H : (if t167 = true then ((laws_heldIntS.f kj12 t159 1).bind fun t168 => (if t168 < 0 then (some false) else (if t168 = t158 then (some true) else (some false)))) else (some false)) = some r := H
            have A34 := Aside0.mk A340
            clear A340
            by_cases c35 : t167 = true
            · subst c35
              have H1 : ((laws_heldIntS.f kj12 t159 1).bind fun t168 => (if t168 < 0 then (some false) else (if t168 = t158 then (some true) else (some false)))) = some r := by rw [if_pos rfl] at H; exact H
              clear H
              have H := H1
              clear H1
              replace H := Option.bind_eq_some_iff.mp H
              obtain ⟨t168, A360, H⟩ := H
              replace H : (if t168 < 0 then (some false) else (if t168 = t158 then (some true) else (some false))) = some r := H
              have A36 := Aside0.mk A360
              clear A360
              by_cases c37 : t168 < 0
              · rw [if_pos c37] at H
                have c37b0 : decide (t168 < 0) = true := decide_eq_true c37
                clear c37
                obtain rfl := Option.some.inj H
                exact absurd ht_.out (by decide)
              rw [if_neg c37] at H
              have c37b0 : decide (t168 < 0) = false := decide_eq_false c37
              clear c37
              by_cases c38 : t168 = t158
              · rw [if_pos c38] at H
                have c38b0 : (t168 == t158) = true := beq_iff_eq.mpr c38
                have c38b1 : (t168 != t158) = false := bne_eq_false_iff_eq.mpr c38
                clear c38
                obtain rfl := Option.some.inj H
                simp only [Option.some.injEq, Prod.mk.injEq] at H
                obtain ⟨rfl⟩ := H
                go_wp2_with (first | ((with_reducible refine gate_callee (f := 8) rfl ?_); refine goesL_ (some 42) rfl rfl Try.func8 (by kernel_rfl) rfl #[.slice Ao20 t147.length co20, .int .i64 1] rfl B.am ?_; (with_reducible refine (laws_markIntS.calls kj12 (fun k_ => some k_ = (.slice Ao20 t147.length co20 : Value).ownBlock) (.slice Ao20 t147.length co20) t147 1 t158 t159 w _ ?side1 ?side2 A28.out).mono ?_); (case side1 => exact B.bl HB); (case side2 => exact Kd.R_tight rfl HO_5.out); rintro e w39 ⟨rfl, hy0, hb, hkp⟩; refine ⟨_, rfl, ?_⟩; have n0_ := Aside0.mk (Kd.R_mono (ok' := fun k_ => some k_ ≠ (.slice Ao20 t147.length co20 : Value).ownBlock) (Kd.R_keptB (HO_3.out) hkp (fun k_ hk_ hs_ => (hk_) hs_)) (fun k_ hk_ => hk_.1)); have n1_ := Aside0.mk (Kd.R_reok rfl hy0 (fun k_ e_ => HO_5.out.1 k_ e_)); have n2_ := Aside0.mk (hb); clear HO_3 HO_5 HB; have HO_3 := n0_; have HO_5 := n1_; have HB := n2_; clear n0_ n1_ n2_; (try clear hb); (try clear hkp); (try clear hy0)) | ((with_reducible refine gate_callee (f := 9) rfl ?_); refine goesL_ (some 45) rfl rfl Try.func9 (by kernel_rfl) rfl #[.slice Ao20 t159.length co20, .int .i64 1] rfl (by (try simp only [List.map_toArray, List.map_cons, List.map_nil]); first | done | (rw [show t159.length = t147.length from (Kd.R_reads' HO_5.out).1.symm] <;> rfl) | rfl | (simp only [List.length_drop, List.length_take]; rfl)) ?_; (with_reducible refine (laws_heldIntS.calls kj12 _ _ t159 1 t160 _ ?side1 ?side2 A29.out).mono ?_); (case side1 => exact B.kc ((Kd.R_reads' HO_5.out).2.2)); (case side2 => rw [show t159.length = t147.length from (Kd.R_reads' HO_5.out).1.symm]; exact (Kd.R_reads' HO_5.out).2.1); rintro e w' ⟨rfl, ⟨nd, rfl⟩⟩; refine ⟨_, rfl, ?_⟩) | ((with_reducible refine gate_callee (f := 5) rfl ?_); refine goesL_ (some 52) rfl rfl Try.func5 (by kernel_rfl) rfl #[.slice A0 l0.length c0] rfl B.am ?_; (with_reducible refine (laws_toIntS.calls kj12 _ _ l0 t161 _ ?side1 ?side2 A32.out).mono ?_); (case side1 => exact B.kc (Kd.C_below HR0.out (B.bl HB))); (case side2 => exact HC0.out); rintro e w40 ⟨v162, rfl, ho0, hb⟩; refine ⟨_, rfl, ?_⟩; have n0_ := Aside0.mk (Kd.R_elder' (B.kr HO_3) (Kd.R_base ho0) hb); have n1_ := Aside0.mk (Kd.R_elder' (B.kr HO_5) (Kd.R_base ho0) hb); have n2_ := Aside0.mk (Kd.R_lower (Kd.R_new' (Kd.R_new' ho0 (Kd.R_lt (B.kr HO_3))) (Kd.R_lt (B.kr HO_5))) (below_size (B.bl HB))); have n3_ := Aside0.mk (below_step (B.bl HB) hb); clear HO_3 HO_5 HB; have HO_3 := n0_; have HO_5 := n1_; have HO163 := n2_; have HB := n3_; clear n0_ n1_ n2_ n3_; (try clear hb); (try clear hb2); (try clear hk); (try clear hi); (try clear ho0); obtain ⟨Ao41, co41, eo41⟩ := Kd.R_slice HO163.out; subst eo41) | ((with_reducible refine gate_callee (f := 6) rfl ?_); refine goesL_ (some 53) rfl rfl Try.func6 (by kernel_rfl) rfl #[.slice Ao41 t161.length co41] rfl B.am ?_; (with_reducible refine (impl_CanonicalCodes.calls kj12 _ _ t161 t164 _ ?side1 ?side2 A33.out).mono ?_); (case side1 => exact B.kc ((Kd.R_reads' HO163.out).2.2)); (case side2 => exact (Kd.R_reads' HO163.out).2.1); rintro e w42 ⟨v165, rfl, ho0, hb⟩; refine ⟨_, rfl, ?_⟩; have n0_ := Aside0.mk (Kd.R_elder' (B.kr HO_3) (Kd.R_base ho0) hb); have n1_ := Aside0.mk (Kd.R_elder' (B.kr HO_5) (Kd.R_base ho0) hb); have n2_ := Aside0.mk (Kd.R_elder' (B.kr HO163) (Kd.R_base ho0) hb); have n3_ := Aside0.mk (Kd.R_lower (Kd.R_new' (Kd.R_new' (Kd.R_new' ho0 (Kd.R_lt (B.kr HO_3))) (Kd.R_lt (B.kr HO_5))) (Kd.R_lt (B.kr HO163))) (below_size (B.bl HB))); have n4_ := Aside0.mk (below_step (B.bl HB) hb); clear HO_3 HO_5 HO163 HB; have HO_3 := n0_; have HO_5 := n1_; have HO163 := n2_; have HO166 := n3_; have HB := n4_; clear n0_ n1_ n2_ n3_ n4_; (try clear hb); (try clear hb2); (try clear hk); (try clear hi); (try clear ho0); obtain ⟨Ao43, co43, eo43⟩ := Kd.R_slice HO166.out; subst eo43) | ((with_reducible refine gate_callee (f := 7) rfl ?_); refine goesL_ (some 56) rfl rfl Try.func7 (by kernel_rfl) rfl #[.slice Ao43 t164.length co43, .slice Ao21 t141.length co21] rfl B.am ?_; (with_reducible refine (laws_eqIntS.calls kj12 _ _ t164 _ _ t141 true _ ?side1 ?side2 ?side3 ?side4 A34.out).mono ?_); (case side1 => exact B.kc ((Kd.R_reads' HO166.out).2.2)); (case side2 => exact (Kd.R_reads' HO166.out).2.1); (case side3 => exact B.kc ((Kd.R_reads' HO_3.out).2.2)); (case side4 => exact (Kd.R_reads' HO_3.out).2.1); rintro e w' ⟨rfl, ⟨nd, rfl⟩⟩; refine ⟨_, rfl, ?_⟩) | ((with_reducible refine gate_callee (f := 9) rfl ?_); refine goesL_ (some 60) rfl rfl Try.func9 (by kernel_rfl) rfl #[.slice Ao20 t159.length co20, .int .i64 1] rfl (by (try simp only [List.map_toArray, List.map_cons, List.map_nil]); first | done | (rw [show t159.length = t147.length from (Kd.R_reads' HO_5.out).1.symm] <;> rfl) | rfl | (simp only [List.length_drop, List.length_take]; rfl)) ?_; (with_reducible refine (laws_heldIntS.calls kj12 _ _ t159 1 t168 _ ?side1 ?side2 A36.out).mono ?_); (case side1 => exact B.kc ((Kd.R_reads' HO_5.out).2.2)); (case side2 => rw [show t159.length = t147.length from (Kd.R_reads' HO_5.out).1.symm]; exact (Kd.R_reads' HO_5.out).2.1); rintro e w' ⟨rfl, ⟨nd, rfl⟩⟩; refine ⟨_, rfl, ?_⟩))
                go_ret
                exact ⟨by first | rfl | (simp [errW_none, errW_some] <;> rfl) | (simp [*, errW_none, errW_some] <;> rfl), B.bl HB⟩
              rw [if_neg c38] at H
              have c38b0 : (t168 == t158) = false := beq_eq_false_iff_ne.mpr c38
              have c38b1 : (t168 != t158) = true := bne_iff_ne.mpr c38
              obtain rfl := Option.some.inj H
              exact absurd ht_.out (by decide)
            replace c35 := Bool.eq_false_iff.mpr c35
            subst c35
            have H1 : (some false) = some r := by rw [if_neg (show ¬ (false = true) by decide)] at H; exact H
            clear H
            have H := H1
            clear H1
            obtain rfl := Option.some.inj H
            exact absurd ht_.out (by decide)
          rw [if_neg c31] at H
          have c31b0 : (t160 == t158) = false := beq_eq_false_iff_ne.mpr c31
          have c31b1 : (t160 != t158) = true := bne_iff_ne.mpr c31
          obtain rfl := Option.some.inj H
          exact absurd ht_.out (by decide)
    replace c11 := Bool.eq_false_iff.mpr c11
    subst c11
    have H1 : (some false) = some r := by rw [if_neg (show ¬ (false = true) by decide)] at H; exact H
    clear H
    have H := H1
    clear H1
    obtain rfl := Option.some.inj H
    exact absurd ht_.out (by decide)
  replace c8 := Bool.eq_false_iff.mpr c8
  subst c8
  have H1 : (some false) = some r := by rw [if_neg (show ¬ (false = true) by decide)] at H; exact H
  clear H
  have H := H1
  clear H1
  obtain rfl := Option.some.inj H
  exact absurd ht_.out (by decide)

/-- THE ONE PURE STATEMENT of laws_FnExactCanonicalCodes: yours. -/
def laws_FnExactCanonicalCodes.Pure : Prop := ∀ (l0 : List Int), l0.length ≤ maxLen → l0.length * 8 ≤ 140737488351232 → (∀ x ∈ l0, (Lit.int .i64 x).wf = true) → ∃ k, laws_FnExactCanonicalCodes.f k l0 = some true
theorem laws_FnExactCanonicalCodes.walk (P : laws_FnExactCanonicalCodes.Pure) (a0 : Option Addr) (len0 cap0 : Nat) (z0 : List Int) (w : World) (w0 : (a0 = none ∧ len0 = 0 ∧ cap0 = 0 ∧ z0 = []) ∨ ∃ x, a0 = some x ∧ len0 ≤ cap0 ∧ cap0 ≤ maxLen ∧ z0.length = cap0 ∧ (∀ i, i < z0.length → w.cell? (x.add i) = some (.int .i64 (z0.getD i 0))) ∧ ∀ n ∈ z0, (Lit.int .i64 n).wf = true) (y0 : len0 * 8 ≤ 140737488351232) :
    Calls Try.prog 3 #[.slice a0 len0 cap0] w fun e w' => e = .returned (.bool true) ∧ Below w.heap.size w w' := by
  obtain ⟨l0, rfl, hr0, hm0, hw0, hc0⟩ := ReadsInt.ofRowC w0
  obtain ⟨k, h⟩ := P l0 hm0 y0 hw0
  refine (laws_FnExactCanonicalCodes.calls k _ _ l0 true w (Kd.C_of_reads (d := (0 : Int)) (h1 := fun _ => rfl) hr0) hc0 h ⟨rfl⟩).mono ?_
  rintro e w' ⟨rfl, hd⟩
  exact ⟨rfl, hd⟩

end Go.Proofs.Ytepifjggnfaeoaa.Q
