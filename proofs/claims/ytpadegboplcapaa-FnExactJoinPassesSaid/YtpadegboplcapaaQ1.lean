-- Written by a program of this session (the kit's printer, with hand-proved contracts for the functions that it does not take).
import Derived.Test.YtpadegboplcapaaQ0
namespace Go.Proofs.Ytpadegboplcapaa.Q
open Go.RowKit Go.Proofs.YtpadegboplcapaaW.PrintWords Go.Proofs.YtpadegboplcapaaW.PrintLast Go.Proofs.YtpadegboplcapaaW.PrintMore
attribute [local go_sem] max2_int min2_int max_two min_two max_three min_three max_four min_four   -- for this text's walks alone
set_option linter.unusedVariables false
set_option linter.unusedSimpArgs false

/-! ### impl_passOf: function 39 (by hand) -/
-- GIVEN loop.example/pixelworks/impl.passOf
-- ROUNDS no
-- MAKING yes
def passT (k : Int) : Int × Int × Int × Int := if k = 0 then (0, 0, 8, 8) else if k = 1 then (4, 0, 8, 8) else if k = 2 then (0, 4, 4, 8) else if k = 3 then (2, 0, 4, 4) else if k = 4 then (0, 2, 2, 4) else if k = 5 then (1, 0, 2, 2) else (0, 1, 1, 2)
def impl_passOf.f (a0 : Int) : Option (Int × Int × Int × Int) := if 0 ≤ a0 ∧ a0 ≤ 6 then some (passT a0) else none
set_option maxHeartbeats 2000000 in
theorem passOf_0 (w : World) : Calls Try.prog 39 #[.int .i64 0] w fun e w' => e = .returned (.agg #[.int .i64 0, .int .i64 0, .int .i64 8, .int .i64 8]) ∧ Below w.heap.size w w' := by
  have i0 : ∀ w : World, Sem.run Try.prog (Instr.index 71 (.agg #[.int .i64 0, .int .i64 0, .int .i64 8, .int .i64 8, .int .i64 4, .int .i64 0, .int .i64 8, .int .i64 8, .int .i64 0, .int .i64 4, .int .i64 4, .int .i64 8, .int .i64 2, .int .i64 0, .int .i64 4, .int .i64 4, .int .i64 0, .int .i64 2, .int .i64 2, .int .i64 4, .int .i64 1, .int .i64 0, .int .i64 2, .int .i64 2, .int .i64 0, .int .i64 1, .int .i64 1, .int .i64 2]) (.int .i64 0)) w = .ok (.agg #[.int .i64 0, .int .i64 0, .int .i64 8, .int .i64 8]) w := fun _ => by kernel_rfl
  go_enter Try.func39, Try.ntmps39
  go_wp2
  exact bodyPost_ret (v := .agg #[.int .i64 0, .int .i64 0, .int .i64 8, .int .i64 8]) (by simp [results, Try.results39, go_sem]) rfl ⟨rfl, (Below.refl _ _).alloc (Nat.le_refl _) _⟩
set_option maxHeartbeats 2000000 in
theorem passOf_1 (w : World) : Calls Try.prog 39 #[.int .i64 1] w fun e w' => e = .returned (.agg #[.int .i64 4, .int .i64 0, .int .i64 8, .int .i64 8]) ∧ Below w.heap.size w w' := by
  have i0 : ∀ w : World, Sem.run Try.prog (Instr.index 71 (.agg #[.int .i64 0, .int .i64 0, .int .i64 8, .int .i64 8, .int .i64 4, .int .i64 0, .int .i64 8, .int .i64 8, .int .i64 0, .int .i64 4, .int .i64 4, .int .i64 8, .int .i64 2, .int .i64 0, .int .i64 4, .int .i64 4, .int .i64 0, .int .i64 2, .int .i64 2, .int .i64 4, .int .i64 1, .int .i64 0, .int .i64 2, .int .i64 2, .int .i64 0, .int .i64 1, .int .i64 1, .int .i64 2]) (.int .i64 1)) w = .ok (.agg #[.int .i64 4, .int .i64 0, .int .i64 8, .int .i64 8]) w := fun _ => by kernel_rfl
  go_enter Try.func39, Try.ntmps39
  go_wp2
  exact bodyPost_ret (v := .agg #[.int .i64 4, .int .i64 0, .int .i64 8, .int .i64 8]) (by simp [results, Try.results39, go_sem]) rfl ⟨rfl, (Below.refl _ _).alloc (Nat.le_refl _) _⟩
set_option maxHeartbeats 2000000 in
theorem passOf_2 (w : World) : Calls Try.prog 39 #[.int .i64 2] w fun e w' => e = .returned (.agg #[.int .i64 0, .int .i64 4, .int .i64 4, .int .i64 8]) ∧ Below w.heap.size w w' := by
  have i0 : ∀ w : World, Sem.run Try.prog (Instr.index 71 (.agg #[.int .i64 0, .int .i64 0, .int .i64 8, .int .i64 8, .int .i64 4, .int .i64 0, .int .i64 8, .int .i64 8, .int .i64 0, .int .i64 4, .int .i64 4, .int .i64 8, .int .i64 2, .int .i64 0, .int .i64 4, .int .i64 4, .int .i64 0, .int .i64 2, .int .i64 2, .int .i64 4, .int .i64 1, .int .i64 0, .int .i64 2, .int .i64 2, .int .i64 0, .int .i64 1, .int .i64 1, .int .i64 2]) (.int .i64 2)) w = .ok (.agg #[.int .i64 0, .int .i64 4, .int .i64 4, .int .i64 8]) w := fun _ => by kernel_rfl
  go_enter Try.func39, Try.ntmps39
  go_wp2
  exact bodyPost_ret (v := .agg #[.int .i64 0, .int .i64 4, .int .i64 4, .int .i64 8]) (by simp [results, Try.results39, go_sem]) rfl ⟨rfl, (Below.refl _ _).alloc (Nat.le_refl _) _⟩
set_option maxHeartbeats 2000000 in
theorem passOf_3 (w : World) : Calls Try.prog 39 #[.int .i64 3] w fun e w' => e = .returned (.agg #[.int .i64 2, .int .i64 0, .int .i64 4, .int .i64 4]) ∧ Below w.heap.size w w' := by
  have i0 : ∀ w : World, Sem.run Try.prog (Instr.index 71 (.agg #[.int .i64 0, .int .i64 0, .int .i64 8, .int .i64 8, .int .i64 4, .int .i64 0, .int .i64 8, .int .i64 8, .int .i64 0, .int .i64 4, .int .i64 4, .int .i64 8, .int .i64 2, .int .i64 0, .int .i64 4, .int .i64 4, .int .i64 0, .int .i64 2, .int .i64 2, .int .i64 4, .int .i64 1, .int .i64 0, .int .i64 2, .int .i64 2, .int .i64 0, .int .i64 1, .int .i64 1, .int .i64 2]) (.int .i64 3)) w = .ok (.agg #[.int .i64 2, .int .i64 0, .int .i64 4, .int .i64 4]) w := fun _ => by kernel_rfl
  go_enter Try.func39, Try.ntmps39
  go_wp2
  exact bodyPost_ret (v := .agg #[.int .i64 2, .int .i64 0, .int .i64 4, .int .i64 4]) (by simp [results, Try.results39, go_sem]) rfl ⟨rfl, (Below.refl _ _).alloc (Nat.le_refl _) _⟩
set_option maxHeartbeats 2000000 in
theorem passOf_4 (w : World) : Calls Try.prog 39 #[.int .i64 4] w fun e w' => e = .returned (.agg #[.int .i64 0, .int .i64 2, .int .i64 2, .int .i64 4]) ∧ Below w.heap.size w w' := by
  have i0 : ∀ w : World, Sem.run Try.prog (Instr.index 71 (.agg #[.int .i64 0, .int .i64 0, .int .i64 8, .int .i64 8, .int .i64 4, .int .i64 0, .int .i64 8, .int .i64 8, .int .i64 0, .int .i64 4, .int .i64 4, .int .i64 8, .int .i64 2, .int .i64 0, .int .i64 4, .int .i64 4, .int .i64 0, .int .i64 2, .int .i64 2, .int .i64 4, .int .i64 1, .int .i64 0, .int .i64 2, .int .i64 2, .int .i64 0, .int .i64 1, .int .i64 1, .int .i64 2]) (.int .i64 4)) w = .ok (.agg #[.int .i64 0, .int .i64 2, .int .i64 2, .int .i64 4]) w := fun _ => by kernel_rfl
  go_enter Try.func39, Try.ntmps39
  go_wp2
  exact bodyPost_ret (v := .agg #[.int .i64 0, .int .i64 2, .int .i64 2, .int .i64 4]) (by simp [results, Try.results39, go_sem]) rfl ⟨rfl, (Below.refl _ _).alloc (Nat.le_refl _) _⟩
set_option maxHeartbeats 2000000 in
theorem passOf_5 (w : World) : Calls Try.prog 39 #[.int .i64 5] w fun e w' => e = .returned (.agg #[.int .i64 1, .int .i64 0, .int .i64 2, .int .i64 2]) ∧ Below w.heap.size w w' := by
  have i0 : ∀ w : World, Sem.run Try.prog (Instr.index 71 (.agg #[.int .i64 0, .int .i64 0, .int .i64 8, .int .i64 8, .int .i64 4, .int .i64 0, .int .i64 8, .int .i64 8, .int .i64 0, .int .i64 4, .int .i64 4, .int .i64 8, .int .i64 2, .int .i64 0, .int .i64 4, .int .i64 4, .int .i64 0, .int .i64 2, .int .i64 2, .int .i64 4, .int .i64 1, .int .i64 0, .int .i64 2, .int .i64 2, .int .i64 0, .int .i64 1, .int .i64 1, .int .i64 2]) (.int .i64 5)) w = .ok (.agg #[.int .i64 1, .int .i64 0, .int .i64 2, .int .i64 2]) w := fun _ => by kernel_rfl
  go_enter Try.func39, Try.ntmps39
  go_wp2
  exact bodyPost_ret (v := .agg #[.int .i64 1, .int .i64 0, .int .i64 2, .int .i64 2]) (by simp [results, Try.results39, go_sem]) rfl ⟨rfl, (Below.refl _ _).alloc (Nat.le_refl _) _⟩
set_option maxHeartbeats 2000000 in
theorem passOf_6 (w : World) : Calls Try.prog 39 #[.int .i64 6] w fun e w' => e = .returned (.agg #[.int .i64 0, .int .i64 1, .int .i64 1, .int .i64 2]) ∧ Below w.heap.size w w' := by
  have i0 : ∀ w : World, Sem.run Try.prog (Instr.index 71 (.agg #[.int .i64 0, .int .i64 0, .int .i64 8, .int .i64 8, .int .i64 4, .int .i64 0, .int .i64 8, .int .i64 8, .int .i64 0, .int .i64 4, .int .i64 4, .int .i64 8, .int .i64 2, .int .i64 0, .int .i64 4, .int .i64 4, .int .i64 0, .int .i64 2, .int .i64 2, .int .i64 4, .int .i64 1, .int .i64 0, .int .i64 2, .int .i64 2, .int .i64 0, .int .i64 1, .int .i64 1, .int .i64 2]) (.int .i64 6)) w = .ok (.agg #[.int .i64 0, .int .i64 1, .int .i64 1, .int .i64 2]) w := fun _ => by kernel_rfl
  go_enter Try.func39, Try.ntmps39
  go_wp2
  exact bodyPost_ret (v := .agg #[.int .i64 0, .int .i64 1, .int .i64 1, .int .i64 2]) (by simp [results, Try.results39, go_sem]) rfl ⟨rfl, (Below.refl _ _).alloc (Nat.le_refl _) _⟩
theorem impl_passOf.calls (a0 : Int) (r1 : Int) (r2 : Int) (r3 : Int) (r4 : Int) (w : World) (h : impl_passOf.f a0 = some (r1, r2, r3, r4)) :
    Calls Try.prog 39 #[.int .i64 a0] w fun e w' => e = .returned (.agg #[.int .i64 r1, .int .i64 r2, .int .i64 r3, .int .i64 r4]) ∧ Below w.heap.size w w' := by
  unfold impl_passOf.f at h
  by_cases hk : 0 ≤ a0 ∧ a0 ≤ 6
  · rw [if_pos hk] at h
    have h := Option.some.inj h
    have hc : a0 = 0 ∨ a0 = 1 ∨ a0 = 2 ∨ a0 = 3 ∨ a0 = 4 ∨ a0 = 5 ∨ a0 = 6 := by omega
    clear hk
    rcases hc with rfl | rfl | rfl | rfl | rfl | rfl | rfl
    · obtain ⟨rfl, rfl, rfl, rfl⟩ : (0 : Int) = r1 ∧ (0 : Int) = r2 ∧ (8 : Int) = r3 ∧ (8 : Int) = r4 := by
        have e : passT 0 = (0, 0, 8, 8) := by decide
        rw [e] at h
        simpa using h
      exact passOf_0 w
    · obtain ⟨rfl, rfl, rfl, rfl⟩ : (4 : Int) = r1 ∧ (0 : Int) = r2 ∧ (8 : Int) = r3 ∧ (8 : Int) = r4 := by
        have e : passT 1 = (4, 0, 8, 8) := by decide
        rw [e] at h
        simpa using h
      exact passOf_1 w
    · obtain ⟨rfl, rfl, rfl, rfl⟩ : (0 : Int) = r1 ∧ (4 : Int) = r2 ∧ (4 : Int) = r3 ∧ (8 : Int) = r4 := by
        have e : passT 2 = (0, 4, 4, 8) := by decide
        rw [e] at h
        simpa using h
      exact passOf_2 w
    · obtain ⟨rfl, rfl, rfl, rfl⟩ : (2 : Int) = r1 ∧ (0 : Int) = r2 ∧ (4 : Int) = r3 ∧ (4 : Int) = r4 := by
        have e : passT 3 = (2, 0, 4, 4) := by decide
        rw [e] at h
        simpa using h
      exact passOf_3 w
    · obtain ⟨rfl, rfl, rfl, rfl⟩ : (0 : Int) = r1 ∧ (2 : Int) = r2 ∧ (2 : Int) = r3 ∧ (4 : Int) = r4 := by
        have e : passT 4 = (0, 2, 2, 4) := by decide
        rw [e] at h
        simpa using h
      exact passOf_4 w
    · obtain ⟨rfl, rfl, rfl, rfl⟩ : (1 : Int) = r1 ∧ (0 : Int) = r2 ∧ (2 : Int) = r3 ∧ (2 : Int) = r4 := by
        have e : passT 5 = (1, 0, 2, 2) := by decide
        rw [e] at h
        simpa using h
      exact passOf_5 w
    · obtain ⟨rfl, rfl, rfl, rfl⟩ : (0 : Int) = r1 ∧ (1 : Int) = r2 ∧ (1 : Int) = r3 ∧ (2 : Int) = r4 := by
        have e : passT 6 = (0, 1, 1, 2) := by decide
        rw [e] at h
        simpa using h
      exact passOf_6 w
  · rw [if_neg hk] at h
    exact absurd h (by simp)

/-! ### impl_every: function 57 -/
def impl_every.l0 : Nat → Int → Int → List Int → Int → Option (List Int)
  | 0, _, _, _, _ => none
  | k + 1, x1, x2, x7, x8 => if x8 < x2 then (if x7.length < 17592186044416 then (impl_every.l0 k x1 x2 (x7 ++ [x8]) (wrap64 (x8 + x1))) else (none)) else (some x7)
def impl_every.f (k : Nat) (a0 : Int) (a1 : Int) (a2 : Int) : Option (List Int) := impl_every.l0 k a1 a2 (([] : List Int)) a0
theorem impl_every.mono_l : ∀ k, (∀ y0 y1 y2 y3, LeO (impl_every.l0 k y0 y1 y2 y3) (impl_every.l0 (k + 1) y0 y1 y2 y3))
  | 0 => fun _ _ _ _ r h => by simp [impl_every.l0] at h
  | k + 1 => by
    have ih0 := impl_every.mono_l k
    · intro y0 y1 y2 y3
      unfold impl_every.l0
      repeat' first
      | (with_reducible exact ih0 _ _ _ _)
      | (with_reducible exact LeO.refl _)
      | (with_reducible exact LeO.none _)
      | (with_reducible refine LeO.ite ?_ ?_)
      | (with_reducible refine LeO.bind ?_ (fun _ => ?_))
      | exact ih0 _ _ _ _
      | exact LeO.none _
      | refine LeO.ite ?_ ?_
      | refine LeO.bind ?_ (fun _ => ?_)
theorem impl_every.mono : ∀ a0 a1 a2 k, LeO (impl_every.f k a0 a1 a2) (impl_every.f (k + 1) a0 a1 a2) := by
  intro a0 a1 a2 k
  have ih0 := impl_every.mono_l k
  unfold impl_every.f
  repeat' first
      | (with_reducible exact ih0 _ _ _ _)
      | (with_reducible exact LeO.refl _)
      | (with_reducible exact LeO.none _)
      | (with_reducible refine LeO.ite ?_ ?_)
      | (with_reducible refine LeO.bind ?_ (fun _ => ?_))
      | exact ih0 _ _ _ _
      | exact LeO.none _
      | refine LeO.ite ?_ ?_
      | refine LeO.bind ?_ (fun _ => ?_)
set_option maxHeartbeats 8000000 in
set_option maxRecDepth 100000 in
theorem impl_every.calls (k : Nat) (a0 : Int) (a1 : Int) (a2 : Int) (r : List Int) (w : World) (h : impl_every.f k a0 a1 a2 = some r) :
    Calls Try.prog 57 #[.int .i64 a0, .int .i64 a1, .int .i64 a2] w fun e w' => ∃ v0_ : Value, e = .returned (v0_) ∧ Kd.R (Kd.int .i64) 3 w' w.heap.size (fun _ => True) v0_ r ∧ Below w.heap.size w w' := by
  have HB := Aside0.mk (Below.refl w.heap.size w)
  have H : (impl_every.l0 k a1 a2 (([] : List Int)) a0) = some r := h
  clear h
  obtain ⟨y101, hy101⟩ : ∃ y_ : List Int, y_ = (([] : List Int)) := ⟨_, rfl⟩
  replace H : (impl_every.l0 k a1 a2 y101 a0) = some r := by first | (rw [hy101]; with_reducible exact H) | (have H2_ := (Option.bind_some _ _).symm.trans H; rw [hy101]; with_reducible exact H2_) | (have H2_ := (Option.bind_some _ _).symm.trans H; with_reducible exact H2_) | with_reducible exact H | (rw [hy101]; exact H) | exact H
  have Ny101 := Aside0.mk hy101
  clear hy101
  have H' := Aside0.mk H
  clear H
  go_enter Try.func57, Try.ntmps57
  go_wp2_with (first | ((with_reducible refine gate_dst (N := 9) rfl ?_); refine Kd.R_lit (Kd.int .i64) _ 3 ?hg (N := 9) ?hd (xs := ([] : List Int)) (inner := []) (ok := fun _ => True) (okp := fun _ => True) ?hr ?hp (fun _ hk => hk) trivial (Below.refl _ _) (Nat.le_refl _) (by simp) ?_; (case hd => rfl); (case hg => rfl); (case hr => first | (go_simp; done) | (go_simp; rfl)); (case hp => exact (Reps.none _ _)); intro v102 w4 ho5 hb hg_ hnew_; clear hg_ hnew_; (first | rw [← Ny101.out] at ho5 | (simp only [Int.reduceToNat] at ho5; rw [← Ny101.out] at ho5)); have n0_ := Aside0.mk (Kd.R_lower ho5 (below_size (B.bl HB))); have n1_ := Aside0.mk (below_step (B.bl HB) hb); clear HB; have HO103 := n0_; have HB := n1_; clear n0_ n1_; clear hb ho5))
  go_loopg [7, 8] k (fun kq v7 v8 w' => ∃ (x7_1 : List Int) (x8_1 : Int), v8 = .int .i64 x8_1 ∧ Aside0 (impl_every.l0 kq a1 a2 x7_1 x8_1 = some r) ∧ Aside0 (kq ≤ k) ∧ Aside0 (Kd.R (Kd.int .i64) 3 w' w.heap.size (fun _ => True) v7 x7_1) ∧ Aside0 (Below w.heap.size w w'))
  case atStart => exact ⟨(y101), (a0), (by first | rfl | (simp; done) | (simp [*]; done)), H', ⟨Nat.le_refl _⟩, ⟨B.kr HO103⟩, ⟨B.bl HB⟩⟩
  case round =>
    clear H'
    try clear p2
    try clear c5
    obtain ⟨x7_1, x8_1, rfl, HA, HK1, HO_7, HB⟩ := hrel
    cases gk with
    | zero => exact absurd HA.out (by simp [impl_every.l0])
    | succ k1 =>
      have H := HA.out
      clear HA
      simp only [impl_every.l0] at H
      by_cases c6 : x8_1 < a2
      · rw [if_pos c6] at H
        have c6b0 : decide (x8_1 < a2) = true := decide_eq_true c6
        clear c6
        by_cases c7 : x7_1.length < 17592186044416
        · rw [if_pos c7] at H
          have LMc7 := Aside0.mk c7
          clear c7
          obtain ⟨y104, hy104⟩ : ∃ y_ : List Int, y_ = (x7_1 ++ [x8_1]) := ⟨_, rfl⟩
          replace H : (impl_every.l0 k1 a1 a2 y104 (wrap64 (x8_1 + a1))) = some r := by first | (rw [hy104]; with_reducible exact H) | (have H2_ := (Option.bind_some _ _).symm.trans H; rw [hy104]; with_reducible exact H2_) | (have H2_ := (Option.bind_some _ _).symm.trans H; with_reducible exact H2_) | with_reducible exact H | (rw [hy104]; exact H) | exact H
          have Ny104 := Aside0.mk hy104
          clear hy104
          have H' := Aside0.mk H
          clear H
          go_wp2_with (first | ((with_reducible refine gate_builtin (b := .append) (xs := #[.tmp 17, .tmp 19]) rfl ?_); at_builtin; refine Kd.R_append (Kd.int .i64) (w0 := w) w.heap.size rfl (.tmp 17) (.tmp 19) 32 3 (.int .i64 0) 8 rfl Try.underlying32 info3 rfl (by decide) (by omega) u7 x7_1 x8_1 [.int .i64 x8_1] (fun _ => True) (fun _ => False) rfl rfl ?aP (fun _ hk => hk.elim) ?aF ?aO ?aB ?aS ?aL ?_; (case aP => exact rfl); (case aB => exact (B.bl HB)); (case aF => exact (fun _ _ => trivial)); (case aO => exact (B.kr HO_7)); (case aS => exact (below_size (B.bl HB))); (case aL => have := LMc7.out; omega); intro v105 w8 ho hb hg hat; rw [← Ny104.out] at ho; have n0_ := Aside0.mk (hb); have n1_ := Aside0.mk (ho); clear HB HO_7; have HB := n0_; have HO106 := n1_; clear n0_ n1_; clear ho hb hg hat))
          go_roundg k1
          case measure => have := HK1.out; omega
          case rel => exact ⟨(y104), (wrap64 (x8_1 + a1)), (by first | rfl | (simp; done) | (simp [*]; done)), H', ⟨by have := HK1.out; omega⟩, ⟨B.kr HO106⟩, ⟨B.bl HB⟩⟩
        rw [if_neg c7] at H
        exact absurd H (by simp)
      rw [if_neg c6] at H
      have c6b0 : decide (x8_1 < a2) = false := decide_eq_false c6
      clear c6
      obtain rfl := Option.some.inj H
      simp only [Option.some.injEq, Prod.mk.injEq] at H
      obtain ⟨rfl⟩ := H
      go_wp2
      go_ret
      exact ⟨_, by first | rfl | (simp [errW_none, errW_some] <;> rfl) | (simp [*, errW_none, errW_some] <;> rfl), by (with_reducible repeat (first | apply Kd.R_alloc | apply Kd.R_drewN | apply Kd.R_drew)); exact HO_7.out, B.bl HB⟩

/-! ### impl_pass_columns: function 40 -/
def impl_pass_columns.f (k : Nat) (a0_0 : Int) (a0_1 : Int) (a0_2 : Int) (a0_3 : Int) (a1 : Int) : Option (List Int) := (impl_every.f k a0_0 a0_2 a1).bind fun t108 => (some t108)
theorem impl_pass_columns.mono : ∀ a0 a1 a2 a3 a4 k, LeO (impl_pass_columns.f k a0 a1 a2 a3 a4) (impl_pass_columns.f (k + 1) a0 a1 a2 a3 a4) := by
  intro a0 a1 a2 a3 a4 k
  unfold impl_pass_columns.f
  repeat' first
      | (with_reducible exact impl_every.mono _ _ _ _)
      | (with_reducible exact LeO.refl _)
      | (with_reducible exact LeO.none _)
      | (with_reducible refine LeO.ite ?_ ?_)
      | (with_reducible refine LeO.bind ?_ (fun _ => ?_))
      | exact impl_every.mono _ _ _ _
      | exact LeO.none _
      | refine LeO.ite ?_ ?_
      | refine LeO.bind ?_ (fun _ => ?_)
set_option maxHeartbeats 8000000 in
set_option maxRecDepth 100000 in
theorem impl_pass_columns.calls (k : Nat) (a0_0 : Int) (a0_1 : Int) (a0_2 : Int) (a0_3 : Int) (a1 : Int) (r : List Int) (w : World) (h : impl_pass_columns.f k a0_0 a0_1 a0_2 a0_3 a1 = some r) :
    Calls Try.prog 40 #[.agg #[.int .i64 a0_0, .int .i64 a0_1, .int .i64 a0_2, .int .i64 a0_3], .int .i64 a1] w fun e w' => ∃ v0_ : Value, e = .returned (v0_) ∧ Kd.R (Kd.int .i64) 3 w' w.heap.size (fun _ => True) v0_ r ∧ Below w.heap.size w w' := by
  have hu56 := Try.underlying56
  have HB := Aside0.mk (Below.refl w.heap.size w)
  have H : ((impl_every.f k a0_0 a0_2 a1).bind fun t108 => (some t108)) = some r := h
  clear h
  replace H := Option.bind_eq_some_iff.mp H
  obtain ⟨t108, A30, H⟩ := H
  replace H : (some t108) = some r := H
  have A3 := Aside0.mk A30
  clear A30
  obtain rfl := Option.some.inj H
  simp only [Option.some.injEq, Prod.mk.injEq] at H
  obtain ⟨rfl⟩ := H
  go_enter Try.func40, Try.ntmps40
  go_wp2_with (first | ((with_reducible refine gate_dst (N := 2) rfl ?_); refine box_event ?hg (N := 2) ?hd (cs := #[.int .i64 a0_0, .int .i64 a0_1, .int .i64 a0_2, .int .i64 a0_3]) (t := 56) ?hr ?_; (case hd => rfl); (case hg => rfl); (case hr => first | (go_simp; done) | (go_simp; rfl)); intro gb107 hg w4 hbox hb; have n0_ := Aside0.mk (below_step (B.bl HB) hb); have n1_ := Aside0.mk (hbox); have n2_ := Aside0.mk (B.nle hg (below_size (B.bl HB))); have n3_ := Aside0.mk (B.nle hg (below_size (B.bl HB))); clear HB; have HB := n0_; have BK107 := n1_; have GW107 := n2_; have GE107 := n3_; clear n0_ n1_ n2_ n3_; clear hb hbox hg; have hcz5_0 : w4.cell? ⟨gb107, 0, none⟩ = some (.int .i64 a0_0) := B.bc BK107 0; have hcz5_1 : w4.cell? ⟨gb107, 1, none⟩ = some (.int .i64 a0_1) := B.bc BK107 1; have hcz5_2 : w4.cell? ⟨gb107, 2, none⟩ = some (.int .i64 a0_2) := B.bc BK107 2; have hcz5_3 : w4.cell? ⟨gb107, 3, none⟩ = some (.int .i64 a0_3) := B.bc BK107 3; have hfz5_0 := blk_frozen BK107.out 0; have hfz5_1 := blk_frozen BK107.out 1; have hfz5_2 := blk_frozen BK107.out 2; have hfz5_3 := blk_frozen BK107.out 3) | ((with_reducible refine gate_callee (f := 57) rfl ?_); refine goesL_ (some 10) rfl rfl Try.func57 (by kernel_rfl) rfl #[.int .i64 a0_0, .int .i64 a0_2, .int .i64 a1] rfl B.am ?_; (with_reducible refine (impl_every.calls k a0_0 a0_2 a1 t108 _ A3.out).mono ?_); rintro e w6 ⟨v109, rfl, ho0, hb⟩; refine ⟨_, rfl, ?_⟩; have n0_ := Aside0.mk (Kd.R_lower ho0 (below_size (B.bl HB))); have n1_ := Aside0.mk (blk_below (B.kb BK107) hb); have n2_ := Aside0.mk (below_step (B.bl HB) hb); clear BK107 HB; have HO110 := n0_; have BK107 := n1_; have HB := n2_; clear n0_ n1_ n2_; (try clear hb); (try clear hb2); (try clear hk); (try clear hi); (try clear ho0)))
  go_ret
  exact ⟨_, by first | rfl | (simp [errW_none, errW_some] <;> rfl) | (simp [*, errW_none, errW_some] <;> rfl), by (with_reducible repeat (first | apply Kd.R_alloc | apply Kd.R_drewN | apply Kd.R_drew)); exact HO110.out, B.bl HB⟩

/-! ### impl_pass_rows: function 41 -/
def impl_pass_rows.f (k : Nat) (a0_0 : Int) (a0_1 : Int) (a0_2 : Int) (a0_3 : Int) (a1 : Int) : Option (List Int) := (impl_every.f k a0_1 a0_3 a1).bind fun t112 => (some t112)
theorem impl_pass_rows.mono : ∀ a0 a1 a2 a3 a4 k, LeO (impl_pass_rows.f k a0 a1 a2 a3 a4) (impl_pass_rows.f (k + 1) a0 a1 a2 a3 a4) := by
  intro a0 a1 a2 a3 a4 k
  unfold impl_pass_rows.f
  repeat' first
      | (with_reducible exact impl_every.mono _ _ _ _)
      | (with_reducible exact LeO.refl _)
      | (with_reducible exact LeO.none _)
      | (with_reducible refine LeO.ite ?_ ?_)
      | (with_reducible refine LeO.bind ?_ (fun _ => ?_))
      | exact impl_every.mono _ _ _ _
      | exact LeO.none _
      | refine LeO.ite ?_ ?_
      | refine LeO.bind ?_ (fun _ => ?_)
set_option maxHeartbeats 8000000 in
set_option maxRecDepth 100000 in
theorem impl_pass_rows.calls (k : Nat) (a0_0 : Int) (a0_1 : Int) (a0_2 : Int) (a0_3 : Int) (a1 : Int) (r : List Int) (w : World) (h : impl_pass_rows.f k a0_0 a0_1 a0_2 a0_3 a1 = some r) :
    Calls Try.prog 41 #[.agg #[.int .i64 a0_0, .int .i64 a0_1, .int .i64 a0_2, .int .i64 a0_3], .int .i64 a1] w fun e w' => ∃ v0_ : Value, e = .returned (v0_) ∧ Kd.R (Kd.int .i64) 3 w' w.heap.size (fun _ => True) v0_ r ∧ Below w.heap.size w w' := by
  have hu56 := Try.underlying56
  have HB := Aside0.mk (Below.refl w.heap.size w)
  have H : ((impl_every.f k a0_1 a0_3 a1).bind fun t112 => (some t112)) = some r := h
  clear h
  replace H := Option.bind_eq_some_iff.mp H
  obtain ⟨t112, A30, H⟩ := H
  replace H : (some t112) = some r := H
  have A3 := Aside0.mk A30
  clear A30
  obtain rfl := Option.some.inj H
  simp only [Option.some.injEq, Prod.mk.injEq] at H
  obtain ⟨rfl⟩ := H
  go_enter Try.func41, Try.ntmps41
  go_wp2_with (first | ((with_reducible refine gate_dst (N := 2) rfl ?_); refine box_event ?hg (N := 2) ?hd (cs := #[.int .i64 a0_0, .int .i64 a0_1, .int .i64 a0_2, .int .i64 a0_3]) (t := 56) ?hr ?_; (case hd => rfl); (case hg => rfl); (case hr => first | (go_simp; done) | (go_simp; rfl)); intro gb111 hg w4 hbox hb; have n0_ := Aside0.mk (below_step (B.bl HB) hb); have n1_ := Aside0.mk (hbox); have n2_ := Aside0.mk (B.nle hg (below_size (B.bl HB))); have n3_ := Aside0.mk (B.nle hg (below_size (B.bl HB))); clear HB; have HB := n0_; have BK111 := n1_; have GW111 := n2_; have GE111 := n3_; clear n0_ n1_ n2_ n3_; clear hb hbox hg; have hcz5_0 : w4.cell? ⟨gb111, 0, none⟩ = some (.int .i64 a0_0) := B.bc BK111 0; have hcz5_1 : w4.cell? ⟨gb111, 1, none⟩ = some (.int .i64 a0_1) := B.bc BK111 1; have hcz5_2 : w4.cell? ⟨gb111, 2, none⟩ = some (.int .i64 a0_2) := B.bc BK111 2; have hcz5_3 : w4.cell? ⟨gb111, 3, none⟩ = some (.int .i64 a0_3) := B.bc BK111 3; have hfz5_0 := blk_frozen BK111.out 0; have hfz5_1 := blk_frozen BK111.out 1; have hfz5_2 := blk_frozen BK111.out 2; have hfz5_3 := blk_frozen BK111.out 3) | ((with_reducible refine gate_callee (f := 57) rfl ?_); refine goesL_ (some 10) rfl rfl Try.func57 (by kernel_rfl) rfl #[.int .i64 a0_1, .int .i64 a0_3, .int .i64 a1] rfl B.am ?_; (with_reducible refine (impl_every.calls k a0_1 a0_3 a1 t112 _ A3.out).mono ?_); rintro e w6 ⟨v113, rfl, ho0, hb⟩; refine ⟨_, rfl, ?_⟩; have n0_ := Aside0.mk (Kd.R_lower ho0 (below_size (B.bl HB))); have n1_ := Aside0.mk (blk_below (B.kb BK111) hb); have n2_ := Aside0.mk (below_step (B.bl HB) hb); clear BK111 HB; have HO114 := n0_; have BK111 := n1_; have HB := n2_; clear n0_ n1_ n2_; (try clear hb); (try clear hb2); (try clear hk); (try clear hi); (try clear ho0)))
  go_ret
  exact ⟨_, by first | rfl | (simp [errW_none, errW_some] <;> rfl) | (simp [*, errW_none, errW_some] <;> rfl), by (with_reducible repeat (first | apply Kd.R_alloc | apply Kd.R_drewN | apply Kd.R_drew)); exact HO114.out, B.bl HB⟩

/-! ### impl_isSide: function 38 -/
def impl_isSide.f (a0 : Int) : Option (Bool) := if a0 ≥ 1 then (some (decide (a0 ≤ 16))) else (some false)
set_option maxHeartbeats 8000000 in
set_option maxRecDepth 100000 in
theorem impl_isSide.calls (a0 : Int) (r : Bool) (w : World) (h : impl_isSide.f a0 = some r) :
    Calls Try.prog 38 #[.int .i64 a0] w fun e w' => e = .returned (.bool r) ∧ Drawn0 w w' := by
  have H : (if a0 ≥ 1 then (some (decide (a0 ≤ 16))) else (some false)) = some r := h
  clear h
  by_cases c2 : a0 ≥ 1
  · rw [if_pos c2] at H
    have c2b0 : decide (1 ≤ a0) = true := decide_eq_true c2
    clear c2
    obtain rfl := Option.some.inj H
    simp only [Option.some.injEq, Prod.mk.injEq] at H
    obtain ⟨rfl⟩ := H
    go_enter Try.func38, Try.ntmps38
    go_wp2
    go_ret
    exact ⟨by first | rfl | (simp; done) | (simp [*]; done), by repeat (first | exact Drawn0.refl _ | apply Drawn0.step)⟩
  rw [if_neg c2] at H
  have c2b0 : decide (1 ≤ a0) = false := decide_eq_false c2
  clear c2
  obtain rfl := Option.some.inj H
  simp only [Option.some.injEq, Prod.mk.injEq] at H
  obtain ⟨rfl⟩ := H
  go_enter Try.func38, Try.ntmps38
  go_wp2
  go_ret
  exact ⟨by first | rfl | (simp; done) | (simp [*]; done), by repeat (first | exact Drawn0.refl _ | apply Drawn0.step)⟩

/-! ### impl_isShape: function 46 -/
def impl_isShape.f (a0 : Int) (a1 : Int) (a2 : Int) : Option (Bool) := (impl_isSide.f a0).bind fun t115 => (if t115 = true then ((impl_isSide.f a1).bind fun t116 => (if t116 = true then (if a2 ≥ 1 then (some (decide (a2 ≤ 4))) else (some false)) else (some false))) else (some false))
set_option maxHeartbeats 8000000 in
set_option maxRecDepth 100000 in
theorem impl_isShape.calls (a0 : Int) (a1 : Int) (a2 : Int) (r : Bool) (w : World) (h : impl_isShape.f a0 a1 a2 = some r) :
    Calls Try.prog 46 #[.int .i64 a0, .int .i64 a1, .int .i64 a2] w fun e w' => e = .returned (.bool r) ∧ Drawn0 w w' := by
  have H : ((impl_isSide.f a0).bind fun t115 => (if t115 = true then ((impl_isSide.f a1).bind fun t116 => (if t116 = true then (if a2 ≥ 1 then (some (decide (a2 ≤ 4))) else (some false)) else (some false))) else (some false))) = some r := h
  clear h
  replace H := Option.bind_eq_some_iff.mp H
  obtain ⟨t115, A40, H⟩ := H
  replace H : (if t115 = true then ((impl_isSide.f a1).bind fun t116 => (if t116 = true then (if a2 ≥ 1 then (some (decide (a2 ≤ 4))) else (some false)) else (some false))) else (some false)) = some r := H
  have A4 := Aside0.mk A40
  clear A40
  by_cases c5 : t115 = true
  · subst c5
    have H1 : ((impl_isSide.f a1).bind fun t116 => (if t116 = true then (if a2 ≥ 1 then (some (decide (a2 ≤ 4))) else (some false)) else (some false))) = some r := by rw [if_pos rfl] at H; exact H
    clear H
    have H := H1
    clear H1
    replace H := Option.bind_eq_some_iff.mp H
    obtain ⟨t116, A60, H⟩ := H
    replace H : (if t116 = true then (if a2 ≥ 1 then (some (decide (a2 ≤ 4))) else (some false)) else (some false)) = some r := H
    have A6 := Aside0.mk A60
    clear A60
    by_cases c7 : t116 = true
    · subst c7
      have H1 : (if a2 ≥ 1 then (some (decide (a2 ≤ 4))) else (some false)) = some r := by rw [if_pos rfl] at H; exact H
      clear H
      have H := H1
      clear H1
      by_cases c8 : a2 ≥ 1
      · rw [if_pos c8] at H
        have c8b0 : decide (1 ≤ a2) = true := decide_eq_true c8
        clear c8
        obtain rfl := Option.some.inj H
        simp only [Option.some.injEq, Prod.mk.injEq] at H
        obtain ⟨rfl⟩ := H
        go_enter Try.func46, Try.ntmps46
        go_wp2_with (first | ((with_reducible refine gate_callee (f := 38) rfl ?_); refine goesL_ (some 8) rfl rfl Try.func38 (by kernel_rfl) rfl #[.int .i64 a0] rfl B.am ?_; (with_reducible refine (impl_isSide.calls a0 true _ A4.out).mono ?_); rintro e w' ⟨rfl, ⟨nd, rfl⟩⟩; refine ⟨_, rfl, ?_⟩) | (go_at_call 38; (with_reducible refine (impl_isSide.calls a1 true _ A6.out).mono ?_); rintro e w' ⟨rfl, ⟨nd, rfl⟩⟩))
        go_ret
        exact ⟨by first | rfl | (simp; done) | (simp [*]; done), by repeat (first | exact Drawn0.refl _ | apply Drawn0.step)⟩
      rw [if_neg c8] at H
      have c8b0 : decide (1 ≤ a2) = false := decide_eq_false c8
      clear c8
      obtain rfl := Option.some.inj H
      simp only [Option.some.injEq, Prod.mk.injEq] at H
      obtain ⟨rfl⟩ := H
      go_enter Try.func46, Try.ntmps46
      go_wp2_with (first | ((with_reducible refine gate_callee (f := 38) rfl ?_); refine goesL_ (some 8) rfl rfl Try.func38 (by kernel_rfl) rfl #[.int .i64 a0] rfl B.am ?_; (with_reducible refine (impl_isSide.calls a0 true _ A4.out).mono ?_); rintro e w' ⟨rfl, ⟨nd, rfl⟩⟩; refine ⟨_, rfl, ?_⟩) | (go_at_call 38; (with_reducible refine (impl_isSide.calls a1 true _ A6.out).mono ?_); rintro e w' ⟨rfl, ⟨nd, rfl⟩⟩))
      go_ret
      exact ⟨by first | rfl | (simp; done) | (simp [*]; done), by repeat (first | exact Drawn0.refl _ | apply Drawn0.step)⟩
    replace c7 := Bool.eq_false_iff.mpr c7
    subst c7
    have H1 : (some false) = some r := by rw [if_neg (show ¬ (false = true) by decide)] at H; exact H
    clear H
    have H := H1
    clear H1
    obtain rfl := Option.some.inj H
    simp only [Option.some.injEq, Prod.mk.injEq] at H
    obtain ⟨rfl⟩ := H
    go_enter Try.func46, Try.ntmps46
    go_wp2_with (first | ((with_reducible refine gate_callee (f := 38) rfl ?_); refine goesL_ (some 8) rfl rfl Try.func38 (by kernel_rfl) rfl #[.int .i64 a0] rfl B.am ?_; (with_reducible refine (impl_isSide.calls a0 true _ A4.out).mono ?_); rintro e w' ⟨rfl, ⟨nd, rfl⟩⟩; refine ⟨_, rfl, ?_⟩) | (go_at_call 38; (with_reducible refine (impl_isSide.calls a1 false _ A6.out).mono ?_); rintro e w' ⟨rfl, ⟨nd, rfl⟩⟩))
    go_ret
    exact ⟨by first | rfl | (simp; done) | (simp [*]; done), by repeat (first | exact Drawn0.refl _ | apply Drawn0.step)⟩
  replace c5 := Bool.eq_false_iff.mpr c5
  subst c5
  have H1 : (some false) = some r := by rw [if_neg (show ¬ (false = true) by decide)] at H; exact H
  clear H
  have H := H1
  clear H1
  obtain rfl := Option.some.inj H
  simp only [Option.some.injEq, Prod.mk.injEq] at H
  obtain ⟨rfl⟩ := H
  go_enter Try.func46, Try.ntmps46
  go_wp2_with (first | ((with_reducible refine gate_callee (f := 38) rfl ?_); refine goesL_ (some 8) rfl rfl Try.func38 (by kernel_rfl) rfl #[.int .i64 a0] rfl B.am ?_; (with_reducible refine (impl_isSide.calls a0 false _ A4.out).mono ?_); rintro e w' ⟨rfl, ⟨nd, rfl⟩⟩; refine ⟨_, rfl, ?_⟩))
  go_ret
  exact ⟨by first | rfl | (simp; done) | (simp [*]; done), by repeat (first | exact Drawn0.refl _ | apply Drawn0.step)⟩

/-! ### slices_IndexFunc_int_int: function 68 (by hand) -/
-- GIVEN slices.IndexFunc[[]int,int]
-- AUX yes
theorem call_enters {f : FuncId} {fn : Func} {c : Code} (hf : Try.prog.funcs[f]? = some fn) (hname : (fn.name == "runtime.NumGoroutine") = false) (hb : fn.body = some c) : ∀ args w, (callFunc f args).run Try.prog w = .ok (.enter f args) w := by
  intro args w
  have h1 : fn.name ≠ "runtime.NumGoroutine" := by simpa using hname
  simp [callFunc, hf, h1, hb, mark]
/-- What is asked of a function value of one whole number: in every later world it answers p and turns nothing. -/
def PredG (g : Nat) (lb : Array Value) (p : Int → Bool) (w : World) : Prop :=
  ∀ (W : World) (x : Int), Below w.heap.size w W → Calls Try.prog g (#[.int .i64 x] ++ lb) W fun e w' => e = .returned (.bool (p x)) ∧ ∃ q, w' = W.drewN q
def idxOf (p : Int → Bool) (l : List Int) : Int := match l.findIdx? p with
  | some i => (i : Int)
  | none => -1
theorem idxOf_hit (p : Int → Bool) (l : List Int) (x : Int) (h0 : 0 ≤ x) (hx : x < (l.length : Int)) (hp : p (rd l x) = true) (hn : ∀ j, j < x.toNat → p (l.getD j 0) = false) : idxOf p l = x := by
  obtain ⟨i, rfl⟩ := Int.eq_ofNat_of_zero_le h0
  have hi : i < l.length := by omega
  have e : l.findIdx? p = some i := by
    rw [List.findIdx?_eq_some_iff_getElem]
    refine ⟨hi, by simpa [rd, hi] using hp, fun j hj => ?_⟩
    have := hn j (by omega)
    simpa [show j < l.length by omega] using this
  unfold idxOf
  rw [e]
theorem idxOf_miss (p : Int → Bool) (l : List Int) (hn : ∀ j, j < l.length → p (l.getD j 0) = false) : idxOf p l = -1 := by
  have e : l.findIdx? p = none := by
    rw [List.findIdx?_eq_none_iff]
    intro x hx
    obtain ⟨j, hj, rfl⟩ := List.mem_iff_getElem.1 hx
    have := hn j hj
    simpa [hj] using this
  unfold idxOf
  rw [e]
theorem idxOf_any (p : Int → Bool) (l : List Int) : decide (0 ≤ idxOf p l) = l.any p := by
  unfold idxOf
  cases e : l.findIdx? p with
  | none =>
    rw [List.findIdx?_eq_none_iff] at e
    have : l.any p = false := by
      rw [List.any_eq_false]
      intro x hx
      simp [e x hx]
    rw [this]
    decide
  | some i =>
    rw [List.findIdx?_eq_some_iff_getElem] at e
    obtain ⟨hi, hp, _⟩ := e
    have : l.any p = true := List.any_eq_true.2 ⟨l[i], List.getElem_mem _, hp⟩
    rw [this]
    simp
set_option maxHeartbeats 2000000 in
theorem indexFunc_calls (A0 : Option Addr) (c0 : Nat) (l0 : List Int) (g : Nat) (lb : Array Value) (eg : ∀ args w, (callFunc g args).run Try.prog w = .ok (.enter g args) w) (p : Int → Bool) (w : World) (hp : PredG g lb p w)
    (hr0 : Kd.C (Kd.int .i64) w A0 l0.length l0) (hl : l0.length ≤ 9223372036854775807) :
    Calls Try.prog 68 #[.slice A0 l0.length c0, .func (.func g) #[] lb] w fun e w' => e = .returned (.int .i64 (idxOf p l0)) ∧ ∃ q, w' = w.drewN q := by
  have HR0 := Aside0.mk hr0
  have HL := Aside0.mk hl
  clear hr0 hl
  have hpAt : ∀ (x : Int) (q : Nat), Calls Try.prog g (#[.int .i64 x] ++ lb) (w.drewN q) fun e w' => e = .returned (.bool (p x)) ∧ ∃ q', w' = (w.drewN q).drewN q' := fun x q => hp _ x (pw_below_drewN (Below.refl _ w) q)
  clear hp
  go_enter Try.func68, Try.ntmps68
  go_wp2
  go_loopg [5, 8] l0.length (fun gg _ s8 wr => ∃ (x8 : Int) (q : Nat), s8 = .int .i64 x8 ∧ Aside0 (0 ≤ x8 ∧ x8 ≤ (l0.length : Int) ∧ ∀ j, j < x8.toNat → p (l0.getD j 0) = false) ∧ Aside0 (l0.length - x8.toNat ≤ gg) ∧ wr = w.drewN q)
  case atStart => exact ⟨0, 0, rfl, ⟨by omega, by omega, fun j hj => absurd hj (by simp)⟩, ⟨by omega⟩, rfl⟩
  case round =>
    obtain ⟨x8, q, rfl, HA, HG, rfl⟩ := hrel
    by_cases c4 : x8 < (l0.length : Int)
    · have p1 : 0 ≤ x8 := HA.out.1
      obtain ⟨ad, e1, hx⟩ := Kd.at_int HR0.out x8 p1 c4
      cases e1
      have c4b0 : decide (x8 < (l0.length : Int)) = true := decide_eq_true c4
      have HC4 := Aside0.mk c4
      clear c4
      replace p1 := eq_true p1
      have q1 := eq_true HC4.out
      generalize hy : rd l0 x8 = y at hx
      have HY := Aside0.mk hy
      clear hy
      have hcall := hpAt y
      have hw : wrap64 (x8 + 1) = x8 + 1 := by unfold wrap64; have := HA.out.1; have := HL.out; have := HC4.out; omega
      have HW := Aside0.mk hw
      clear hw
      cases hq : p y with
      | true =>
        rw [hq] at hcall
        have HQ := Aside0.mk hq
        clear hq
        go_wp2_with fail
        refine (hcall _).mono ?_
        rintro e w' ⟨rfl, q', rfl⟩
        go_wp2
        go_ret
        refine ⟨?_, _, rfl⟩
        rw [idxOf_hit p l0 x8 HA.out.1 HC4.out (by rw [HY.out]; exact HQ.out) HA.out.2.2]
        rfl
      | false =>
        rw [hq] at hcall
        have HQ := Aside0.mk hq
        clear hq
        go_wp2_with fail
        refine (hcall _).mono ?_
        rintro e w' ⟨rfl, q', rfl⟩
        go_wp2
        go_roundg (l0.length - (x8 + 1).toNat)
        case measure => have := HG.out; have := HA.out.1; have := HC4.out; omega
        case rel =>
          refine ⟨wrap64 (x8 + 1), _, rfl, ⟨?_⟩, ⟨?_⟩, rfl⟩
          · rw [HW.out]
            refine ⟨by have := HA.out.1; omega, by have := HC4.out; omega, fun j hj => ?_⟩
            by_cases e : j = x8.toNat
            · subst e
              have := HQ.out
              rw [← HY.out] at this
              exact this
            · exact HA.out.2.2 j (by have := HA.out.1; omega)
          · rw [HW.out]; exact Nat.le_refl _
    · have c4b0 : decide (x8 < (l0.length : Int)) = false := decide_eq_false c4
      have HC4 := Aside0.mk c4
      clear c4
      go_wp2
      go_ret
      refine ⟨?_, q, rfl⟩
      rw [idxOf_miss p l0 (fun j hj => HA.out.2.2 j (by have := HC4.out; omega))]
      rfl

/-! ### slices_ContainsFunc_int_int: function 63 (by hand) -/
-- GIVEN slices.ContainsFunc[[]int,int]
-- AUX yes
set_option maxHeartbeats 2000000 in
theorem containsFunc_calls (A0 : Option Addr) (c0 : Nat) (l0 : List Int) (g : Nat) (lb : Array Value) (eg : ∀ args w, (callFunc g args).run Try.prog w = .ok (.enter g args) w) (p : Int → Bool) (w : World) (hp : PredG g lb p w)
    (hr0 : Kd.C (Kd.int .i64) w A0 l0.length l0) (hl : l0.length ≤ 9223372036854775807) :
    Calls Try.prog 63 #[.slice A0 l0.length c0, .func (.func g) #[] lb] w fun e w' => e = .returned (.bool (l0.any p)) ∧ ∃ q, w' = w.drewN q := by
  rw [← idxOf_any]
  have HC := indexFunc_calls A0 c0 l0 g lb eg p w hp hr0 hl
  clear hp hr0 hl eg
  generalize idxOf p l0 = i at HC
  go_enter Try.func63, Try.ntmps63
  go_wp2_with (go_at_call 68; refine HC.mono ?_; rintro e w' ⟨rfl, q, rfl⟩)
  go_ret
  exact ⟨rfl, q, rfl⟩

/-! ### impl_areBytes: function 47 (by hand) -/
-- GIVEN loop.example/pixelworks/impl.areBytes
-- ROUNDS no
-- MAKING no
def notByte (n : Int) : Bool := decide (n < 0) || decide (n > 255)
def impl_areBytes.f (l0 : List Int) : Option (Bool) := some (!l0.any notByte)
theorem notByte_pred (w : World) : PredG 64 #[] notByte w := fun W x _ => by
  by_cases h1 : x < 0
  · have e : notByte x = true := by simp [notByte, h1]
    rw [e]
    have b1 : decide (x < 0) = true := decide_eq_true h1
    go_enter Try.func64, Try.ntmps64
    go_wp2
    go_ret
    exact ⟨rfl, 0, rfl⟩
  · have e : notByte x = decide (255 < x) := by simp [notByte, h1]
    rw [e]
    have b1 : decide (x < 0) = false := decide_eq_false h1
    go_enter Try.func64, Try.ntmps64
    go_wp2
    go_ret
    exact ⟨rfl, 0, rfl⟩
theorem impl_areBytes.calls (A0 : Option Addr) (c0 : Nat) (l0 : List Int) (r : Bool) (w : World) (hr0 : Kd.C (Kd.int .i64) w A0 l0.length l0) (hc0 : l0.length ≤ c0) (h : impl_areBytes.f l0 = some r) :
    Calls Try.prog 47 #[.slice A0 l0.length c0] w fun e w' => e = .returned (.bool r) ∧ Drawn0 w w' := by
  obtain rfl : (!l0.any notByte) = r := Option.some.inj h
  have hl : l0.length ≤ 9223372036854775807 := Kd.C_max hr0
  have HC := containsFunc_calls A0 c0 l0 64 #[] (call_enters Try.func64 (by kernel_rfl) rfl) notByte w (notByte_pred w) hr0 hl
  clear hr0 hc0 hl h
  generalize l0.any notByte = b at HC
  go_enter Try.func47, Try.ntmps47
  go_wp2_with (go_at_call 63; refine HC.mono ?_; rintro e w' ⟨rfl, q, rfl⟩)
  go_ret
  exact ⟨rfl, ⟨q, rfl⟩⟩

/-! ### impl_Image_at: function 48 (by hand) -/
-- GIVEN (loop.example/pixelworks/impl.Image).at
-- AUX yes
set_option maxHeartbeats 2000000 in
theorem at_calls (a0_0 a0_1 a0_2 ax ay : Int) (A0 : Option Addr) (c0 : Nat) (D : List Int) (w : World) (ho : B.ImgI a0_0 a0_1 a0_2 D) (hx : 0 ≤ ax ∧ ax < a0_0) (hy : 0 ≤ ay ∧ ay < a0_1)
    (hr : Kd.C (Kd.int .i64) w A0 D.length D) (hc : D.length ≤ c0) :
    Calls Try.prog 48 #[.agg #[.int .i64 a0_0, .int .i64 a0_1, .int .i64 a0_2, .slice A0 D.length c0], .int .i64 ax, .int .i64 ay] w fun e w' =>
      ∃ A1 c1, e = .returned (.slice A1 (B.pix D a0_0.toNat a0_2.toNat ax.toNat ay.toNat).length c1) ∧ (B.pix D a0_0.toNat a0_2.toNat ax.toNat ay.toNat).length ≤ c1 ∧
        Kd.C (Kd.int .i64) w' A1 (B.pix D a0_0.toNat a0_2.toNat ax.toNat ay.toNat).length (B.pix D a0_0.toNat a0_2.toNat ax.toNat ay.toNat) ∧ Below w.heap.size w w' := by
  obtain ⟨i1, i2, i3, i4, i5, i6, i7⟩ := ho.idx hx hy
  have hp : 1 ≤ a0_2 ∧ a0_2 ≤ 4 := ⟨ho.2.2.2.2.1, ho.2.2.2.2.2.1⟩
  obtain ⟨n, hn⟩ : ∃ n : Int, wrap64 (wrap64 (wrap64 (ay * a0_0) + ax) * a0_2) = n := ⟨_, rfl⟩
  have hn2 : n = (ay * a0_0 + ax) * a0_2 := by rw [← hn, i1, i2, i3]
  rw [← hn2] at i4 i5 i6 i7
  have hpx : (D.take (n + a0_2).toNat).drop n.toNat = B.pix D a0_0.toNat a0_2.toNat ax.toNat ay.toNat := by
    rw [i7]
    exact B.pix_mid D _ _ _ _ _ (by omega)
  have hw : wrap64 (n + a0_2) = n + a0_2 := B.w64 (by omega) (by omega)
  obtain ⟨i0, hi0, _, hsz, _⟩ := info_parts info3
  obtain ⟨A1, hcut, hA1, hC1⟩ := print_mid_of (P := Try.prog) (Value.int .i64) 0 32 3 .i64 .i64 Try.underlying32 hi0 hsz A0 c0 D n (n + a0_2) i4 (by omega) i5 hc
  rw [hpx] at hcut hA1 hC1
  have HR := Aside0.mk (Kd.C_of_reads (h1 := fun _ => rfl) (hA1 _ (Kd.reads_of_C hr)))
  have HC := Aside0.mk hC1
  generalize B.pix D a0_0.toNat a0_2.toNat ax.toNat ay.toNat = px at hcut HR HC
  have c1 := eq_true i4
  have c2 : decide (0 ≤ n) = true := decide_eq_true i4
  have hu28 := Try.underlying34
  have hn' : (IntKind.i64.wrap (wrap64 (wrap64 (ay * a0_0) + ax) * a0_2)) = n := (i64_w _).trans hn
  clear ho hx hy hr hc i1 i2 i3 i4 i5 i6 i7 hn2 hpx hi0 hsz hA1 hC1 hp
  go_enter Try.func48, Try.ntmps48
  go_wp2
  go_ret
  exact ⟨A1, _, rfl, HC.out, Kd.C_alloc HR.out _, below_alloc (Below.refl _ _) _⟩
theorem mid_at (W : World) (g n c : Nat) (a b : Int) (h0 : 0 ≤ a) (h1 : a < b) (hm : b ≤ c) :
    (Instr.slice 32 (.slice (some ⟨g, 0, none⟩) n c) (some (.int .i64 a)) (some (.int .i64 b)) none).run Try.prog W = .ok (.slice (some ⟨g, a.toNat, none⟩) (b.toNat - a.toNat) (c - a.toNat)) W := by
  obtain ⟨i0, hi0, _, hsz, _⟩ := info_parts info3
  have ht := Try.underlying32
  have hel : Try.prog.elem 32 = 3 := by simp [Program.elem, ht]
  have hu : Try.prog.underlying 32 = some (.slice (Try.prog.elem 32)) := by rw [hel]; exact ht
  have hne : ¬ c = a.toNat := by omega
  rw [run_slice_lh W 32 (some ⟨g, 0, none⟩) n c hu .i64 .i64 a b h0 (by omega) (by omega), hel]
  simp [sizeOf, typeInfo, hi0, hsz, sliced, Result.andThen, hne, Addr.add]
  try omega
set_option maxHeartbeats 2000000 in
theorem at_slice (a0_0 a0_1 a0_2 ax ay : Int) (g : Nat) (c0 : Nat) (D : List Int) (w : World) (ho : B.ImgI a0_0 a0_1 a0_2 D) (hx : 0 ≤ ax ∧ ax < a0_0) (hy : 0 ≤ ay ∧ ay < a0_1) (hc : D.length ≤ c0) :
    Calls Try.prog 48 #[.agg #[.int .i64 a0_0, .int .i64 a0_1, .int .i64 a0_2, .slice (some ⟨g, 0, none⟩) D.length c0], .int .i64 ax, .int .i64 ay] w fun e w' =>
      ∃ cc, e = .returned (.slice (some ⟨g, (ay.toNat * a0_0.toNat + ax.toNat) * a0_2.toNat, none⟩) a0_2.toNat cc) ∧ Below w.heap.size w w' := by
  obtain ⟨i1, i2, i3, i4, i5, i6, i7⟩ := ho.idx hx hy
  have hp : 1 ≤ a0_2 ∧ a0_2 ≤ 4 := ⟨ho.2.2.2.2.1, ho.2.2.2.2.2.1⟩
  obtain ⟨n, hn⟩ : ∃ n : Int, wrap64 (wrap64 (wrap64 (ay * a0_0) + ax) * a0_2) = n := ⟨_, rfl⟩
  have hn2 : n = (ay * a0_0 + ax) * a0_2 := by rw [← hn, i1, i2, i3]
  rw [← hn2] at i4 i5 i6 i7
  have hw : wrap64 (n + a0_2) = n + a0_2 := B.w64 (by omega) (by omega)
  have hcut := fun W : World => mid_at W g D.length c0 n (n + a0_2) i4 (by omega) (by omega)
  have hq : (n + a0_2).toNat - n.toNat = a0_2.toNat := by omega
  rw [hq, i7] at hcut
  have c1 := eq_true i4
  have c2 : decide (0 ≤ n) = true := decide_eq_true i4
  have hu28 := Try.underlying34
  have hn' : (IntKind.i64.wrap (wrap64 (wrap64 (ay * a0_0) + ax) * a0_2)) = n := (i64_w _).trans hn
  generalize (ay.toNat * a0_0.toNat + ax.toNat) * a0_2.toNat = off at hcut ⊢
  generalize hcc : c0 - off = cc at hcut
  clear ho hx hy hc i1 i2 i3 i4 i5 i6 i7 hn2 hp hq hcc
  go_enter Try.func48, Try.ntmps48
  go_wp2
  go_ret
  exact ⟨cc, rfl, below_alloc (Below.refl _ _) _⟩

/-! ### impl_JoinPasses: function 14 (by hand) -/
-- GIVEN loop.example/pixelworks/impl.JoinPasses
-- ROUNDS yes
-- MAKING yes
theorem joinBytes_ok (l : List Int) : impl_areBytes.f l = some (l.all fun x => decide (0 ≤ x) && decide (x ≤ 255)) := by
  unfold impl_areBytes.f
  congr 1
  rw [Bool.eq_iff_iff]
  simp only [Bool.not_eq_true', List.any_eq_false, List.all_eq_true, notByte, Bool.or_eq_true, Bool.and_eq_true, decide_eq_true_eq, not_or]
  exact ⟨fun h x hx => by have := h x hx; omega, fun h x hx => by have := h x hx; omega⟩
theorem joinSide_ok (n : Int) : impl_isSide.f n = some (decide (1 ≤ n) && decide (n ≤ 16)) := by
  unfold impl_isSide.f
  by_cases h : n ≥ 1
  · rw [if_pos h, decide_eq_true (show 1 ≤ n from h)]
    rfl
  · rw [if_neg h, decide_eq_false (show ¬ 1 ≤ n from h)]
    rfl
theorem joinShape_ok (a b c : Int) : impl_isShape.f a b c = some ((decide (1 ≤ a) && decide (a ≤ 16)) && ((decide (1 ≤ b) && decide (b ≤ 16)) && (decide (1 ≤ c) && decide (c ≤ 4)))) := by
  unfold impl_isShape.f
  rw [joinSide_ok, joinSide_ok]
  simp only [Option.bind_some]
  by_cases h1 : (decide (1 ≤ a) && decide (a ≤ 16)) = true
  · rw [if_pos h1, h1]
    by_cases h2 : (decide (1 ≤ b) && decide (b ≤ 16)) = true
    · rw [if_pos h2, h2]
      by_cases h3 : c ≥ 1
      · rw [if_pos h3, decide_eq_true (show 1 ≤ c from h3)]
        rfl
      · rw [if_neg h3, decide_eq_false (show ¬ 1 ≤ c from h3)]
        rfl
    · rw [if_neg h2, Bool.eq_false_iff.2 h2]
      rfl
  · rw [if_neg h1, Bool.eq_false_iff.2 h1]
    rfl
theorem joinTake (l : List Int) (x : Int) (h0 : 0 ≤ x) (h1 : x < (l.length : Int)) : l.take (x + 1).toNat = l.take x.toNat ++ [rd l x] := by
  have h2 : x.toNat < l.length := by omega
  rw [show (x + 1).toNat = x.toNat + 1 by omega, List.take_succ_eq_append_getElem h2]
  unfold rd
  simp [h2]
/-- One pixel put: the image's numbers and the rest of the data. -/
def stepJ (w p : Nat) (y : Int) (s : List Int × List Int) (x : Int) : List Int × List Int := (B.setPix s.1 w p x.toNat y.toNat (s.2.take p), s.2.drop p)
def rowJ (w p : Nat) (cs : List Int) (s : List Int × List Int) (y : Int) : List Int × List Int := cs.foldl (stepJ w p y) s
def passJ (w p : Nat) (rs cs : List Int) (s : List Int × List Int) : List Int × List Int := rs.foldl (rowJ w p cs) s
theorem stepJ_rest (w p : Nat) (y : Int) (s : List Int × List Int) (x : Int) : (stepJ w p y s x).2.length = s.2.length - p := by unfold stepJ; rw [List.length_drop]
theorem rowJ_rest (w p : Nat) (y : Int) : ∀ (cs : List Int) (s : List Int × List Int), (rowJ w p cs s y).2.length = s.2.length - cs.length * p
  | [], s => by simp [rowJ]
  | x :: cs, s => by
    show (rowJ w p cs (stepJ w p y s x) y).2.length = _
    rw [rowJ_rest w p y cs, stepJ_rest, List.length_cons, Nat.succ_mul]
    omega
theorem passJ_rest (w p : Nat) (cs : List Int) : ∀ (rs : List Int) (s : List Int × List Int), (passJ w p rs cs s).2.length = s.2.length - rs.length * (cs.length * p)
  | [], s => by simp [passJ]
  | y :: rs, s => by
    show (passJ w p rs cs (rowJ w p cs s y)).2.length = _
    rw [passJ_rest w p cs rs, rowJ_rest, List.length_cons, Nat.succ_mul]
    omega
theorem rowJ_take (w p : Nat) (y : Int) (cs : List Int) (s : List Int × List Int) (x : Int) (h0 : 0 ≤ x) (h1 : x < (cs.length : Int)) : stepJ w p y (rowJ w p (cs.take x.toNat) s y) (rd cs x) = rowJ w p (cs.take (x + 1).toNat) s y := by
  unfold rowJ
  rw [joinTake cs x h0 h1, List.foldl_append]
  rfl
theorem passJ_take (w p : Nat) (rs cs : List Int) (s : List Int × List Int) (y : Int) (h0 : 0 ≤ y) (h1 : y < (rs.length : Int)) : rowJ w p cs (passJ w p (rs.take y.toNat) cs s) (rd rs y) = passJ w p (rs.take (y + 1).toNat) cs s := by
  unfold passJ
  rw [joinTake rs y h0 h1, List.foldl_append]
  rfl
/-- What the walk of a pass wants: columns and rows on the image, and few. -/
def joinOk (w h : Int) (rs cs : List Int) : Bool := (cs.all fun x => decide (0 ≤ x) && decide (x < w)) && ((rs.all fun y => decide (0 ≤ y) && decide (y < h)) && (decide (rs.length ≤ 1000) && decide (cs.length ≤ 1000)))
def joinFrom (k : Nat) (a0 a1 a2 : Int) (l3 : List (List Int)) : Nat → Nat → List Int → Option (Int × Int × Int × List Int × Bool)
  | 0, _, D => some (a0, a1, a2, D, true)
  | d + 1, i, D => (impl_passOf.f (i : Int)).bind fun t => (impl_pass_columns.f k t.1 t.2.1 t.2.2.1 t.2.2.2 a0).bind fun cs => (impl_pass_rows.f k t.1 t.2.1 t.2.2.1 t.2.2.2 a1).bind fun rs =>
      if joinOk a0 a1 rs cs = true then
        if ((rd_L1 l3 (i : Int)).all fun x => decide (0 ≤ x) && decide (x ≤ 255)) = true ∧ ((rd_L1 l3 (i : Int)).length : Int) = wrap64 (wrap64 ((cs.length : Int) * (rs.length : Int)) * a2) then
          joinFrom k a0 a1 a2 l3 d (i + 1) (passJ a0.toNat a2.toNat rs cs (D, rd_L1 l3 (i : Int))).1
        else some (0, 0, 0, [], false)
      else none
def impl_JoinPasses.f (k : Nat) (a0 a1 a2 : Int) (l3 : List (List Int)) : Option (Int × Int × Int × List Int × Bool) :=
  if (1 ≤ a0 ∧ a0 ≤ 16) ∧ (1 ≤ a1 ∧ a1 ≤ 16) ∧ (1 ≤ a2 ∧ a2 ≤ 4) ∧ l3.length = 7 then joinFrom k a0 a1 a2 l3 7 0 (List.replicate (a1.toNat * a0.toNat * a2.toNat) 0) else some (0, 0, 0, [], false)
theorem joinFrom_mono (k : Nat) (a0 a1 a2 : Int) (l3 : List (List Int)) : ∀ d i D, LeO (joinFrom k a0 a1 a2 l3 d i D) (joinFrom (k + 1) a0 a1 a2 l3 d i D)
  | 0, _, _ => LeO.refl _
  | d + 1, i, D => by
    unfold joinFrom
    exact LeO.bind (LeO.refl _) fun _ => LeO.bind (impl_pass_columns.mono _ _ _ _ _ _) fun _ => LeO.bind (impl_pass_rows.mono _ _ _ _ _ _) fun _ => LeO.ite (LeO.ite (joinFrom_mono k a0 a1 a2 l3 d _ _) (LeO.refl _)) (LeO.refl _)
theorem impl_JoinPasses.mono : ∀ a0 a1 a2 a3 k, LeO (impl_JoinPasses.f k a0 a1 a2 a3) (impl_JoinPasses.f (k + 1) a0 a1 a2 a3) := by
  intro a0 a1 a2 a3 k
  unfold impl_JoinPasses.f
  exact LeO.ite (joinFrom_mono k a0 a1 a2 a3 7 0 _) (LeO.refl _)
theorem stepJ_img {w h p : Int} (y x : Int) (s : List Int × List Int) (o : B.ImgI w h p s.1) (hx : 0 ≤ x ∧ x < w) (hy : 0 ≤ y ∧ y < h) (hl : p.toNat ≤ s.2.length) : B.ImgI w h p (stepJ w.toNat p.toNat y s x).1 := by
  have hn := o.nat
  obtain ⟨b1, b2, b3, b4, b5, b6, b7⟩ := o
  refine ⟨b1, b2, b3, b4, b5, b6, ?_⟩
  have e : (stepJ w.toNat p.toNat y s x).1.length = h.toNat * w.toNat * p.toNat := B.setPix_length s.1 _ w.toNat h.toNat p.toNat x.toNat y.toNat hn (by omega) (by omega) (by rw [List.length_take]; omega)
  rw [e, ← hn]
  exact b7
theorem rest_ge {R C p y x : Nat} (hy : y < R) (hx : x < C) : p ≤ R * (C * p) - y * (C * p) - x * p := by
  have h1 : (y + 1) * (C * p) ≤ R * (C * p) := Nat.mul_le_mul_right _ hy
  have h2 : (x + 1) * p ≤ C * p := Nat.mul_le_mul_right _ hx
  rw [Nat.succ_mul] at h1 h2
  omega
theorem zeros_img {w h p : Int} (s0 : 1 ≤ w ∧ w ≤ 16) (s1 : 1 ≤ h ∧ h ≤ 16) (s2 : 1 ≤ p ∧ p ≤ 4) : B.ImgI w h p (List.replicate (h.toNat * w.toNat * p.toNat) 0) := by
  refine ⟨s0.1, s0.2, s1.1, s1.2, s2.1, s2.2, ?_⟩
  rw [List.length_replicate]
  obtain ⟨x, rfl⟩ := Int.eq_ofNat_of_zero_le (show 0 ≤ w by omega)
  obtain ⟨y, rfl⟩ := Int.eq_ofNat_of_zero_le (show 0 ≤ h by omega)
  obtain ⟨z, rfl⟩ := Int.eq_ofNat_of_zero_le (show 0 ≤ p by omega)
  simp only [Int.toNat_natCast]
  rw [Nat.mul_comm y x]
  simp
theorem setPix_parts (E F : List Int) (w p x y : Nat) : E.take ((y * w + x) * p) ++ (F.take p ++ E.drop ((y * w + x) * p + p)) = B.setPix E w p x y (F.take p) := by
  unfold B.setPix B.setChunk
  rw [Nat.succ_mul, List.append_assoc]
theorem join_wrap {c r : Nat} {p : Int} (hc : c ≤ 1000) (hr : r ≤ 1000) (hp : 1 ≤ p ∧ p ≤ 4) : wrap64 (wrap64 ((c : Int) * (r : Int)) * p) = ((r * (c * p.toNat) : Nat) : Int) := by
  obtain ⟨z, rfl⟩ := Int.eq_ofNat_of_zero_le (show 0 ≤ p by omega)
  have e1 : (c : Int) * (r : Int) = ((c * r : Nat) : Int) := by simp
  have e2 : c * r ≤ 1000 * 1000 := Nat.mul_le_mul hc hr
  have e4 : ((c * r : Nat) : Int) * (z : Int) = ((r * (c * z) : Nat) : Int) := by
    rw [show r * (c * z) = c * r * z by rw [← Nat.mul_assoc, Nat.mul_comm r]]
    simp
  have e5 : r * (c * z) ≤ 1000 * (1000 * 4) := Nat.mul_le_mul hr (Nat.mul_le_mul hc (by omega))
  rw [e1, B.w64 (x := ((c * r : Nat) : Int)) (by omega) (by omega), e4]
  exact B.w64 (by omega) (by omega)
/-- A pass: what the program finds. -/
theorem joinFrom_step (k : Nat) (a0 a1 a2 : Int) (l3 : List (List Int)) (i : Int) (D : List Int) (r1 r2 r3 : Int) (r4 : List Int) (r5 : Bool) (s2 : 1 ≤ a2 ∧ a2 ≤ 4) (h0 : 0 ≤ i) (h1 : i < 7) (h : joinFrom k a0 a1 a2 l3 (7 - i.toNat) i.toNat D = some (r1, r2, r3, r4, r5)) :
    ∃ p1 p2 p3 p4 cs rs, impl_passOf.f i = some (p1, p2, p3, p4) ∧ impl_pass_columns.f k p1 p2 p3 p4 a0 = some cs ∧ impl_pass_rows.f k p1 p2 p3 p4 a1 = some rs ∧ ((∀ x ∈ cs, 0 ≤ x ∧ x < a0) ∧ (∀ y ∈ rs, 0 ≤ y ∧ y < a1) ∧ rs.length ≤ 1000 ∧ cs.length ≤ 1000) ∧
      ((((rd_L1 l3 i).all fun x => decide (0 ≤ x) && decide (x ≤ 255)) = false ∧ r1 = 0 ∧ r2 = 0 ∧ r3 = 0 ∧ r4 = [] ∧ r5 = false) ∨
       (((rd_L1 l3 i).all fun x => decide (0 ≤ x) && decide (x ≤ 255)) = true ∧ (((rd_L1 l3 i).length : Int) != wrap64 (wrap64 ((cs.length : Int) * (rs.length : Int)) * a2)) = true ∧ r1 = 0 ∧ r2 = 0 ∧ r3 = 0 ∧ r4 = [] ∧ r5 = false) ∨
       (((rd_L1 l3 i).all fun x => decide (0 ≤ x) && decide (x ≤ 255)) = true ∧ (((rd_L1 l3 i).length : Int) != wrap64 (wrap64 ((cs.length : Int) * (rs.length : Int)) * a2)) = false ∧ (rd_L1 l3 i).length = rs.length * (cs.length * a2.toNat) ∧
        joinFrom k a0 a1 a2 l3 (7 - (i + 1).toNat) (i + 1).toNat (passJ a0.toNat a2.toNat rs cs (D, rd_L1 l3 i)).1 = some (r1, r2, r3, r4, r5))) := by
  obtain ⟨n, rfl⟩ := Int.eq_ofNat_of_zero_le h0
  obtain ⟨d, hd⟩ : ∃ d, 7 - n = d + 1 := ⟨6 - n, by omega⟩
  simp only [Int.toNat_natCast] at h ⊢
  rw [hd] at h
  unfold joinFrom at h
  obtain ⟨⟨p1, p2, p3, p4⟩, hT, h⟩ := Option.bind_eq_some_iff.mp h
  obtain ⟨cs, hcs, h⟩ := Option.bind_eq_some_iff.mp h
  obtain ⟨rs, hrs, h⟩ := Option.bind_eq_some_iff.mp h
  by_cases hok : joinOk a0 a1 rs cs = true
  case neg =>
    rw [if_neg hok] at h
    cases h
  rw [if_pos hok] at h
  unfold joinOk at hok
  simp only [Bool.and_eq_true, List.all_eq_true, decide_eq_true_eq] at hok
  refine ⟨p1, p2, p3, p4, cs, rs, hT, hcs, hrs, ⟨hok.1, hok.2.1, hok.2.2⟩, ?_⟩
  have hrl := hok.2.2.1
  have hcl := hok.2.2.2
  clear hok hT hcs hrs
  have e6 := join_wrap hcl hrl s2
  generalize wrap64 (wrap64 ((cs.length : Int) * (rs.length : Int)) * a2) = jj at e6 h ⊢
  have n1 : 7 - ((n : Int) + 1).toNat = d := by omega
  have n2 : ((n : Int) + 1).toNat = n + 1 := by omega
  by_cases hb : ((rd_L1 l3 (n : Int)).all fun x => decide (0 ≤ x) && decide (x ≤ 255)) = true
  · by_cases hl : ((rd_L1 l3 (n : Int)).length : Int) = jj
    · rw [if_pos ⟨hb, hl⟩] at h
      refine Or.inr (Or.inr ⟨hb, by rw [hl]; simp, ?_, ?_⟩)
      · exact Int.ofNat.inj (hl.trans e6)
      · rw [n1, n2]
        exact h
    · rw [if_neg (fun g => hl g.2)] at h
      simp only [Option.some.injEq, Prod.mk.injEq] at h
      obtain ⟨rfl, rfl, rfl, rfl, rfl⟩ := h
      exact Or.inr (Or.inl ⟨hb, bne_iff_ne.2 hl, rfl, rfl, rfl, rfl, rfl⟩)
  · rw [if_neg (fun g => hb g.1)] at h
    simp only [Option.some.injEq, Prod.mk.injEq] at h
    obtain ⟨rfl, rfl, rfl, rfl, rfl⟩ := h
    exact Or.inl ⟨Bool.eq_false_iff.2 hb, rfl, rfl, rfl, rfl, rfl⟩
/-- Room for the next pixel. -/
theorem join_room {w p : Nat} {rs cs : List Int} {D dt E F E1 F1 : List Int} {y x yv : Int} (h1 : passJ w p (rs.take y.toNat) cs (D, dt) = (E, F)) (h2 : rowJ w p (cs.take x.toNat) (E, F) yv = (E1, F1)) (hl : dt.length = rs.length * (cs.length * p)) (hy : 0 ≤ y ∧ y < (rs.length : Int)) (hx : 0 ≤ x ∧ x < (cs.length : Int)) : p ≤ F1.length := by
  have e1 := passJ_rest w p cs (rs.take y.toNat) (D, dt)
  have e2 := rowJ_rest w p yv (cs.take x.toNat) (E, F)
  rw [h1] at e1
  rw [h2] at e2
  simp only [List.length_take] at e1 e2
  rw [Nat.min_eq_left (by omega)] at e1 e2
  rw [e2, e1, hl]
  exact rest_ge (by omega) (by omega)
theorem join_next {w p : Nat} {cs E F E1 F1 : List Int} {x yv xv : Int} (h2 : rowJ w p (cs.take x.toNat) (E, F) yv = (E1, F1)) (hx : 0 ≤ x ∧ x < (cs.length : Int)) (hv : rd cs x = xv) : rowJ w p (cs.take (x + 1).toNat) (E, F) yv = (B.setPix E1 w p xv.toNat yv.toNat (F1.take p), F1.drop p) := by
  rw [← rowJ_take w p yv cs (E, F) x hx.1 hx.2, h2, hv]
  rfl
theorem join_row {w p : Nat} {rs cs D dt E F E1 F1 : List Int} {y x yv : Int} (h1 : passJ w p (rs.take y.toNat) cs (D, dt) = (E, F)) (h2 : rowJ w p (cs.take x.toNat) (E, F) yv = (E1, F1)) (hx : x.toNat = cs.length) (hy : 0 ≤ y ∧ y < (rs.length : Int)) (hv : rd rs y = yv) : passJ w p (rs.take (y + 1).toNat) cs (D, dt) = (E1, F1) := by
  rw [hx, List.take_length] at h2
  rw [← passJ_take w p rs cs (D, dt) y hy.1 hy.2, h1, hv, h2]

set_option maxHeartbeats 4000000 in
theorem join_no (a0 : Int) (a1 : Int) (a2 : Int) (A3 : Option Addr) (c3 : Nat) (l3 : List (List Int)) (w : World) (hr3 : Kd.C (Kd.slice 3 (Kd.int .i64)) w A3 l3.length l3) (hc3 : l3.length ≤ c3) (hv : impl_isShape.f a0 a1 a2 = some false) :
    Calls Try.prog 14 #[.int .i64 a0, .int .i64 a1, .int .i64 a2, .slice A3 l3.length c3] w fun e w' => ∃ v3_ : Value, e = .returned (.tuple #[.agg #[.int .i64 0, .int .i64 0, .int .i64 0, v3_], .bool false]) ∧ Kd.R (Kd.int .i64) 3 w' w.heap.size (fun _ => True) v3_ [] ∧ Below w.heap.size w w' := by
  have hu28 := Try.underlying34
  have H1 := Aside0.mk (fun (W : World) => impl_isShape.calls a0 a1 a2 false W hv)
  have BZ : Aside0 ((w.alloc (.cells #[.int .i64 0, .int .i64 0, .int .i64 0, .slice none 0 0] 34)).heap[w.heap.size]? = some (.cells #[.int .i64 0, .int .i64 0, .int .i64 0, .slice none 0 0] 34 (0, 0))) := ⟨(heap_alloc_new w (.cells #[.int .i64 0, .int .i64 0, .int .i64 0, .slice none 0 0] 34))⟩
  have HB : Aside0 (Below w.heap.size w (w.alloc (.cells #[.int .i64 0, .int .i64 0, .int .i64 0, .slice none 0 0] 34))) := ⟨(below_alloc (Below.refl _ _) _)⟩
  clear hv hr3 hc3
  go_enter Try.func14, Try.ntmps14
  go_wp2_with fail
  refine (H1.out _).mono ?_
  rintro e w1 ⟨rfl, hd1⟩
  have hb1 := hd1.below
  clear hd1
  have n0_ := Aside0.mk (blk_below BZ.out hb1)
  have nb_ := Aside0.mk (below_step HB.out hb1)
  clear BZ HB hb1
  have BZ := n0_
  have HB := nb_
  clear n0_ nb_
  have hcBZ0 := B.bc BZ 0
  have hcBZ1 := B.bc BZ 1
  have hcBZ2 := B.bc BZ 2
  have hcBZ3 := B.bc BZ 3
  have hfBZ0 := blk_frozen BZ.out 0
  have hfBZ1 := blk_frozen BZ.out 1
  have hfBZ2 := blk_frozen BZ.out 2
  have hfBZ3 := blk_frozen BZ.out 3
  go_wp2
  refine bodyPost_ret (results_ct rfl _ _ (w.heap.size) 34 #[.int .i64 0, .int .i64 0, .int .i64 0, .slice none 0 0] (0, 0) _ rfl (by first | exact BZ.out | (refine blk_put (cs := #[.int .i64 0, .int .i64 0, .int .i64 0, .slice none 0 0]) ?_ 3 _ rfl; refine blk_put (cs := #[.int .i64 0, .int .i64 0, .int .i64 0, .slice none 0 0]) ?_ 2 _ rfl; refine blk_put (cs := #[.int .i64 0, .int .i64 0, .int .i64 0, .slice none 0 0]) ?_ 1 _ rfl; refine blk_put (cs := #[.int .i64 0, .int .i64 0, .int .i64 0, .slice none 0 0]) ?_ 0 _ rfl; exact BZ.out)) Try.underlying34 rfl (by kernel_rfl)) rfl ?_
  exact ⟨_, by first | rfl | (simp; done), Kd.R_nil _ _ _ _ _, by first | exact HB.out | exact (below_set (below_set (below_set (below_set HB.out (Nat.le_refl _)) (Nat.le_refl _)) (Nat.le_refl _)) (Nat.le_refl _))⟩
set_option maxHeartbeats 4000000 in
theorem join_ln (a0 : Int) (a1 : Int) (a2 : Int) (A3 : Option Addr) (c3 : Nat) (l3 : List (List Int)) (w : World) (hr3 : Kd.C (Kd.slice 3 (Kd.int .i64)) w A3 l3.length l3) (hc3 : l3.length ≤ c3) (hv : impl_isShape.f a0 a1 a2 = some true) (t1 : ¬ l3.length = 7) :
    Calls Try.prog 14 #[.int .i64 a0, .int .i64 a1, .int .i64 a2, .slice A3 l3.length c3] w fun e w' => ∃ v3_ : Value, e = .returned (.tuple #[.agg #[.int .i64 0, .int .i64 0, .int .i64 0, v3_], .bool false]) ∧ Kd.R (Kd.int .i64) 3 w' w.heap.size (fun _ => True) v3_ [] ∧ Below w.heap.size w w' := by
  have hu28 := Try.underlying34
  have H1 := Aside0.mk (fun (W : World) => impl_isShape.calls a0 a1 a2 true W hv)
  have u5 : ((l3.length : Int) != 7) = true := bne_iff_ne.2 (by omega)
  clear t1
  have BZ : Aside0 ((w.alloc (.cells #[.int .i64 0, .int .i64 0, .int .i64 0, .slice none 0 0] 34)).heap[w.heap.size]? = some (.cells #[.int .i64 0, .int .i64 0, .int .i64 0, .slice none 0 0] 34 (0, 0))) := ⟨(heap_alloc_new w (.cells #[.int .i64 0, .int .i64 0, .int .i64 0, .slice none 0 0] 34))⟩
  have HB : Aside0 (Below w.heap.size w (w.alloc (.cells #[.int .i64 0, .int .i64 0, .int .i64 0, .slice none 0 0] 34))) := ⟨(below_alloc (Below.refl _ _) _)⟩
  clear hv hr3 hc3
  go_enter Try.func14, Try.ntmps14
  go_wp2_with fail
  refine (H1.out _).mono ?_
  rintro e w1 ⟨rfl, hd1⟩
  have hb1 := hd1.below
  clear hd1
  have n0_ := Aside0.mk (blk_below BZ.out hb1)
  have nb_ := Aside0.mk (below_step HB.out hb1)
  clear BZ HB hb1
  have BZ := n0_
  have HB := nb_
  clear n0_ nb_
  have hcBZ0 := B.bc BZ 0
  have hcBZ1 := B.bc BZ 1
  have hcBZ2 := B.bc BZ 2
  have hcBZ3 := B.bc BZ 3
  have hfBZ0 := blk_frozen BZ.out 0
  have hfBZ1 := blk_frozen BZ.out 1
  have hfBZ2 := blk_frozen BZ.out 2
  have hfBZ3 := blk_frozen BZ.out 3
  go_wp2
  refine bodyPost_ret (results_ct rfl _ _ (w.heap.size) 34 #[.int .i64 0, .int .i64 0, .int .i64 0, .slice none 0 0] (0, 0) _ rfl (by first | exact BZ.out | (refine blk_put (cs := #[.int .i64 0, .int .i64 0, .int .i64 0, .slice none 0 0]) ?_ 3 _ rfl; refine blk_put (cs := #[.int .i64 0, .int .i64 0, .int .i64 0, .slice none 0 0]) ?_ 2 _ rfl; refine blk_put (cs := #[.int .i64 0, .int .i64 0, .int .i64 0, .slice none 0 0]) ?_ 1 _ rfl; refine blk_put (cs := #[.int .i64 0, .int .i64 0, .int .i64 0, .slice none 0 0]) ?_ 0 _ rfl; exact BZ.out)) Try.underlying34 rfl (by kernel_rfl)) rfl ?_
  exact ⟨_, by first | rfl | (simp; done), Kd.R_nil _ _ _ _ _, by first | exact HB.out | exact (below_set (below_set (below_set (below_set HB.out (Nat.le_refl _)) (Nat.le_refl _)) (Nat.le_refl _)) (Nat.le_refl _))⟩
def impl_JoinPasses.T8 : Bool × List (List Nat × List Nat) := (true, [([], []), ([], []), ([0, 1], [0, 1]), ([], []), ([], []), ([3, 4, 2], [3, 4]), ([2, 5, 0, 1, 2], [2]), ([5, 6, 0, 1, 2, 3, 4, 5, 6], [5])])
def impl_JoinPasses.B8 : List Nat := [0, 0, 3, 0, 0, 31, 63, 127]
theorem impl_JoinPasses.tab8 : rtab .any (opsOf Try.f14 8) = impl_JoinPasses.T8 := by kernel_rfl
theorem impl_JoinPasses.bits8 : waitsOk impl_JoinPasses.T8.2 impl_JoinPasses.B8 = true := by kernel_rfl
set_option maxHeartbeats 8000000 in
set_option maxRecDepth 100000 in
theorem join_yes (k : Nat) (a0 : Int) (a1 : Int) (a2 : Int) (A3 : Option Addr) (c3 : Nat) (l3 : List (List Int)) (r1 : Int) (r2 : Int) (r3 : Int) (r4 : List Int) (r5 : Bool) (w : World) (hr3 : Kd.C (Kd.slice 3 (Kd.int .i64)) w A3 l3.length l3) (hc3 : l3.length ≤ c3) (hv : impl_isShape.f a0 a1 a2 = some true) (t1 : l3.length = 7) (s0 : 1 ≤ a0 ∧ a0 ≤ 16) (s1 : 1 ≤ a1 ∧ a1 ≤ 16) (s2 : 1 ≤ a2 ∧ a2 ≤ 4) (h : joinFrom k a0 a1 a2 l3 7 0 (List.replicate (a1.toNat * a0.toNat * a2.toNat) 0) = some (r1, r2, r3, r4, r5)) :
    Calls Try.prog 14 #[.int .i64 a0, .int .i64 a1, .int .i64 a2, .slice A3 l3.length c3] w fun e w' => ∃ v3_ : Value, e = .returned (.tuple #[.agg #[.int .i64 r1, .int .i64 r2, .int .i64 r3, v3_], .bool r5]) ∧ Kd.R (Kd.int .i64) 3 w' w.heap.size (fun _ => True) v3_ r4 ∧ Below w.heap.size w w' := by
  have hu28 := Try.underlying34
  have hu56 := Try.underlying56
  have HR3 := Aside0.mk hr3
  obtain ⟨D0, hD0⟩ : ∃ D : List Int, List.replicate (a1.toNat * a0.toNat * a2.toNat) (0 : Int) = D := ⟨_, rfl⟩
  have hI0 := zeros_img s0 s1 s2
  rw [hD0] at h hI0
  have HI0 := Aside0.mk hI0
  have HJ := Aside0.mk h
  have HS := Aside0.mk (And.intro s0 (And.intro s1 s2))
  have H1 := Aside0.mk (fun (W : World) => impl_isShape.calls a0 a1 a2 true W hv)
  have u5 : ((l3.length : Int) != 7) = false := by rw [t1]; rfl
  have HT := Aside0.mk t1
  obtain ⟨ji, hji⟩ : ∃ j : Int, wrap64 (wrap64 (a0 * a1) * a2) = j := ⟨_, rfl⟩
  have hjn : ji = ((a1.toNat * a0.toNat * a2.toNat : Nat) : Int) := by
    have e0 : 0 ≤ a0 * a1 := Int.mul_nonneg (by omega) (by omega)
    have e1 : a0 * a1 ≤ 16 * 16 := Int.mul_le_mul s0.2 s1.2 (by omega) (by omega)
    have e2 : 0 ≤ a0 * a1 * a2 := Int.mul_nonneg e0 (by omega)
    have e3 : a0 * a1 * a2 ≤ 256 * 4 := Int.mul_le_mul (by omega) s2.2 (by omega) (by omega)
    rw [← hji, B.w64 (x := a0 * a1) (by omega) (by omega), B.w64 (x := a0 * a1 * a2) (by omega) (by omega)]
    obtain ⟨x, rfl⟩ := Int.eq_ofNat_of_zero_le (show 0 ≤ a0 by omega)
    obtain ⟨y, rfl⟩ := Int.eq_ofNat_of_zero_le (show 0 ≤ a1 by omega)
    obtain ⟨z, rfl⟩ := Int.eq_ofNat_of_zero_le (show 0 ≤ a2 by omega)
    simp only [Int.toNat_natCast]
    rw [Nat.mul_comm y x]
    simp
  have hjw : IntKind.i64.wrap (wrap64 (a0 * a1) * a2) = ji := (i64_w _).trans hji
  have hj0 : 0 ≤ ji := by rw [hjn]; exact Int.natCast_nonneg _
  have hjm : ji.toNat ≤ 35184372088832 := by
    rw [hjn, Int.toNat_natCast]
    have e1 : a1.toNat * a0.toNat ≤ 16 * 16 := Nat.mul_le_mul (by omega) (by omega)
    have e2 : a1.toNat * a0.toNat * a2.toNat ≤ 16 * 16 * 4 := Nat.mul_le_mul e1 (by omega)
    omega
  have hrep : List.replicate ji.toNat (0 : Int) = D0 := by rw [hjn, Int.toNat_natCast]; exact hD0
  have HREP := Aside0.mk hrep
  have b0 := eq_true hj0
  clear hrep hjn hji hD0 hI0
  have BZ : Aside0 ((w.alloc (.cells #[.int .i64 0, .int .i64 0, .int .i64 0, .slice none 0 0] 34)).heap[w.heap.size]? = some (.cells #[.int .i64 0, .int .i64 0, .int .i64 0, .slice none 0 0] 34 (0, 0))) := ⟨(heap_alloc_new w (.cells #[.int .i64 0, .int .i64 0, .int .i64 0, .slice none 0 0] 34))⟩
  have HB : Aside0 (Below w.heap.size w (w.alloc (.cells #[.int .i64 0, .int .i64 0, .int .i64 0, .slice none 0 0] 34))) := ⟨(below_alloc (Below.refl _ _) _)⟩
  clear hv hr3 hc3 h t1 s0 s1 s2
  go_enter Try.func14, Try.ntmps14
  go_wp2_with fail
  refine (H1.out _).mono ?_
  rintro e w1 ⟨rfl, hd1⟩
  have hb1 := hd1.below
  clear hd1 H1
  have n0_ := Aside0.mk (blk_below BZ.out hb1)
  have nb_ := Aside0.mk (below_step HB.out hb1)
  clear BZ HB hb1
  have BZ := n0_
  have HB := nb_
  clear n0_ nb_
  go_upto_region 4 with (first | ((with_reducible refine gate_dst (N := 39) rfl ?_); refine Kd.R_make (Kd.int .i64) _ 3 rfl (N := 39) rfl 32 _ _ rfl ji rfl rfl Try.underlying32 (.int .i64 0) 8 info3 rfl (by decide) (by omega) 0 (ok := fun _ => True) (okp := fun _ => True) rfl (fun _ hk => hk) trivial hj0 (Nat.le_trans (Nat.mul_le_mul_right _ hjm) (by omega)) (Below.refl _ _) (Nat.le_refl _) ?_; intro v w2 ho2 hb2 hg_ hnew_; clear hg_ hnew_; rw [HREP.out] at ho2; have n0_ := Aside0.mk (Kd.R_lower ho2 HB.out.size); have n1_ := Aside0.mk (blk_below BZ.out hb2); have n2_ := Aside0.mk (below_step HB.out hb2); clear BZ HB ho2 hb2; have HO := n0_; have BZ := n1_; have HB := n2_; clear n0_ n1_ n2_; obtain ⟨Av, cv, ev⟩ := Kd.R_slice HO.out; subst ev) | ((with_reducible refine gate_dst (N := 10) rfl ?_); refine box_event ?hg (N := 10) ?hd (cs := #[.int .i64 0, .int .i64 0, .int .i64 0, .slice none 0 0]) (t := 34) ?hr ?_; (case hd => rfl); (case hg => rfl); (case hr => first | (go_simp; done) | (go_simp; rfl)); intro go hg w4 hbox hb; have n0_ := Aside0.mk (Kd.R_below (B.kr HO) hb); have n1_ := Aside0.mk (blk_below (B.kb BZ) hb); have n2_ := Aside0.mk (below_step (B.bl HB) hb); have n3_ := Aside0.mk hbox; have n4_ := Aside0.mk (B.nle hg (below_size (B.bl HB))); have n5_ := Aside0.mk (B.nlt hg (blk_lt (B.kb BZ))); clear HO BZ HB; have HO := n0_; have BZ := n1_; have HB := n2_; have BO := n3_; have GO := n4_; have NZO := n5_; clear n0_ n1_ n2_ n3_ n4_ n5_; clear hb hbox hg; have hp0 : w4.cell? ⟨go, 0, none⟩ = some (.int .i64 0) := B.bc BO 0; have hp1 : w4.cell? ⟨go, 1, none⟩ = some (.int .i64 0) := B.bc BO 1; have hp2 : w4.cell? ⟨go, 2, none⟩ = some (.int .i64 0) := B.bc BO 2; have hp3 : w4.cell? ⟨go, 3, none⟩ = some (.slice none 0 0) := B.bc BO 3; have hq0 := blk_frozen BO.out 0; have hq1 := blk_frozen BO.out 1; have hq2 := blk_frozen BO.out 2; have hq3 := blk_frozen BO.out 3))
  (try simp only [Act.put, List.setIfInBounds_toArray, List.set_cons_zero, List.set_cons_succ])
  have n0_ : Aside0 (Kd.R (Kd.int .i64) 3 ((((w4.setCell ⟨go, 0, none⟩ (.int .i64 a0)).setCell ⟨go, 1, none⟩ (.int .i64 a1)).setCell ⟨go, 2, none⟩ (.int .i64 a2)).setCell ⟨go, 3, none⟩ (.slice Av D0.length cv)) w.heap.size (fun _ => True) (.slice Av D0.length cv) D0) := ⟨Kd.R_mono (B.rf4 HO BO) (fun _ _ => trivial)⟩
  have n1_ : Aside0 (((((w4.setCell ⟨go, 0, none⟩ (.int .i64 a0)).setCell ⟨go, 1, none⟩ (.int .i64 a1)).setCell ⟨go, 2, none⟩ (.int .i64 a2)).setCell ⟨go, 3, none⟩ (.slice Av D0.length cv)).heap[w.heap.size]? = some (.cells #[.int .i64 0, .int .i64 0, .int .i64 0, .slice none 0 0] 34 (0, 0))) := ⟨B.bf4 BZ NZO⟩
  have n2_ : Aside0 (((((w4.setCell ⟨go, 0, none⟩ (.int .i64 a0)).setCell ⟨go, 1, none⟩ (.int .i64 a1)).setCell ⟨go, 2, none⟩ (.int .i64 a2)).setCell ⟨go, 3, none⟩ (.slice Av D0.length cv)).heap[go]? = some (.cells #[.int .i64 a0, .int .i64 a1, .int .i64 a2, .slice Av D0.length cv] 34 (0, 0))) := ⟨B.bp4 BO⟩
  have n3_ : Aside0 (Below w.heap.size w ((((w4.setCell ⟨go, 0, none⟩ (.int .i64 a0)).setCell ⟨go, 1, none⟩ (.int .i64 a1)).setCell ⟨go, 2, none⟩ (.int .i64 a2)).setCell ⟨go, 3, none⟩ (.slice Av D0.length cv))) := ⟨below_set (below_set (below_set (below_set HB.out GO.out) GO.out) GO.out) GO.out⟩
  clear HO BZ BO HB hp0 hp1 hp2 hp3 hq0 hq1 hq2 hq3
  have HO := n0_
  have BZ := n1_
  have BO := n2_
  have HB := n3_
  clear n0_ n1_ n2_ n3_
  generalize ((((w4.setCell ⟨go, 0, none⟩ (.int .i64 a0)).setCell ⟨go, 1, none⟩ (.int .i64 a1)).setCell ⟨go, 2, none⟩ (.int .i64 a2)).setCell ⟨go, 3, none⟩ (.slice Av D0.length cv)) = w5 at HO BZ BO HB ⊢
  go_wp2
  obtain ⟨g1, cv1, ev, gb, gl, HG1⟩ := Kd.R_form HO.out (by have := HS.out; rw [HI0.out.nat]; exact Nat.mul_pos (Nat.mul_pos (by omega) (by omega)) (by omega))
  injection ev with ea_ en_ ec_
  subst ea_
  subst ec_
  clear en_ gb gl HG1
  generalize hN : D0.length = N at HO BO
  have HN := Aside0.mk hN
  clear hN
  go_loopg [43] 7 (fun gg v43 wr => ∃ (i : Int) (D : List Int), v43 = .int .i64 i ∧ Aside0 (0 ≤ i ∧ i ≤ 7 ∧ 7 - i.toNat ≤ gg) ∧ Aside0 (joinFrom k a0 a1 a2 l3 (7 - i.toNat) i.toNat D = some (r1, r2, r3, r4, r5)) ∧ Aside0 (B.ImgI a0 a1 a2 D) ∧ Aside0 (wr.heap[w.heap.size]? = some (.cells #[.int .i64 0, .int .i64 0, .int .i64 0, .slice none 0 0] 34 (0, 0))) ∧ Aside0 (wr.heap[go]? = some (.cells #[.int .i64 a0, .int .i64 a1, .int .i64 a2, (.slice (some ⟨g1, 0, none⟩) N cv)] 34 (0, 0))) ∧ Aside0 (Kd.R (Kd.int .i64) 3 wr w.heap.size (fun _ => True) (.slice (some ⟨g1, 0, none⟩) N cv) D) ∧ Aside0 (Below w.heap.size w wr))
  case atStart => exact ⟨0, _, rfl, ⟨by omega⟩, HJ, HI0, BZ, BO, HO, HB⟩
  case round =>
    clear HO BZ BO HB HJ HREP b0 hj0 hjm hjw
    obtain ⟨i, D, rfl, HI, HJ, HD, BZ, BO, HO, HB⟩ := hrel
    by_cases ci : i < 7
    · have p0' : 0 ≤ i := HI.out.1
      have q0' : i < (l3.length : Int) := by rw [HT.out]; exact ci
      have HCI := Aside0.mk ci
      have cib : decide (i < (l3.length : Int)) = true := decide_eq_true q0'
      obtain ⟨p1, p2, p3, p4, cs, rs, hT, hcs, hrs, hok, hcase⟩ := joinFrom_step k a0 a1 a2 l3 i D r1 r2 r3 r4 r5 HS.out.2.2 p0' ci HJ.out
      obtain ⟨ad, Ai, ca, ea, hxw, hla, hCa⟩ := at_L1 HR3.out i p0' q0'
      cases ea
      have HCA := Aside0.mk hCa
      have HLA := Aside0.mk hla
      have hx0 := pw_cell_below HB.out hxw
      have H2 := Aside0.mk (fun (W : World) => impl_passOf.calls i p1 p2 p3 p4 W hT)
      have H3 := Aside0.mk (fun (W : World) => impl_pass_columns.calls k p1 p2 p3 p4 a0 cs W hcs)
      have H4 := Aside0.mk (fun (W : World) => impl_pass_rows.calls k p1 p2 p3 p4 a1 rs W hrs)
      have HK := Aside0.mk hok
      have HW43 : Aside0 (wrap64 (i + 1) = i + 1) := ⟨B.w64 (by omega) (by omega)⟩
      have HCASE := Aside0.mk hcase
      clear hcase hok hT hcs hrs hCa hla hxw HJ ci
      replace p0' := eq_true p0'
      replace q0' := eq_true q0'
      generalize hdt : rd_L1 l3 i = dt at hx0 HCA HLA HCASE
      clear hdt
      go_wp2_with (first | ((with_reducible refine gate_callee (f := 39) rfl ?_); refine goesL_ (some 49) rfl rfl Try.func39 (by kernel_rfl) rfl #[.int .i64 i] rfl B.am ?_; refine (H2.out _).mono ?_; rintro e w3 ⟨rfl, hb⟩; refine ⟨_, rfl, ?_⟩; have n0_ := Aside0.mk (Kd.R_below (B.kr HO) hb); have n1_ := Aside0.mk (blk_below (B.kb BZ) hb); have n2_ := Aside0.mk (blk_below (B.kb BO) hb); have n3_ := Aside0.mk (below_step (B.bl HB) hb); clear HO BZ BO HB; have HO := n0_; have BZ := n1_; have BO := n2_; have HB := n3_; clear n0_ n1_ n2_ n3_ hb) | ((with_reducible refine gate_dst (N := 13) rfl ?_); refine box_event ?hg (N := 13) ?hd (cs := #[.int .i64 0, .int .i64 0, .int .i64 0, .int .i64 0]) (t := 56) ?hr ?_; (case hd => rfl); (case hg => rfl); (case hr => first | (go_simp; done) | (go_simp; rfl)); intro gp hg w4 hbox hb; have n0_ := Aside0.mk (Kd.R_below (B.kr HO) hb); have n1_ := Aside0.mk (blk_below (B.kb BZ) hb); have n2_ := Aside0.mk (blk_below (B.kb BO) hb); have n3_ := Aside0.mk (below_step (B.bl HB) hb); have n4_ := Aside0.mk hbox; have n5_ := Aside0.mk (B.nle hg (below_size (B.bl HB))); have n6_ := Aside0.mk (B.nlt hg (blk_lt (B.kb BZ))); have n7_ := Aside0.mk (B.nlt hg (blk_lt (B.kb BO))); clear HO BZ BO HB; have HO := n0_; have BZ := n1_; have BO := n2_; have HB := n3_; have BP := n4_; have GP := n5_; have NZP := n6_; have NOP := n7_; clear n0_ n1_ n2_ n3_ n4_ n5_ n6_ n7_; clear hb hbox hg; have hp0 : w4.cell? ⟨gp, 0, none⟩ = some (.int .i64 0) := B.bc BP 0; have hp1 : w4.cell? ⟨gp, 1, none⟩ = some (.int .i64 0) := B.bc BP 1; have hp2 : w4.cell? ⟨gp, 2, none⟩ = some (.int .i64 0) := B.bc BP 2; have hp3 : w4.cell? ⟨gp, 3, none⟩ = some (.int .i64 0) := B.bc BP 3; have hq0 := blk_frozen BP.out 0; have hq1 := blk_frozen BP.out 1; have hq2 := blk_frozen BP.out 2; have hq3 := blk_frozen BP.out 3))
      (try simp only [Act.put, List.setIfInBounds_toArray, List.set_cons_zero, List.set_cons_succ])
      have n0_ : Aside0 (Kd.R (Kd.int .i64) 3 ((((w4.setCell ⟨gp, 0, none⟩ (.int .i64 p1)).setCell ⟨gp, 1, none⟩ (.int .i64 p2)).setCell ⟨gp, 2, none⟩ (.int .i64 p3)).setCell ⟨gp, 3, none⟩ (.int .i64 p4)) w.heap.size (fun _ => True) (.slice (some ⟨g1, 0, none⟩) N cv) D) := ⟨Kd.R_mono (B.rf4 HO BP) (fun _ _ => trivial)⟩
      have n1_ : Aside0 (((((w4.setCell ⟨gp, 0, none⟩ (.int .i64 p1)).setCell ⟨gp, 1, none⟩ (.int .i64 p2)).setCell ⟨gp, 2, none⟩ (.int .i64 p3)).setCell ⟨gp, 3, none⟩ (.int .i64 p4)).heap[w.heap.size]? = some (.cells #[.int .i64 0, .int .i64 0, .int .i64 0, .slice none 0 0] 34 (0, 0))) := ⟨B.bf4 BZ NZP⟩
      have n2_ : Aside0 (((((w4.setCell ⟨gp, 0, none⟩ (.int .i64 p1)).setCell ⟨gp, 1, none⟩ (.int .i64 p2)).setCell ⟨gp, 2, none⟩ (.int .i64 p3)).setCell ⟨gp, 3, none⟩ (.int .i64 p4)).heap[go]? = some (.cells #[.int .i64 a0, .int .i64 a1, .int .i64 a2, (.slice (some ⟨g1, 0, none⟩) N cv)] 34 (0, 0))) := ⟨B.bf4 BO NOP⟩
      have n3_ : Aside0 (((((w4.setCell ⟨gp, 0, none⟩ (.int .i64 p1)).setCell ⟨gp, 1, none⟩ (.int .i64 p2)).setCell ⟨gp, 2, none⟩ (.int .i64 p3)).setCell ⟨gp, 3, none⟩ (.int .i64 p4)).heap[gp]? = some (.cells #[.int .i64 p1, .int .i64 p2, .int .i64 p3, .int .i64 p4] 56 (0, 0))) := ⟨B.bp4 BP⟩
      have n4_ : Aside0 (Below w.heap.size w ((((w4.setCell ⟨gp, 0, none⟩ (.int .i64 p1)).setCell ⟨gp, 1, none⟩ (.int .i64 p2)).setCell ⟨gp, 2, none⟩ (.int .i64 p3)).setCell ⟨gp, 3, none⟩ (.int .i64 p4))) := ⟨below_set (below_set (below_set (below_set HB.out GP.out) GP.out) GP.out) GP.out⟩
      clear HO BZ BO BP HB hp0 hp1 hp2 hp3 hq0 hq1 hq2 hq3 H2 hx0
      have HO := n0_
      have BZ := n1_
      have BO := n2_
      have BP := n3_
      have HB := n4_
      clear n0_ n1_ n2_ n3_ n4_
      generalize ((((w4.setCell ⟨gp, 0, none⟩ (.int .i64 p1)).setCell ⟨gp, 1, none⟩ (.int .i64 p2)).setCell ⟨gp, 2, none⟩ (.int .i64 p3)).setCell ⟨gp, 3, none⟩ (.int .i64 p4)) = w5 at HO BZ BO BP HB ⊢
      have n0_ := Aside0.mk (Kd.R_drew HO.out)
      have n1_ := Aside0.mk (blk_drew BZ.out)
      have n2_ := Aside0.mk (blk_drew BO.out)
      have n3_ := Aside0.mk (blk_drew BP.out)
      have n4_ := Aside0.mk (below_drew1 HB.out)
      clear HO BZ BO BP HB 
      have HO := n0_
      have BZ := n1_
      have BO := n2_
      have BP := n3_
      have HB := n4_
      clear n0_ n1_ n2_ n3_ n4_
      refine start_ (n := 8) (S := fun w' => w'.cell? ⟨gp, 0, none⟩ = some (.int .i64 p1) ∧ w'.cell? ⟨gp, 1, none⟩ = some (.int .i64 p2) ∧ w'.cell? ⟨gp, 2, none⟩ = some (.int .i64 p3) ∧ w'.cell? ⟨gp, 3, none⟩ = some (.int .i64 p4)) (ds := []) #[false, false, false, false, false, false, false, false] (by kernel_rfl) rfl rfl ⟨B.bc BP 0, B.bc BP 1, B.bc BP 2, B.bc BP 3⟩ (fun hHeld => ?_); refine with_tabW impl_JoinPasses.tab8 impl_JoinPasses.bits8 (fun HT_ HW_ => ?_)
      generalize w5.drew = w6 at HO BZ BO BP HB hHeld ⊢
      refine pure_ (i := 1) (N := some 51) (v := ?_) (a' := ?_) #[false, true, false, false, false, false, false, false] rfl rfl (any_of HT_.out (by kernel_rfl)) (fun _ _ _ h => h) (Or.inl ⟨by rfl, ?_⟩) ?_ ?_
      rotate_left
      · intro w'
        go_simp
        with_reducible rfl
      rotate_left
      · simp only [Act.put, List.setIfInBounds_toArray, List.set_cons_zero, List.set_cons_succ, i64_w, i32_w]
        rfl
      refine pure_ (i := 4) (N := some 54) (v := ?_) (a' := ?_) #[false, true, false, false, true, false, false, false] rfl rfl (any_of HT_.out (by kernel_rfl)) (fun _ _ _ h => h) (Or.inl ⟨by rfl, ?_⟩) ?_ ?_
      rotate_left
      · intro w'
        go_simp
        with_reducible rfl
      rotate_left
      · simp only [Act.put, List.setIfInBounds_toArray, List.set_cons_zero, List.set_cons_succ, i64_w, i32_w]
        rfl
      refine take_ (i := 0) (N := some 50) (v := ?_) (a' := ?_) #[true, true, false, false, true, false, false, false] rfl rfl (take_ofW HT_.out HW_.out (by kernel_rfl)) (fun _ _ _ h => h) (Or.inl ⟨by rfl, ?_⟩) hHeld ?_ ?_
      rotate_left
      · rintro w' ⟨s0, s1, s2, s3⟩
        go_simp
        with_reducible rfl
      rotate_left
      · simp only [Act.put, List.setIfInBounds_toArray, List.set_cons_zero, List.set_cons_succ, i64_w, i32_w]
        rfl
      refine take_ (i := 3) (N := some 53) (v := ?_) (a' := ?_) #[true, true, false, true, true, false, false, false] rfl rfl (take_ofW HT_.out HW_.out (by kernel_rfl)) (fun _ _ _ h => h) (Or.inl ⟨by rfl, ?_⟩) hHeld ?_ ?_
      rotate_left
      · rintro w' ⟨s0, s1, s2, s3⟩
        go_simp
        with_reducible rfl
      rotate_left
      · simp only [Act.put, List.setIfInBounds_toArray, List.set_cons_zero, List.set_cons_succ, i64_w, i32_w]
        rfl
      refine one_ (i := 2) (N := some 52) #[true, true, true, true, true, false, false, false] rfl rfl (one_of HT_.out (by kernel_rfl)) (by decide) (fun K hK => ?_)
      refine goes_ Try.func40 (by kernel_rfl) rfl #[.agg #[.int .i64 p1, .int .i64 p2, .int .i64 p3, .int .i64 p4], .int .i64 a0] (by rfl) rfl rfl B.am ?_
      refine (H3.out _).mono ?_
      rintro e w7 ⟨vc, rfl, hc0, hb⟩
      refine ⟨_, rfl, ?_⟩
      have HCS := Aside0.mk (Kd.R_tight rfl (Kd.R_lower hc0 (below_size (B.bl HB))))
      have HNC := Aside0.mk (show ∀ j, some j = vc.ownBlock → some j ≠ ((.slice (some ⟨g1, 0, none⟩) N cv) : Value).ownBlock from fun j h1 h2 => absurd (Kd.R_lt (B.kr HO) j h2.symm) (Nat.not_lt.2 (Kd.R_base hc0 j h1.symm)))
      clear hc0
      have n0_ := Aside0.mk (Kd.R_below (B.kr HO) hb)
      have n1_ := Aside0.mk (blk_below (B.kb BZ) hb)
      have n2_ := Aside0.mk (blk_below (B.kb BO) hb)
      have n3_ := Aside0.mk (blk_below (B.kb BP) hb)
      have n4_ := Aside0.mk (below_step (B.bl HB) hb)
      clear HO BZ BO BP HB hb
      have HO := n0_
      have BZ := n1_
      have BO := n2_
      have BP := n3_
      have HB := n4_
      clear n0_ n1_ n2_ n3_ n4_
      obtain ⟨Ac, cc, ec⟩ := Kd.R_slice HCS.out
      subst ec
      refine hK.out _ _ ⟨B.bc BP 0, B.bc BP 1, B.bc BP 2, B.bc BP 3⟩ (fun hHeld => ?_)
      clear hK K
      refine norm_ (a' := ?_) ?_ ?_
      rotate_left
      · show Act.put _ (some 52) _ = _
        simp only [Act.put, List.setIfInBounds_toArray, List.set_cons_zero, List.set_cons_succ, i64_w, i32_w]
        rfl
      refine one_ (i := 5) (N := some 55) #[true, true, true, true, true, true, false, false] rfl rfl (one_of HT_.out (by kernel_rfl)) (by decide) (fun K hK => ?_)
      refine goes_ Try.func41 (by kernel_rfl) rfl #[.agg #[.int .i64 p1, .int .i64 p2, .int .i64 p3, .int .i64 p4], .int .i64 a1] (by rfl) rfl rfl B.am ?_
      refine (H4.out _).mono ?_
      rintro e w8 ⟨vr, rfl, hr0, hb⟩
      refine ⟨_, rfl, ?_⟩
      have HRS := Aside0.mk (Kd.R_tight rfl (Kd.R_lower hr0 (below_size (B.bl HB))))
      have HNR := Aside0.mk (show ∀ j, some j = vr.ownBlock → some j ≠ ((.slice (some ⟨g1, 0, none⟩) N cv) : Value).ownBlock from fun j h1 h2 => absurd (Kd.R_lt (B.kr HO) j h2.symm) (Nat.not_lt.2 (Kd.R_base hr0 j h1.symm)))
      clear hr0
      have n0_ := Aside0.mk (Kd.R_below (B.kr HO) hb)
      have n1_ := Aside0.mk (Kd.R_below (B.kr HCS) hb)
      have n2_ := Aside0.mk (blk_below (B.kb BZ) hb)
      have n3_ := Aside0.mk (blk_below (B.kb BO) hb)
      have n4_ := Aside0.mk (blk_below (B.kb BP) hb)
      have n5_ := Aside0.mk (below_step (B.bl HB) hb)
      clear HO HCS BZ BO BP HB hb
      have HO := n0_
      have HCS := n1_
      have BZ := n2_
      have BO := n3_
      have BP := n4_
      have HB := n5_
      clear n0_ n1_ n2_ n3_ n4_ n5_
      obtain ⟨Ar, cr, er⟩ := Kd.R_slice HRS.out
      subst er
      refine hK.out _ _ ⟨B.bc BP 0, B.bc BP 1, B.bc BP 2, B.bc BP 3⟩ (fun hHeld => ?_)
      clear hK K
      refine norm_ (a' := ?_) ?_ ?_
      rotate_left
      · show Act.put _ (some 55) _ = _
        simp only [Act.put, List.setIfInBounds_toArray, List.set_cons_zero, List.set_cons_succ, i64_w, i32_w]
        rfl
      refine pure_ (i := 6) (N := some 14) (v := ?_) (a' := ?_) #[true, true, true, true, true, true, true, false] rfl rfl (any_of HT_.out (by kernel_rfl)) (fun _ _ _ h => h) (Or.inl ⟨by rfl, ?_⟩) ?_ ?_
      rotate_left
      · intro w'
        go_simp
        with_reducible rfl
      rotate_left
      · simp only [Act.put, List.setIfInBounds_toArray, List.set_cons_zero, List.set_cons_succ, i64_w, i32_w]
        rfl
      refine pure_ (i := 7) (N := some 15) (v := ?_) (a' := ?_) #[true, true, true, true, true, true, true, true] rfl rfl (any_of HT_.out (by kernel_rfl)) (fun _ _ _ h => h) (Or.inl ⟨by rfl, ?_⟩) ?_ ?_
      rotate_left
      · intro w'
        go_simp
        with_reducible rfl
      rotate_left
      · simp only [Act.put, List.setIfInBounds_toArray, List.set_cons_zero, List.set_cons_succ, i64_w, i32_w]
        rfl
      refine done_ (done_of HT_.out (by kernel_rfl)) ?_
      clear HT_ HW_ hHeld BP GP NZP NOP H3 H4
      rcases HCASE.out with ⟨hby, e1, e2, e3, e4, e5⟩ | ⟨hby, hln, e1, e2, e3, e4, e5⟩ | ⟨hby, hln, hdl, hj⟩
      · clear HCASE
        subst e1
        subst e2
        subst e3
        subst e4
        subst e5
        have H5 := Aside0.mk (fun (W : World) (hW : Below w.heap.size w W) => impl_areBytes.calls Ai ca dt false W (Kd.C_below HCA.out hW) HLA.out (by rw [joinBytes_ok, hby]))
        clear hby
        go_wp2_with fail
        refine (H5.out _ (B.bl HB)).mono ?_
        rintro e w9 ⟨rfl, hd⟩
        have hb := hd.below
        clear hd H5
        have n0_ := Aside0.mk (Kd.R_below (B.kr HO) hb)
        have n1_ := Aside0.mk (Kd.R_below (B.kr HCS) hb)
        have n2_ := Aside0.mk (Kd.R_below (B.kr HRS) hb)
        have n3_ := Aside0.mk (blk_below (B.kb BZ) hb)
        have n4_ := Aside0.mk (blk_below (B.kb BO) hb)
        have n5_ := Aside0.mk (below_step (B.bl HB) hb)
        clear HO HCS HRS BZ BO HB hb
        have HO := n0_
        have HCS := n1_
        have HRS := n2_
        have BZ := n3_
        have BO := n4_
        have HB := n5_
        clear n0_ n1_ n2_ n3_ n4_ n5_
        have hcz0 : w9.cell? ⟨w.heap.size, 0, none⟩ = some (.int .i64 0) := B.bc BZ 0
        have hcz1 : w9.cell? ⟨w.heap.size, 1, none⟩ = some (.int .i64 0) := B.bc BZ 1
        have hcz2 : w9.cell? ⟨w.heap.size, 2, none⟩ = some (.int .i64 0) := B.bc BZ 2
        have hcz3 : w9.cell? ⟨w.heap.size, 3, none⟩ = some (.slice none 0 0) := B.bc BZ 3
        have hfz0 := blk_frozen BZ.out 0
        have hfz1 := blk_frozen BZ.out 1
        have hfz2 := blk_frozen BZ.out 2
        have hfz3 := blk_frozen BZ.out 3
        go_wp2
        refine bodyPost_ret (results_ct rfl _ _ (w.heap.size) 34 #[.int .i64 0, .int .i64 0, .int .i64 0, .slice none 0 0] (0, 0) _ rfl (by first | exact BZ.out | (refine blk_put (cs := #[.int .i64 0, .int .i64 0, .int .i64 0, .slice none 0 0]) ?_ 3 _ rfl; refine blk_put (cs := #[.int .i64 0, .int .i64 0, .int .i64 0, .slice none 0 0]) ?_ 2 _ rfl; refine blk_put (cs := #[.int .i64 0, .int .i64 0, .int .i64 0, .slice none 0 0]) ?_ 1 _ rfl; refine blk_put (cs := #[.int .i64 0, .int .i64 0, .int .i64 0, .slice none 0 0]) ?_ 0 _ rfl; exact BZ.out)) Try.underlying34 rfl (by kernel_rfl)) rfl ?_
        exact ⟨_, by first | rfl | (simp; done), Kd.R_nil _ _ _ _ _, by first | exact HB.out | exact (below_set (below_set (below_set (below_set HB.out (Nat.le_refl _)) (Nat.le_refl _)) (Nat.le_refl _)) (Nat.le_refl _))⟩
      · clear HCASE
        subst e1
        subst e2
        subst e3
        subst e4
        subst e5
        have H5 := Aside0.mk (fun (W : World) (hW : Below w.heap.size w W) => impl_areBytes.calls Ai ca dt true W (Kd.C_below HCA.out hW) HLA.out (by rw [joinBytes_ok, hby]))
        clear hby
        go_wp2_with fail
        refine (H5.out _ (B.bl HB)).mono ?_
        rintro e w9 ⟨rfl, hd⟩
        have hb := hd.below
        clear hd H5
        have n0_ := Aside0.mk (Kd.R_below (B.kr HO) hb)
        have n1_ := Aside0.mk (Kd.R_below (B.kr HCS) hb)
        have n2_ := Aside0.mk (Kd.R_below (B.kr HRS) hb)
        have n3_ := Aside0.mk (blk_below (B.kb BZ) hb)
        have n4_ := Aside0.mk (blk_below (B.kb BO) hb)
        have n5_ := Aside0.mk (below_step (B.bl HB) hb)
        clear HO HCS HRS BZ BO HB hb
        have HO := n0_
        have HCS := n1_
        have HRS := n2_
        have BZ := n3_
        have BO := n4_
        have HB := n5_
        clear n0_ n1_ n2_ n3_ n4_ n5_
        have hcz0 : w9.cell? ⟨w.heap.size, 0, none⟩ = some (.int .i64 0) := B.bc BZ 0
        have hcz1 : w9.cell? ⟨w.heap.size, 1, none⟩ = some (.int .i64 0) := B.bc BZ 1
        have hcz2 : w9.cell? ⟨w.heap.size, 2, none⟩ = some (.int .i64 0) := B.bc BZ 2
        have hcz3 : w9.cell? ⟨w.heap.size, 3, none⟩ = some (.slice none 0 0) := B.bc BZ 3
        have hfz0 := blk_frozen BZ.out 0
        have hfz1 := blk_frozen BZ.out 1
        have hfz2 := blk_frozen BZ.out 2
        have hfz3 := blk_frozen BZ.out 3
        go_wp2
        refine bodyPost_ret (results_ct rfl _ _ (w.heap.size) 34 #[.int .i64 0, .int .i64 0, .int .i64 0, .slice none 0 0] (0, 0) _ rfl (by first | exact BZ.out | (refine blk_put (cs := #[.int .i64 0, .int .i64 0, .int .i64 0, .slice none 0 0]) ?_ 3 _ rfl; refine blk_put (cs := #[.int .i64 0, .int .i64 0, .int .i64 0, .slice none 0 0]) ?_ 2 _ rfl; refine blk_put (cs := #[.int .i64 0, .int .i64 0, .int .i64 0, .slice none 0 0]) ?_ 1 _ rfl; refine blk_put (cs := #[.int .i64 0, .int .i64 0, .int .i64 0, .slice none 0 0]) ?_ 0 _ rfl; exact BZ.out)) Try.underlying34 rfl (by kernel_rfl)) rfl ?_
        exact ⟨_, by first | rfl | (simp; done), Kd.R_nil _ _ _ _ _, by first | exact HB.out | exact (below_set (below_set (below_set (below_set HB.out (Nat.le_refl _)) (Nat.le_refl _)) (Nat.le_refl _)) (Nat.le_refl _))⟩
      clear HCASE
      have H5 := Aside0.mk (fun (W : World) (hW : Below w.heap.size w W) => impl_areBytes.calls Ai ca dt true W (Kd.C_below HCA.out hW) HLA.out (by rw [joinBytes_ok, hby]))
      have HJ := Aside0.mk hj
      have HDL := Aside0.mk hdl
      clear hby hj hdl
      go_wp2_with fail
      refine (H5.out _ (B.bl HB)).mono ?_
      rintro e w9 ⟨rfl, hd⟩
      have hb := hd.below
      clear hd H5
      have n0_ := Aside0.mk (Kd.R_below (B.kr HO) hb)
      have n1_ := Aside0.mk (Kd.R_below (B.kr HCS) hb)
      have n2_ := Aside0.mk (Kd.R_below (B.kr HRS) hb)
      have n3_ := Aside0.mk (blk_below (B.kb BZ) hb)
      have n4_ := Aside0.mk (blk_below (B.kb BO) hb)
      have n5_ := Aside0.mk (below_step (B.bl HB) hb)
      clear HO HCS HRS BZ BO HB hb
      have HO := n0_
      have HCS := n1_
      have HRS := n2_
      have BZ := n3_
      have BO := n4_
      have HB := n5_
      clear n0_ n1_ n2_ n3_ n4_ n5_
      go_wp2
      clear hln cib
      have HD1 := Aside0.mk (show (D, dt) = (D, dt) from rfl)
      clear HD1
      go_loopg [12, 74] rs.length (fun gg v12 v74 wy => ∃ (y : Int) (E F : List Int) (Af : Option Addr) (cf : Nat), v12 = .slice Af F.length cf ∧ v74 = .int .i64 y ∧ Aside0 (0 ≤ y ∧ y ≤ (rs.length : Int) ∧ rs.length - y.toNat ≤ gg) ∧ Aside0 (passJ a0.toNat a2.toNat (rs.take y.toNat) cs (D, dt) = (E, F)) ∧ Aside0 (B.ImgI a0 a1 a2 E) ∧ Aside0 (F.length ≤ cf) ∧ Aside0 (Kd.C (Kd.int .i64) w Af F.length F) ∧ Aside0 (wy.heap[w.heap.size]? = some (.cells #[.int .i64 0, .int .i64 0, .int .i64 0, .slice none 0 0] 34 (0, 0))) ∧ Aside0 (wy.heap[go]? = some (.cells #[.int .i64 a0, .int .i64 a1, .int .i64 a2, (.slice (some ⟨g1, 0, none⟩) N cv)] 34 (0, 0))) ∧ Aside0 (Kd.R (Kd.int .i64) 3 wy w.heap.size (fun j => some j = (.slice Ac cs.length cc : Value).ownBlock) (.slice Ac cs.length cc : Value) cs) ∧ Aside0 (Kd.R (Kd.int .i64) 3 wy w.heap.size (fun j => some j = (.slice Ar rs.length cr : Value).ownBlock) (.slice Ar rs.length cr : Value) rs) ∧ Aside0 (Kd.R (Kd.int .i64) 3 wy w.heap.size (fun _ => True) (.slice (some ⟨g1, 0, none⟩) N cv) E) ∧ Aside0 (Below w.heap.size w wy))
      case atStart => exact ⟨0, D, dt, Ai, ca, rfl, rfl, ⟨by omega⟩, ⟨rfl⟩, HD, HLA, HCA, BZ, BO, HCS, HRS, HO, HB⟩
      case round =>
        clear HO BZ BO HCS HRS HB HD HLA HCA
        obtain ⟨y, E, F, Af, cf, rfl, rfl, HY, HE, HIE, HLF, HCF, BZ, BO, HCS, HRS, HO, HB⟩ := hrel
        by_cases cy : y < (rs.length : Int)
        · have cyb : decide (y < (rs.length : Int)) = true := decide_eq_true cy
          have HCY := Aside0.mk cy
          have p1' : 0 ≤ y := HY.out.1
          have q1' : y < (rs.length : Int) := cy
          clear cy
          obtain ⟨gr, cr', er, gb, gl, HG⟩ := Kd.R_form HRS.out (by omega)
          injection er with ea_ en_ ec_
          subst ea_
          subst ec_
          clear en_ gb gl HG
          obtain ⟨hx0, hf0⟩ := Kd.R_celln 0 HRS.out y p1' q1'
          replace hx0 := hx0.trans (show _ = some (Value.int .i64 (rd rs y)) from rfl)
          have hyr := HK.out.2.1 (rd rs y) (B.rd_mem rs y p1' q1')
          replace p1' := eq_true p1'
          replace q1' := eq_true q1'
          generalize hz : rd rs y = yv at hx0 hyr
          have HZ := Aside0.mk hz
          have HYV := Aside0.mk hyr
          clear hz hyr
          go_wp2
          clear hx0 hf0 cyb p1' q1'
          go_loopg [12, 80] cs.length (fun gg v12 v80 wx => ∃ (x : Int) (E1 F1 : List Int) (Af : Option Addr) (cf : Nat), v12 = .slice Af F1.length cf ∧ v80 = .int .i64 x ∧ Aside0 (0 ≤ x ∧ x ≤ (cs.length : Int) ∧ cs.length - x.toNat ≤ gg) ∧ Aside0 (rowJ a0.toNat a2.toNat (cs.take x.toNat) (E, F) yv = (E1, F1)) ∧ Aside0 (B.ImgI a0 a1 a2 E1) ∧ Aside0 (F1.length ≤ cf) ∧ Aside0 (Kd.C (Kd.int .i64) w Af F1.length F1) ∧ Aside0 (wx.heap[w.heap.size]? = some (.cells #[.int .i64 0, .int .i64 0, .int .i64 0, .slice none 0 0] 34 (0, 0))) ∧ Aside0 (wx.heap[go]? = some (.cells #[.int .i64 a0, .int .i64 a1, .int .i64 a2, (.slice (some ⟨g1, 0, none⟩) N cv)] 34 (0, 0))) ∧ Aside0 (Kd.R (Kd.int .i64) 3 wx w.heap.size (fun j => some j = (.slice Ac cs.length cc : Value).ownBlock) (.slice Ac cs.length cc : Value) cs) ∧ Aside0 (Kd.R (Kd.int .i64) 3 wx w.heap.size (fun j => some j = (.slice (some ⟨gr, 0, none⟩) rs.length cr : Value).ownBlock) (.slice (some ⟨gr, 0, none⟩) rs.length cr : Value) rs) ∧ Aside0 (Kd.R (Kd.int .i64) 3 wx w.heap.size (fun _ => True) (.slice (some ⟨g1, 0, none⟩) N cv) E1) ∧ Aside0 (Below w.heap.size w wx))
          case atStart => exact ⟨0, E, F, Af, cf, rfl, rfl, ⟨by omega⟩, ⟨rfl⟩, HIE, HLF, HCF, BZ, BO, HCS, HRS, HO, HB⟩
          case round =>
            clear HO BZ BO HCS HRS HB HIE HLF HCF
            clear Af cf
            obtain ⟨x, E1, F1, Af, cf, rfl, rfl, HX, HR, HIE, HLF, HCF, BZ, BO, HCS, HRS, HO, HB⟩ := hrel
            by_cases cx : x < (cs.length : Int)
            · have cxb : decide (x < (cs.length : Int)) = true := decide_eq_true cx
              have HCX := Aside0.mk cx
              have p2' : 0 ≤ x := HX.out.1
              have q2' : x < (cs.length : Int) := cx
              clear cx
              obtain ⟨gc, cc', ec, gb, gl, HG⟩ := Kd.R_form HCS.out (by omega)
              injection ec with ea_ en_ ec_
              subst ea_
              subst ec_
              clear en_ gb gl HG
              obtain ⟨hx0, hf0⟩ := Kd.R_celln 0 HCS.out x p2' q2'
              replace hx0 := hx0.trans (show _ = some (Value.int .i64 (rd cs x)) from rfl)
              have hxr := HK.out.1 (rd cs x) (B.rd_mem cs x p2' q2')
              have HW : Aside0 (wrap64 (x + 1) = x + 1) := ⟨B.w64 (by omega) (by have := HK.out.2.2.2; omega)⟩
              replace p2' := eq_true p2'
              replace q2' := eq_true q2'
              generalize hz : rd cs x = xv at hx0 hxr
              have HXV := Aside0.mk hxr
              have hst := join_next HR.out ⟨HX.out.1, HCX.out⟩ hz
              have hrm := join_room HE.out HR.out HDL.out ⟨HY.out.1, HCY.out⟩ ⟨HX.out.1, HCX.out⟩
              have hsp := setPix_parts E1 F1 a0.toNat a2.toNat xv.toNat yv.toNat
              have hI2 : B.ImgI a0 a1 a2 (B.setPix E1 a0.toNat a2.toNat xv.toNat yv.toNat (F1.take a2.toNat)) := stepJ_img yv xv (E1, F1) HIE.out hxr HYV.out hrm
              have hEN : E1.length = N := by rw [HIE.out.nat, ← HN.out, HI0.out.nat]
              have hcv : E1.length ≤ cv := by rw [hEN]; exact (Kd.R_reads' HO.out).2.1
              have HAT := Aside0.mk (fun (W : World) => at_slice a0 a1 a2 xv yv g1 cv E1 W HIE.out hxr HYV.out hcv)
              rw [hEN] at HAT
              have hix := HIE.out.idx hxr HYV.out
              have HM := Aside0.mk (show 0 < a2.toNat ∧ a2.toNat ≤ F1.length ∧ (yv.toNat * a0.toNat + xv.toNat) * a2.toNat + a2.toNat ≤ E1.length from by
                obtain ⟨_, _, _, x4, x5, _, x7⟩ := hix
                have := HS.out.2.2
                refine ⟨by omega, hrm, ?_⟩
                rw [← x7]
                omega)
              generalize B.setPix E1 a0.toNat a2.toNat xv.toNat yv.toNat (F1.take a2.toNat) = E2 at hst hsp hI2
              generalize (yv.toNat * a0.toNat + xv.toNat) * a2.toNat = off at HAT HM hsp
              have HSP := Aside0.mk hsp
              have HIE2 := Aside0.mk hI2
              obtain ⟨i0, hi0, _, hsz, _⟩ := info_parts info3
              obtain ⟨A2, hcut, hA2, hC2⟩ := print_drop_of (P := Try.prog) (Value.int .i64) 0 32 3 .i64 Try.underlying32 hi0 hsz Af cf F1 a2 (by have := HS.out.2.2; omega) (by have := HM.out.2.1; have := HS.out.2.2; omega) HLF.out
              have HCF2 := Aside0.mk (Kd.C_of_reads (h1 := fun _ => rfl) (hA2 _ (Kd.reads_of_C HCF.out)))
              have HLF2 := Aside0.mk hC2
              generalize F1.drop a2.toNat = F2 at hst hcut HCF2 HLF2
              have HST := Aside0.mk hst
              clear hst hrm hsp hI2 hEN hcv hix hxr hz hi0 hsz hA2 hC2 HR
              have hm0 : wr.cell? ⟨go, 0, none⟩ = some (.int .i64 a0) := B.bc BO 0
              have hm1 : wr.cell? ⟨go, 1, none⟩ = some (.int .i64 a1) := B.bc BO 1
              have hm2 : wr.cell? ⟨go, 2, none⟩ = some (.int .i64 a2) := B.bc BO 2
              have hm3 : wr.cell? ⟨go, 3, none⟩ = some ((.slice (some ⟨g1, 0, none⟩) N cv)) := B.bc BO 3
              go_wp2_with fail
              refine (HAT.out _).mono ?_
              rintro e w10 ⟨c1, rfl, hb⟩
              clear hm0 hm1 hm2 hm3 hx0 hf0 HAT
              have n0_ := Aside0.mk (Kd.R_below (B.kr HO) hb)
              have n1_ := Aside0.mk (Kd.R_below (B.kr HCS) hb)
              have n2_ := Aside0.mk (Kd.R_below (B.kr HRS) hb)
              have n3_ := Aside0.mk (blk_below (B.kb BZ) hb)
              have n4_ := Aside0.mk (blk_below (B.kb BO) hb)
              have n5_ := Aside0.mk (below_step (B.bl HB) hb)
              clear HO HCS HRS BZ BO HB hb
              have HO := n0_
              have HCS := n1_
              have HRS := n2_
              have BZ := n3_
              have BO := n4_
              have HB := n5_
              clear n0_ n1_ n2_ n3_ n4_ n5_
              have HC3 := Aside0.mk (Kd.C_below HCF.out HB.out)
              go_wp2_with ((with_reducible refine gate_builtin (b := .copy) (xs := #[.tmp 87, .tmp 88]) rfl ?_); refine B.R_copy_at (0 : Int) (enc := Value.int .i64) (h1 := fun _ => rfl) (w0 := w) w.heap.size rfl (.tmp 87) (.tmp 88) 32 32 3 rfl Try.underlying32 (by kernel_rfl) g1 N cv off a2.toNat c1 E1 F1 Af F1.length cf (fun _ => True) rfl rfl HM.out.1 HM.out.2.1 HM.out.2.2 ?aO ?aC ?aB ?aS ?_; (case aO => exact HO.out); (case aC => exact HC3.out); (case aB => exact HB.out); (case aS => exact HB.out.size); intro w11 ho hb hg; rw [HSP.out] at ho; have n0_ := Aside0.mk ho; have n1_ := Aside0.mk (Kd.R_grown HCS.out hg HNC.out); have n2_ := Aside0.mk (Kd.R_grown HRS.out hg HNR.out); have n3_ := Aside0.mk (blk_grown BZ.out hg (Kd.R_ne HO.out BZ.out (by decide))); have n4_ := Aside0.mk (blk_grown BO.out hg (Kd.R_ne HO.out BO.out (by decide))); have n5_ := Aside0.mk hb; clear HO HCS HRS BZ BO HB ho hb hg HC3; have HO := n0_; have HCS := n1_; have HRS := n2_; have BZ := n3_; have BO := n4_; have HB := n5_; clear n0_ n1_ n2_ n3_ n4_ n5_)
              go_roundg (cs.length - (x + 1).toNat)
              case measure => have := HX.out; have := HCX.out; omega
              case rel =>
                refine ⟨wrap64 (x + 1), E2, F2, A2, cf - a2.toNat, rfl, rfl, ⟨?_⟩, ⟨?_⟩, HIE2, HLF2, HCF2, BZ, BO, HCS, HRS, HO, HB⟩
                · rw [HW.out]; have := HX.out; have := HCX.out; omega
                · rw [HW.out]; exact HST.out
            · have cxb : decide (x < (cs.length : Int)) = false := decide_eq_false cx
              have ex : x.toNat = cs.length := by have := HX.out; omega
              have HP := Aside0.mk (join_row HE.out HR.out ex ⟨HY.out.1, HCY.out⟩ HZ.out)
              have HW : Aside0 (wrap64 (y + 1) = y + 1) := ⟨B.w64 (by have := HY.out; omega) (by have := HK.out.2.2.1; have := HCY.out; omega)⟩
              clear ex cx
              go_wp2
              go_roundg (rs.length - (y + 1).toNat)
              case measure => have := HY.out; have := HCY.out; omega
              case rel =>
                refine ⟨wrap64 (y + 1), E1, F1, Af, cf, rfl, rfl, ⟨?_⟩, ⟨?_⟩, HIE, HLF, HCF, BZ, BO, HCS, HRS, HO, HB⟩
                · rw [HW.out]; have := HY.out; have := HCY.out; omega
                · rw [HW.out]; exact HP.out
        · have cyb : decide (y < (rs.length : Int)) = false := decide_eq_false cy
          have ey : y.toNat = rs.length := by have := HY.out; omega
          have hp := HE.out
          rw [ey, List.take_length] at hp
          have hj := HJ.out
          rw [hp] at hj
          have HJ2 := Aside0.mk hj
          clear ey cy hp hj
          go_wp2
          go_roundg (7 - (i + 1).toNat)
          case measure => have := HI.out; have := HCI.out; omega
          case rel =>
            refine ⟨wrap64 (i + 1), E, rfl, ⟨?_⟩, ⟨?_⟩, HIE, BZ, BO, HO, HB⟩
            · rw [HW43.out]; have := HI.out; have := HCI.out; omega
            · rw [HW43.out]; exact HJ2.out
    · have q0' : ¬ i < (l3.length : Int) := by rw [HT.out]; exact ci
      have cib : decide (i < (l3.length : Int)) = false := decide_eq_false q0'
      have e7 : i.toNat = 7 := by have := HI.out; omega
      have hj := HJ.out
      rw [e7] at hj
      replace hj : some (a0, a1, a2, D, true) = some (r1, r2, r3, r4, r5) := hj
      simp only [Option.some.injEq, Prod.mk.injEq] at hj
      obtain ⟨e1, e2, e3, e4, e5⟩ := hj
      subst e1
      subst e2
      subst e3
      subst e4
      subst e5
      clear HJ e7 q0' ci
      have hm0 : wr.cell? ⟨go, 0, none⟩ = some (.int .i64 a0) := B.bc BO 0
      have hm1 : wr.cell? ⟨go, 1, none⟩ = some (.int .i64 a1) := B.bc BO 1
      have hm2 : wr.cell? ⟨go, 2, none⟩ = some (.int .i64 a2) := B.bc BO 2
      have hm3 : wr.cell? ⟨go, 3, none⟩ = some ((.slice (some ⟨g1, 0, none⟩) N cv)) := B.bc BO 3
      have hcz0 : wr.cell? ⟨w.heap.size, 0, none⟩ = some (.int .i64 0) := B.bc BZ 0
      have hcz1 : wr.cell? ⟨w.heap.size, 1, none⟩ = some (.int .i64 0) := B.bc BZ 1
      have hcz2 : wr.cell? ⟨w.heap.size, 2, none⟩ = some (.int .i64 0) := B.bc BZ 2
      have hcz3 : wr.cell? ⟨w.heap.size, 3, none⟩ = some (.slice none 0 0) := B.bc BZ 3
      have hfz0 := blk_frozen BZ.out 0
      have hfz1 := blk_frozen BZ.out 1
      have hfz2 := blk_frozen BZ.out 2
      have hfz3 := blk_frozen BZ.out 3
      go_wp2
      refine bodyPost_ret (results_ct rfl _ _ (w.heap.size) 34 #[.int .i64 a0, .int .i64 a1, .int .i64 a2, (.slice (some ⟨g1, 0, none⟩) N cv)] (0, 0) _ rfl (by first | exact BZ.out | (refine blk_put (cs := #[.int .i64 a0, .int .i64 a1, .int .i64 a2, .slice none 0 0]) ?_ 3 _ rfl; refine blk_put (cs := #[.int .i64 a0, .int .i64 a1, .int .i64 0, .slice none 0 0]) ?_ 2 _ rfl; refine blk_put (cs := #[.int .i64 a0, .int .i64 0, .int .i64 0, .slice none 0 0]) ?_ 1 _ rfl; refine blk_put (cs := #[.int .i64 0, .int .i64 0, .int .i64 0, .slice none 0 0]) ?_ 0 _ rfl; exact BZ.out)) Try.underlying34 rfl (by kernel_rfl)) rfl ?_
      exact ⟨_, by first | rfl | (simp; done), Kd.R_mono (Kd.R_far (p := ⟨w.heap.size, 3, none⟩) (Kd.R_far (p := ⟨w.heap.size, 2, none⟩) (Kd.R_far (p := ⟨w.heap.size, 1, none⟩) (Kd.R_far (p := ⟨w.heap.size, 0, none⟩) (Kd.R_types HO.out BZ.out (by decide)) (fun _ hk => hk.2) (.int .i64 a0)) (fun _ hk => hk.2) (.int .i64 a1)) (fun _ hk => hk.2) (.int .i64 a2)) (fun _ hk => hk.2) ((.slice (some ⟨g1, 0, none⟩) N cv))) (fun _ _ => trivial), by first | exact HB.out | exact (below_set (below_set (below_set (below_set HB.out (Nat.le_refl _)) (Nat.le_refl _)) (Nat.le_refl _)) (Nat.le_refl _))⟩
theorem impl_JoinPasses.calls (k : Nat) (a0 : Int) (a1 : Int) (a2 : Int) (A3 : Option Addr) (c3 : Nat) (l3 : List (List Int)) (r1 : Int) (r2 : Int) (r3 : Int) (r4 : List Int) (r5 : Bool) (w : World) (hr3 : Kd.C (Kd.slice 3 (Kd.int .i64)) w A3 l3.length l3) (hc3 : l3.length ≤ c3) (h : impl_JoinPasses.f k a0 a1 a2 l3 = some (r1, r2, r3, r4, r5)) :
    Calls Try.prog 14 #[.int .i64 a0, .int .i64 a1, .int .i64 a2, .slice A3 l3.length c3] w fun e w' => ∃ v3_ : Value, e = .returned (.tuple #[.agg #[.int .i64 r1, .int .i64 r2, .int .i64 r3, v3_], .bool r5]) ∧ Kd.R (Kd.int .i64) 3 w' w.heap.size (fun _ => True) v3_ r4 ∧ Below w.heap.size w w' := by
  unfold impl_JoinPasses.f at h
  by_cases hs : (1 ≤ a0 ∧ a0 ≤ 16) ∧ (1 ≤ a1 ∧ a1 ≤ 16) ∧ (1 ≤ a2 ∧ a2 ≤ 4)
  · have hv : impl_isShape.f a0 a1 a2 = some true := by
      rw [joinShape_ok]
      simp only [Option.some.injEq, Bool.and_eq_true, decide_eq_true_eq]
      exact hs
    by_cases t1 : l3.length = 7
    · rw [if_pos ⟨hs.1, hs.2.1, hs.2.2, t1⟩] at h
      exact join_yes k a0 a1 a2 A3 c3 l3 r1 r2 r3 r4 r5 w hr3 hc3 hv t1 hs.1 hs.2.1 hs.2.2 h
    · rw [if_neg (fun g => t1 g.2.2.2)] at h
      simp only [Option.some.injEq, Prod.mk.injEq] at h
      obtain ⟨rfl, rfl, rfl, rfl, rfl⟩ := h
      exact join_ln a0 a1 a2 A3 c3 l3 w hr3 hc3 hv t1
  · have hv : impl_isShape.f a0 a1 a2 = some false := by
      rw [joinShape_ok]
      refine congrArg some (Bool.eq_false_iff.2 fun g => hs ?_)
      simp only [Bool.and_eq_true, decide_eq_true_eq] at g
      exact g
    rw [if_neg (fun g => hs ⟨g.1, g.2.1, g.2.2.1⟩)] at h
    simp only [Option.some.injEq, Prod.mk.injEq] at h
    obtain ⟨rfl, rfl, rfl, rfl, rfl⟩ := h
    exact join_no a0 a1 a2 A3 c3 l3 w hr3 hc3 hv

/-! ### spec_inRange: function 36 -/
def spec_inRange.f (a0 : Int) (a1 : Int) (a2 : Int) : Option (Bool) := if a1 ≤ a0 then (some (decide (a0 ≤ a2))) else (some false)
set_option maxHeartbeats 8000000 in
set_option maxRecDepth 100000 in
theorem spec_inRange.calls (a0 : Int) (a1 : Int) (a2 : Int) (r : Bool) (w : World) (h : spec_inRange.f a0 a1 a2 = some r) :
    Calls Try.prog 36 #[.int .i64 a0, .int .i64 a1, .int .i64 a2] w fun e w' => e = .returned (.bool r) ∧ Drawn0 w w' := by
  have H : (if a1 ≤ a0 then (some (decide (a0 ≤ a2))) else (some false)) = some r := h
  clear h
  by_cases c4 : a1 ≤ a0
  · rw [if_pos c4] at H
    have c4b0 : decide (a1 ≤ a0) = true := decide_eq_true c4
    clear c4
    obtain rfl := Option.some.inj H
    simp only [Option.some.injEq, Prod.mk.injEq] at H
    obtain ⟨rfl⟩ := H
    go_enter Try.func36, Try.ntmps36
    go_wp2
    go_ret
    exact ⟨by first | rfl | (simp; done) | (simp [*]; done), by repeat (first | exact Drawn0.refl _ | apply Drawn0.step)⟩
  rw [if_neg c4] at H
  have c4b0 : decide (a1 ≤ a0) = false := decide_eq_false c4
  clear c4
  obtain rfl := Option.some.inj H
  simp only [Option.some.injEq, Prod.mk.injEq] at H
  obtain ⟨rfl⟩ := H
  go_enter Try.func36, Try.ntmps36
  go_wp2
  go_ret
  exact ⟨by first | rfl | (simp; done) | (simp [*]; done), by repeat (first | exact Drawn0.refl _ | apply Drawn0.step)⟩

/-! ### spec_validShape: function 35 -/
def spec_validShape.f (a0 : Int) (a1 : Int) (a2 : Int) : Option (Bool) := (spec_inRange.f a0 1 16).bind fun t117 => (if t117 = true then ((spec_inRange.f a1 1 16).bind fun t118 => (if t118 = true then ((spec_inRange.f a2 1 4).bind fun t119 => (some t119)) else (some false))) else (some false))
set_option maxHeartbeats 8000000 in
set_option maxRecDepth 100000 in
theorem spec_validShape.calls (a0 : Int) (a1 : Int) (a2 : Int) (r : Bool) (w : World) (h : spec_validShape.f a0 a1 a2 = some r) :
    Calls Try.prog 35 #[.int .i64 a0, .int .i64 a1, .int .i64 a2] w fun e w' => e = .returned (.bool r) ∧ Drawn0 w w' := by
  have H : ((spec_inRange.f a0 1 16).bind fun t117 => (if t117 = true then ((spec_inRange.f a1 1 16).bind fun t118 => (if t118 = true then ((spec_inRange.f a2 1 4).bind fun t119 => (some t119)) else (some false))) else (some false))) = some r := h
  clear h
  replace H := Option.bind_eq_some_iff.mp H
  obtain ⟨t117, A40, H⟩ := H
  replace H : (if t117 = true then ((spec_inRange.f a1 1 16).bind fun t118 => (if t118 = true then ((spec_inRange.f a2 1 4).bind fun t119 => (some t119)) else (some false))) else (some false)) = some r := H
  have A4 := Aside0.mk A40
  clear A40
  by_cases c5 : t117 = true
  · subst c5
    have H1 : ((spec_inRange.f a1 1 16).bind fun t118 => (if t118 = true then ((spec_inRange.f a2 1 4).bind fun t119 => (some t119)) else (some false))) = some r := by rw [if_pos rfl] at H; exact H
    clear H
    have H := H1
    clear H1
    replace H := Option.bind_eq_some_iff.mp H
    obtain ⟨t118, A60, H⟩ := H
    replace H : (if t118 = true then ((spec_inRange.f a2 1 4).bind fun t119 => (some t119)) else (some false)) = some r := H
    have A6 := Aside0.mk A60
    clear A60
    by_cases c7 : t118 = true
    · subst c7
      have H1 : ((spec_inRange.f a2 1 4).bind fun t119 => (some t119)) = some r := by rw [if_pos rfl] at H; exact H
      clear H
      have H := H1
      clear H1
      replace H := Option.bind_eq_some_iff.mp H
      obtain ⟨t119, A80, H⟩ := H
      replace H : (some t119) = some r := H
      have A8 := Aside0.mk A80
      clear A80
      obtain rfl := Option.some.inj H
      simp only [Option.some.injEq, Prod.mk.injEq] at H
      obtain ⟨rfl⟩ := H
      go_enter Try.func35, Try.ntmps35
      go_wp2_with (first | ((with_reducible refine gate_callee (f := 36) rfl ?_); refine goesL_ (some 8) rfl rfl Try.func36 (by kernel_rfl) rfl #[.int .i64 a0, .int .i64 1, .int .i64 16] rfl B.am ?_; (with_reducible refine (spec_inRange.calls a0 1 16 true _ A4.out).mono ?_); rintro e w' ⟨rfl, ⟨nd, rfl⟩⟩; refine ⟨_, rfl, ?_⟩) | (go_at_call 36; (with_reducible refine (spec_inRange.calls a1 1 16 true _ A6.out).mono ?_); rintro e w' ⟨rfl, ⟨nd, rfl⟩⟩) | (go_at_call 36; (with_reducible refine (spec_inRange.calls a2 1 4 t119 _ A8.out).mono ?_); rintro e w' ⟨rfl, ⟨nd, rfl⟩⟩))
      go_ret
      exact ⟨by first | rfl | (simp; done) | (simp [*]; done), by repeat (first | exact Drawn0.refl _ | apply Drawn0.step)⟩
    replace c7 := Bool.eq_false_iff.mpr c7
    subst c7
    have H1 : (some false) = some r := by rw [if_neg (show ¬ (false = true) by decide)] at H; exact H
    clear H
    have H := H1
    clear H1
    obtain rfl := Option.some.inj H
    simp only [Option.some.injEq, Prod.mk.injEq] at H
    obtain ⟨rfl⟩ := H
    go_enter Try.func35, Try.ntmps35
    go_wp2_with (first | ((with_reducible refine gate_callee (f := 36) rfl ?_); refine goesL_ (some 8) rfl rfl Try.func36 (by kernel_rfl) rfl #[.int .i64 a0, .int .i64 1, .int .i64 16] rfl B.am ?_; (with_reducible refine (spec_inRange.calls a0 1 16 true _ A4.out).mono ?_); rintro e w' ⟨rfl, ⟨nd, rfl⟩⟩; refine ⟨_, rfl, ?_⟩) | (go_at_call 36; (with_reducible refine (spec_inRange.calls a1 1 16 false _ A6.out).mono ?_); rintro e w' ⟨rfl, ⟨nd, rfl⟩⟩))
    go_ret
    exact ⟨by first | rfl | (simp; done) | (simp [*]; done), by repeat (first | exact Drawn0.refl _ | apply Drawn0.step)⟩
  replace c5 := Bool.eq_false_iff.mpr c5
  subst c5
  have H1 : (some false) = some r := by rw [if_neg (show ¬ (false = true) by decide)] at H; exact H
  clear H
  have H := H1
  clear H1
  obtain rfl := Option.some.inj H
  simp only [Option.some.injEq, Prod.mk.injEq] at H
  obtain ⟨rfl⟩ := H
  go_enter Try.func35, Try.ntmps35
  go_wp2_with (first | ((with_reducible refine gate_callee (f := 36) rfl ?_); refine goesL_ (some 8) rfl rfl Try.func36 (by kernel_rfl) rfl #[.int .i64 a0, .int .i64 1, .int .i64 16] rfl B.am ?_; (with_reducible refine (spec_inRange.calls a0 1 16 false _ A4.out).mono ?_); rintro e w' ⟨rfl, ⟨nd, rfl⟩⟩; refine ⟨_, rfl, ?_⟩))
  go_ret
  exact ⟨by first | rfl | (simp; done) | (simp [*]; done), by repeat (first | exact Drawn0.refl _ | apply Drawn0.step)⟩

end Go.Proofs.Ytpadegboplcapaa.Q
