-- Written by a program of this session (the kit's printer, with hand-proved contracts for the functions that it does not take).
import Derived.Test.YtpadegboplcapaaQ0
namespace Go.Proofs.Ytpadegboplcapaa.Q
open Go.RowKit Go.Proofs.YtpadegboplcapaaW.PrintWords Go.Proofs.YtpadegboplcapaaW.PrintLast Go.Proofs.YtpadegboplcapaaW.PrintMore
attribute [local go_sem] max2_int min2_int max_two min_two max_three min_three max_four min_four   -- for this text's walks alone
set_option linter.unusedVariables false
set_option linter.unusedSimpArgs false

/-! ### impl_passOf: function 39 (by hand) -/
-- GIVEN loop.example/pixelworks/impl.passOf
-- ROUNDS no
-- MAKING yes
def passT (k : Int) : Int × Int × Int × Int := if k = 0 then (0, 0, 8, 8) else if k = 1 then (4, 0, 8, 8) else if k = 2 then (0, 4, 4, 8) else if k = 3 then (2, 0, 4, 4) else if k = 4 then (0, 2, 2, 4) else if k = 5 then (1, 0, 2, 2) else (0, 1, 1, 2)
def impl_passOf.f (a0 : Int) : Option (Int × Int × Int × Int) := if 0 ≤ a0 ∧ a0 ≤ 6 then some (passT a0) else none
set_option maxHeartbeats 2000000 in
theorem passOf_0 (w : World) : Calls Try.prog 39 #[.int .i64 0] w fun e w' => e = .returned (.agg #[.int .i64 0, .int .i64 0, .int .i64 8, .int .i64 8]) ∧ Below w.heap.size w w' := by
  have i0 : ∀ w : World, Sem.run Try.prog (Instr.index 71 (.agg #[.int .i64 0, .int .i64 0, .int .i64 8, .int .i64 8, .int .i64 4, .int .i64 0, .int .i64 8, .int .i64 8, .int .i64 0, .int .i64 4, .int .i64 4, .int .i64 8, .int .i64 2, .int .i64 0, .int .i64 4, .int .i64 4, .int .i64 0, .int .i64 2, .int .i64 2, .int .i64 4, .int .i64 1, .int .i64 0, .int .i64 2, .int .i64 2, .int .i64 0, .int .i64 1, .int .i64 1, .int .i64 2]) (.int .i64 0)) w = .ok (.agg #[.int .i64 0, .int .i64 0, .int .i64 8, .int .i64 8]) w := fun _ => by kernel_rfl
  go_enter Try.func39, Try.ntmps39
  go_wp2
  exact bodyPost_ret (v := .agg #[.int .i64 0, .int .i64 0, .int .i64 8, .int .i64 8]) (by simp [results, Try.results39, go_sem]) rfl ⟨rfl, (Below.refl _ _).alloc (Nat.le_refl _) _⟩
set_option maxHeartbeats 2000000 in
theorem passOf_1 (w : World) : Calls Try.prog 39 #[.int .i64 1] w fun e w' => e = .returned (.agg #[.int .i64 4, .int .i64 0, .int .i64 8, .int .i64 8]) ∧ Below w.heap.size w w' := by
  have i0 : ∀ w : World, Sem.run Try.prog (Instr.index 71 (.agg #[.int .i64 0, .int .i64 0, .int .i64 8, .int .i64 8, .int .i64 4, .int .i64 0, .int .i64 8, .int .i64 8, .int .i64 0, .int .i64 4, .int .i64 4, .int .i64 8, .int .i64 2, .int .i64 0, .int .i64 4, .int .i64 4, .int .i64 0, .int .i64 2, .int .i64 2, .int .i64 4, .int .i64 1, .int .i64 0, .int .i64 2, .int .i64 2, .int .i64 0, .int .i64 1, .int .i64 1, .int .i64 2]) (.int .i64 1)) w = .ok (.agg #[.int .i64 4, .int .i64 0, .int .i64 8, .int .i64 8]) w := fun _ => by kernel_rfl
  go_enter Try.func39, Try.ntmps39
  go_wp2
  exact bodyPost_ret (v := .agg #[.int .i64 4, .int .i64 0, .int .i64 8, .int .i64 8]) (by simp [results, Try.results39, go_sem]) rfl ⟨rfl, (Below.refl _ _).alloc (Nat.le_refl _) _⟩
set_option maxHeartbeats 2000000 in
theorem passOf_2 (w : World) : Calls Try.prog 39 #[.int .i64 2] w fun e w' => e = .returned (.agg #[.int .i64 0, .int .i64 4, .int .i64 4, .int .i64 8]) ∧ Below w.heap.size w w' := by
  have i0 : ∀ w : World, Sem.run Try.prog (Instr.index 71 (.agg #[.int .i64 0, .int .i64 0, .int .i64 8, .int .i64 8, .int .i64 4, .int .i64 0, .int .i64 8, .int .i64 8, .int .i64 0, .int .i64 4, .int .i64 4, .int .i64 8, .int .i64 2, .int .i64 0, .int .i64 4, .int .i64 4, .int .i64 0, .int .i64 2, .int .i64 2, .int .i64 4, .int .i64 1, .int .i64 0, .int .i64 2, .int .i64 2, .int .i64 0, .int .i64 1, .int .i64 1, .int .i64 2]) (.int .i64 2)) w = .ok (.agg #[.int .i64 0, .int .i64 4, .int .i64 4, .int .i64 8]) w := fun _ => by kernel_rfl
  go_enter Try.func39, Try.ntmps39
  go_wp2
  exact bodyPost_ret (v := .agg #[.int .i64 0, .int .i64 4, .int .i64 4, .int .i64 8]) (by simp [results, Try.results39, go_sem]) rfl ⟨rfl, (Below.refl _ _).alloc (Nat.le_refl _) _⟩
set_option maxHeartbeats 2000000 in
theorem passOf_3 (w : World) : Calls Try.prog 39 #[.int .i64 3] w fun e w' => e = .returned (.agg #[.int .i64 2, .int .i64 0, .int .i64 4, .int .i64 4]) ∧ Below w.heap.size w w' := by
  have i0 : ∀ w : World, Sem.run Try.prog (Instr.index 71 (.agg #[.int .i64 0, .int .i64 0, .int .i64 8, .int .i64 8, .int .i64 4, .int .i64 0, .int .i64 8, .int .i64 8, .int .i64 0, .int .i64 4, .int .i64 4, .int .i64 8, .int .i64 2, .int .i64 0, .int .i64 4, .int .i64 4, .int .i64 0, .int .i64 2, .int .i64 2, .int .i64 4, .int .i64 1, .int .i64 0, .int .i64 2, .int .i64 2, .int .i64 0, .int .i64 1, .int .i64 1, .int .i64 2]) (.int .i64 3)) w = .ok (.agg #[.int .i64 2, .int .i64 0, .int .i64 4, .int .i64 4]) w := fun _ => by kernel_rfl
  go_enter Try.func39, Try.ntmps39
  go_wp2
  exact bodyPost_ret (v := .agg #[.int .i64 2, .int .i64 0, .int .i64 4, .int .i64 4]) (by simp [results, Try.results39, go_sem]) rfl ⟨rfl, (Below.refl _ _).alloc (Nat.le_refl _) _⟩
set_option maxHeartbeats 2000000 in
theorem passOf_4 (w : World) : Calls Try.prog 39 #[.int .i64 4] w fun e w' => e = .returned (.agg #[.int .i64 0, .int .i64 2, .int .i64 2, .int .i64 4]) ∧ Below w.heap.size w w' := by
  have i0 : ∀ w : World, Sem.run Try.prog (Instr.index 71 (.agg #[.int .i64 0, .int .i64 0, .int .i64 8, .int .i64 8, .int .i64 4, .int .i64 0, .int .i64 8, .int .i64 8, .int .i64 0, .int .i64 4, .int .i64 4, .int .i64 8, .int .i64 2, .int .i64 0, .int .i64 4, .int .i64 4, .int .i64 0, .int .i64 2, .int .i64 2, .int .i64 4, .int .i64 1, .int .i64 0, .int .i64 2, .int .i64 2, .int .i64 0, .int .i64 1, .int .i64 1, .int .i64 2]) (.int .i64 4)) w = .ok (.agg #[.int .i64 0, .int .i64 2, .int .i64 2, .int .i64 4]) w := fun _ => by kernel_rfl
  go_enter Try.func39, Try.ntmps39
  go_wp2
  exact bodyPost_ret (v := .agg #[.int .i64 0, .int .i64 2, .int .i64 2, .int .i64 4]) (by simp [results, Try.results39, go_sem]) rfl ⟨rfl, (Below.refl _ _).alloc (Nat.le_refl _) _⟩
set_option maxHeartbeats 2000000 in
theorem passOf_5 (w : World) : Calls Try.prog 39 #[.int .i64 5] w fun e w' => e = .returned (.agg #[.int .i64 1, .int .i64 0, .int .i64 2, .int .i64 2]) ∧ Below w.heap.size w w' := by
  have i0 : ∀ w : World, Sem.run Try.prog (Instr.index 71 (.agg #[.int .i64 0, .int .i64 0, .int .i64 8, .int .i64 8, .int .i64 4, .int .i64 0, .int .i64 8, .int .i64 8, .int .i64 0, .int .i64 4, .int .i64 4, .int .i64 8, .int .i64 2, .int .i64 0, .int .i64 4, .int .i64 4, .int .i64 0, .int .i64 2, .int .i64 2, .int .i64 4, .int .i64 1, .int .i64 0, .int .i64 2, .int .i64 2, .int .i64 0, .int .i64 1, .int .i64 1, .int .i64 2]) (.int .i64 5)) w = .ok (.agg #[.int .i64 1, .int .i64 0, .int .i64 2, .int .i64 2]) w := fun _ => by kernel_rfl
  go_enter Try.func39, Try.ntmps39
  go_wp2
  exact bodyPost_ret (v := .agg #[.int .i64 1, .int .i64 0, .int .i64 2, .int .i64 2]) (by simp [results, Try.results39, go_sem]) rfl ⟨rfl, (Below.refl _ _).alloc (Nat.le_refl _) _⟩
set_option maxHeartbeats 2000000 in
theorem passOf_6 (w : World) : Calls Try.prog 39 #[.int .i64 6] w fun e w' => e = .returned (.agg #[.int .i64 0, .int .i64 1, .int .i64 1, .int .i64 2]) ∧ Below w.heap.size w w' := by
  have i0 : ∀ w : World, Sem.run Try.prog (Instr.index 71 (.agg #[.int .i64 0, .int .i64 0, .int .i64 8, .int .i64 8, .int .i64 4, .int .i64 0, .int .i64 8, .int .i64 8, .int .i64 0, .int .i64 4, .int .i64 4, .int .i64 8, .int .i64 2, .int .i64 0, .int .i64 4, .int .i64 4, .int .i64 0, .int .i64 2, .int .i64 2, .int .i64 4, .int .i64 1, .int .i64 0, .int .i64 2, .int .i64 2, .int .i64 0, .int .i64 1, .int .i64 1, .int .i64 2]) (.int .i64 6)) w = .ok (.agg #[.int .i64 0, .int .i64 1, .int .i64 1, .int .i64 2]) w := fun _ => by kernel_rfl
  go_enter Try.func39, Try.ntmps39
  go_wp2
  exact bodyPost_ret (v := .agg #[.int .i64 0, .int .i64 1, .int .i64 1, .int .i64 2]) (by simp [results, Try.results39, go_sem]) rfl ⟨rfl, (Below.refl _ _).alloc (Nat.le_refl _) _⟩
theorem impl_passOf.calls (a0 : Int) (r1 : Int) (r2 : Int) (r3 : Int) (r4 : Int) (w : World) (h : impl_passOf.f a0 = some (r1, r2, r3, r4)) :
    Calls Try.prog 39 #[.int .i64 a0] w fun e w' => e = .returned (.agg #[.int .i64 r1, .int .i64 r2, .int .i64 r3, .int .i64 r4]) ∧ Below w.heap.size w w' := by
  unfold impl_passOf.f at h
  by_cases hk : 0 ≤ a0 ∧ a0 ≤ 6
  · rw [if_pos hk] at h
    have h := Option.some.inj h
    have hc : a0 = 0 ∨ a0 = 1 ∨ a0 = 2 ∨ a0 = 3 ∨ a0 = 4 ∨ a0 = 5 ∨ a0 = 6 := by omega
    clear hk
    rcases hc with rfl | rfl | rfl | rfl | rfl | rfl | rfl
    · obtain ⟨rfl, rfl, rfl, rfl⟩ : (0 : Int) = r1 ∧ (0 : Int) = r2 ∧ (8 : Int) = r3 ∧ (8 : Int) = r4 := by
        have e : passT 0 = (0, 0, 8, 8) := by decide
        rw [e] at h
        simpa using h
      exact passOf_0 w
    · obtain ⟨rfl, rfl, rfl, rfl⟩ : (4 : Int) = r1 ∧ (0 : Int) = r2 ∧ (8 : Int) = r3 ∧ (8 : Int) = r4 := by
        have e : passT 1 = (4, 0, 8, 8) := by decide
        rw [e] at h
        simpa using h
      exact passOf_1 w
    · obtain ⟨rfl, rfl, rfl, rfl⟩ : (0 : Int) = r1 ∧ (4 : Int) = r2 ∧ (4 : Int) = r3 ∧ (8 : Int) = r4 := by
        have e : passT 2 = (0, 4, 4, 8) := by decide
        rw [e] at h
        simpa using h
      exact passOf_2 w
    · obtain ⟨rfl, rfl, rfl, rfl⟩ : (2 : Int) = r1 ∧ (0 : Int) = r2 ∧ (4 : Int) = r3 ∧ (4 : Int) = r4 := by
        have e : passT 3 = (2, 0, 4, 4) := by decide
        rw [e] at h
        simpa using h
      exact passOf_3 w
    · obtain ⟨rfl, rfl, rfl, rfl⟩ : (0 : Int) = r1 ∧ (2 : Int) = r2 ∧ (2 : Int) = r3 ∧ (4 : Int) = r4 := by
        have e : passT 4 = (0, 2, 2, 4) := by decide
        rw [e] at h
        simpa using h
      exact passOf_4 w
    · obtain ⟨rfl, rfl, rfl, rfl⟩ : (1 : Int) = r1 ∧ (0 : Int) = r2 ∧ (2 : Int) = r3 ∧ (2 : Int) = r4 := by
        have e : passT 5 = (1, 0, 2, 2) := by decide
        rw [e] at h
        simpa using h
      exact passOf_5 w
    · obtain ⟨rfl, rfl, rfl, rfl⟩ : (0 : Int) = r1 ∧ (1 : Int) = r2 ∧ (1 : Int) = r3 ∧ (2 : Int) = r4 := by
        have e : passT 6 = (0, 1, 1, 2) := by decide
        rw [e] at h
        simpa using h
      exact passOf_6 w
  · rw [if_neg hk] at h
    exact absurd h (by simp)

/-! ### impl_every: function 57 -/
def impl_every.l0 : Nat → Int → Int → List Int → Int → Option (List Int)
  | 0, _, _, _, _ => none
  | k + 1, x1, x2, x7, x8 => if x8 < x2 then (if x7.length < 17592186044416 then (impl_every.l0 k x1 x2 (x7 ++ [x8]) (wrap64 (x8 + x1))) else (none)) else (some x7)
def impl_every.f (k : Nat) (a0 : Int) (a1 : Int) (a2 : Int) : Option (List Int) := impl_every.l0 k a1 a2 (([] : List Int)) a0
theorem impl_every.mono_l : ∀ k, (∀ y0 y1 y2 y3, LeO (impl_every.l0 k y0 y1 y2 y3) (impl_every.l0 (k + 1) y0 y1 y2 y3))
  | 0 => fun _ _ _ _ r h => by simp [impl_every.l0] at h
  | k + 1 => by
    have ih0 := impl_every.mono_l k
    · intro y0 y1 y2 y3
      unfold impl_every.l0
      repeat' first
      | (with_reducible exact ih0 _ _ _ _)
      | (with_reducible exact LeO.refl _)
      | (with_reducible exact LeO.none _)
      | (with_reducible refine LeO.ite ?_ ?_)
      | (with_reducible refine LeO.bind ?_ (fun _ => ?_))
      | exact ih0 _ _ _ _
      | exact LeO.none _
      | refine LeO.ite ?_ ?_
      | refine LeO.bind ?_ (fun _ => ?_)
theorem impl_every.mono : ∀ a0 a1 a2 k, LeO (impl_every.f k a0 a1 a2) (impl_every.f (k + 1) a0 a1 a2) := by
  intro a0 a1 a2 k
  have ih0 := impl_every.mono_l k
  unfold impl_every.f
  repeat' first
      | (with_reducible exact ih0 _ _ _ _)
      | (with_reducible exact LeO.refl _)
      | (with_reducible exact LeO.none _)
      | (with_reducible refine LeO.ite ?_ ?_)
      | (with_reducible refine LeO.bind ?_ (fun _ => ?_))
      | exact ih0 _ _ _ _
      | exact LeO.none _
      | refine LeO.ite ?_ ?_
      | refine LeO.bind ?_ (fun _ => ?_)
set_option maxHeartbeats 8000000 in
set_option maxRecDepth 100000 in
theorem impl_every.calls (k : Nat) (a0 : Int) (a1 : Int) (a2 : Int) (r : List Int) (w : World) (h : impl_every.f k a0 a1 a2 = some r) :
    Calls Try.prog 57 #[.int .i64 a0, .int .i64 a1, .int .i64 a2] w fun e w' => ∃ v0_ : Value, e = .returned (v0_) ∧ Kd.R (Kd.int .i64) 3 w' w.heap.size (fun _ => True) v0_ r ∧ Below w.heap.size w w' := by
  have HB := Aside0.mk (Below.refl w.heap.size w)
  have H : (impl_every.l0 k a1 a2 (([] : List Int)) a0) = some r := h
  clear h
  obtain ⟨y101, hy101⟩ : ∃ y_ : List Int, y_ = (([] : List Int)) := ⟨_, rfl⟩
  replace H : (impl_every.l0 k a1 a2 y101 a0) = some r := by first | (rw [hy101]; with_reducible exact H) | (have H2_ := (Option.bind_some _ _).symm.trans H; rw [hy101]; with_reducible exact H2_) | (have H2_ := (Option.bind_some _ _).symm.trans H; with_reducible exact H2_) | with_reducible exact H | (rw [hy101]; exact H) | exact H
  have Ny101 := Aside0.mk hy101
  clear hy101
  have H' := Aside0.mk H
  clear H
  go_enter Try.func57, Try.ntmps57
  go_wp2_with (first | ((with_reducible refine gate_dst (N := 9) rfl ?_); refine Kd.R_lit (Kd.int .i64) _ 3 ?hg (N := 9) ?hd (xs := ([] : List Int)) (inner := []) (ok := fun _ => True) (okp := fun _ => True) ?hr ?hp (fun _ hk => hk) trivial (Below.refl _ _) (Nat.le_refl _) (by simp) ?_; (case hd => rfl); (case hg => rfl); (case hr => first | (go_simp; done) | (go_simp; rfl)); (case hp => exact (Reps.none _ _)); intro v102 w4 ho5 hb hg_ hnew_; clear hg_ hnew_; (first | rw [← Ny101.out] at ho5 | (simp only [Int.reduceToNat] at ho5; rw [← Ny101.out] at ho5)); have n0_ := Aside0.mk (Kd.R_lower ho5 (below_size (B.bl HB))); have n1_ := Aside0.mk (below_step (B.bl HB) hb); clear HB; have HO103 := n0_; have HB := n1_; clear n0_ n1_; clear hb ho5))
  go_loopg [7, 8] k (fun kq v7 v8 w' => ∃ (x7_1 : List Int) (x8_1 : Int), v8 = .int .i64 x8_1 ∧ Aside0 (impl_every.l0 kq a1 a2 x7_1 x8_1 = some r) ∧ Aside0 (kq ≤ k) ∧ Aside0 (Kd.R (Kd.int .i64) 3 w' w.heap.size (fun _ => True) v7 x7_1) ∧ Aside0 (Below w.heap.size w w'))
  case atStart => exact ⟨(y101), (a0), (by first | rfl | (simp; done) | (simp [*]; done)), H', ⟨Nat.le_refl _⟩, ⟨B.kr HO103⟩, ⟨B.bl HB⟩⟩
  case round =>
    clear H'
    try clear p2
    try clear c5
    obtain ⟨x7_1, x8_1, rfl, HA, HK1, HO_7, HB⟩ := hrel
    cases gk with
    | zero => exact absurd HA.out (by simp [impl_every.l0])
    | succ k1 =>
      have H := HA.out
      clear HA
      simp only [impl_every.l0] at H
      by_cases c6 : x8_1 < a2
      · rw [if_pos c6] at H
        have c6b0 : decide (x8_1 < a2) = true := decide_eq_true c6
        clear c6
        by_cases c7 : x7_1.length < 17592186044416
        · rw [if_pos c7] at H
          have LMc7 := Aside0.mk c7
          clear c7
          obtain ⟨y104, hy104⟩ : ∃ y_ : List Int, y_ = (x7_1 ++ [x8_1]) := ⟨_, rfl⟩
          replace H : (impl_every.l0 k1 a1 a2 y104 (wrap64 (x8_1 + a1))) = some r := by first | (rw [hy104]; with_reducible exact H) | (have H2_ := (Option.bind_some _ _).symm.trans H; rw [hy104]; with_reducible exact H2_) | (have H2_ := (Option.bind_some _ _).symm.trans H; with_reducible exact H2_) | with_reducible exact H | (rw [hy104]; exact H) | exact H
          have Ny104 := Aside0.mk hy104
          clear hy104
          have H' := Aside0.mk H
          clear H
          go_wp2_with (first | ((with_reducible refine gate_builtin (b := .append) (xs := #[.tmp 17, .tmp 19]) rfl ?_); at_builtin; refine Kd.R_append (Kd.int .i64) (w0 := w) w.heap.size rfl (.tmp 17) (.tmp 19) 32 3 (.int .i64 0) 8 rfl Try.underlying32 info3 rfl (by decide) (by omega) u7 x7_1 x8_1 [.int .i64 x8_1] (fun _ => True) (fun _ => False) rfl rfl ?aP (fun _ hk => hk.elim) ?aF ?aO ?aB ?aS ?aL ?_; (case aP => exact rfl); (case aB => exact (B.bl HB)); (case aF => exact (fun _ _ => trivial)); (case aO => exact (B.kr HO_7)); (case aS => exact (below_size (B.bl HB))); (case aL => have := LMc7.out; omega); intro v105 w8 ho hb hg hat; rw [← Ny104.out] at ho; have n0_ := Aside0.mk (hb); have n1_ := Aside0.mk (ho); clear HB HO_7; have HB := n0_; have HO106 := n1_; clear n0_ n1_; clear ho hb hg hat))
          go_roundg k1
          case measure => have := HK1.out; omega
          case rel => exact ⟨(y104), (wrap64 (x8_1 + a1)), (by first | rfl | (simp; done) | (simp [*]; done)), H', ⟨by have := HK1.out; omega⟩, ⟨B.kr HO106⟩, ⟨B.bl HB⟩⟩
        rw [if_neg c7] at H
        exact absurd H (by simp)
      rw [if_neg c6] at H
      have c6b0 : decide (x8_1 < a2) = false := decide_eq_false c6
      clear c6
      obtain rfl := Option.some.inj H
      simp only [Option.some.injEq, Prod.mk.injEq] at H
      obtain ⟨rfl⟩ := H
      go_wp2
      go_ret
      exact ⟨_, by first | rfl | (simp [errW_none, errW_some] <;> rfl) | (simp [*, errW_none, errW_some] <;> rfl), by (with_reducible repeat (first | apply Kd.R_alloc | apply Kd.R_drewN | apply Kd.R_drew)); exact HO_7.out, B.bl HB⟩

/-! ### impl_pass_columns: function 40 -/
def impl_pass_columns.f (k : Nat) (a0_0 : Int) (a0_1 : Int) (a0_2 : Int) (a0_3 : Int) (a1 : Int) : Option (List Int) := (impl_every.f k a0_0 a0_2 a1).bind fun t108 => (some t108)
theorem impl_pass_columns.mono : ∀ a0 a1 a2 a3 a4 k, LeO (impl_pass_columns.f k a0 a1 a2 a3 a4) (impl_pass_columns.f (k + 1) a0 a1 a2 a3 a4) := by
  intro a0 a1 a2 a3 a4 k
  unfold impl_pass_columns.f
  repeat' first
      | (with_reducible exact impl_every.mono _ _ _ _)
      | (with_reducible exact LeO.refl _)
      | (with_reducible exact LeO.none _)
      | (with_reducible refine LeO.ite ?_ ?_)
      | (with_reducible refine LeO.bind ?_ (fun _ => ?_))
      | exact impl_every.mono _ _ _ _
      | exact LeO.none _
      | refine LeO.ite ?_ ?_
      | refine LeO.bind ?_ (fun _ => ?_)
set_option maxHeartbeats 8000000 in
set_option maxRecDepth 100000 in
theorem impl_pass_columns.calls (k : Nat) (a0_0 : Int) (a0_1 : Int) (a0_2 : Int) (a0_3 : Int) (a1 : Int) (r : List Int) (w : World) (h : impl_pass_columns.f k a0_0 a0_1 a0_2 a0_3 a1 = some r) :
    Calls Try.prog 40 #[.agg #[.int .i64 a0_0, .int .i64 a0_1, .int .i64 a0_2, .int .i64 a0_3], .int .i64 a1] w fun e w' => ∃ v0_ : Value, e = .returned (v0_) ∧ Kd.R (Kd.int .i64) 3 w' w.heap.size (fun _ => True) v0_ r ∧ Below w.heap.size w w' := by
  have hu56 := Try.underlying56
  have HB := Aside0.mk (Below.refl w.heap.size w)
  have H : ((impl_every.f k a0_0 a0_2 a1).bind fun t108 => (some t108)) = some r := h
  clear h
  replace H := Option.bind_eq_some_iff.mp H
  obtain ⟨t108, A30, H⟩ := H
  replace H : (some t108) = some r := H
  have A3 := Aside0.mk A30
  clear A30
  obtain rfl := Option.some.inj H
  simp only [Option.some.injEq, Prod.mk.injEq] at H
  obtain ⟨rfl⟩ := H
  go_enter Try.func40, Try.ntmps40
  go_wp2_with (first | ((with_reducible refine gate_dst (N := 2) rfl ?_); refine box_event ?hg (N := 2) ?hd (cs := #[.int .i64 a0_0, .int .i64 a0_1, .int .i64 a0_2, .int .i64 a0_3]) (t := 56) ?hr ?_; (case hd => rfl); (case hg => rfl); (case hr => first | (go_simp; done) | (go_simp; rfl)); intro gb107 hg w4 hbox hb; have n0_ := Aside0.mk (below_step (B.bl HB) hb); have n1_ := Aside0.mk (hbox); have n2_ := Aside0.mk (B.nle hg (below_size (B.bl HB))); have n3_ := Aside0.mk (B.nle hg (below_size (B.bl HB))); clear HB; have HB := n0_; have BK107 := n1_; have GW107 := n2_; have GE107 := n3_; clear n0_ n1_ n2_ n3_; clear hb hbox hg; have hcz5_0 : w4.cell? ⟨gb107, 0, none⟩ = some (.int .i64 a0_0) := B.bc BK107 0; have hcz5_1 : w4.cell? ⟨gb107, 1, none⟩ = some (.int .i64 a0_1) := B.bc BK107 1; have hcz5_2 : w4.cell? ⟨gb107, 2, none⟩ = some (.int .i64 a0_2) := B.bc BK107 2; have hcz5_3 : w4.cell? ⟨gb107, 3, none⟩ = some (.int .i64 a0_3) := B.bc BK107 3; have hfz5_0 := blk_frozen BK107.out 0; have hfz5_1 := blk_frozen BK107.out 1; have hfz5_2 := blk_frozen BK107.out 2; have hfz5_3 := blk_frozen BK107.out 3) | ((with_reducible refine gate_callee (f := 57) rfl ?_); refine goesL_ (some 10) rfl rfl Try.func57 (by kernel_rfl) rfl #[.int .i64 a0_0, .int .i64 a0_2, .int .i64 a1] rfl B.am ?_; (with_reducible refine (impl_every.calls k a0_0 a0_2 a1 t108 _ A3.out).mono ?_); rintro e w6 ⟨v109, rfl, ho0, hb⟩; refine ⟨_, rfl, ?_⟩; have n0_ := Aside0.mk (Kd.R_lower ho0 (below_size (B.bl HB))); have n1_ := Aside0.mk (blk_below (B.kb BK107) hb); have n2_ := Aside0.mk (below_step (B.bl HB) hb); clear BK107 HB; have HO110 := n0_; have BK107 := n1_; have HB := n2_; clear n0_ n1_ n2_; (try clear hb); (try clear hb2); (try clear hk); (try clear hi); (try clear ho0)))
  go_ret
  exact ⟨_, by first | rfl | (simp [errW_none, errW_some] <;> rfl) | (simp [*, errW_none, errW_some] <;> rfl), by (with_reducible repeat (first | apply Kd.R_alloc | apply Kd.R_drewN | apply Kd.R_drew)); exact HO110.out, B.bl HB⟩

/-! ### impl_pass_rows: function 41 -/
def impl_pass_rows.f (k : Nat) (a0_0 : Int) (a0_1 : Int) (a0_2 : Int) (a0_3 : Int) (a1 : Int) : Option (List Int) := (impl_every.f k a0_1 a0_3 a1).bind fun t112 => (some t112)
theorem impl_pass_rows.mono : ∀ a0 a1 a2 a3 a4 k, LeO (impl_pass_rows.f k a0 a1 a2 a3 a4) (impl_pass_rows.f (k + 1) a0 a1 a2 a3 a4) := by
  intro a0 a1 a2 a3 a4 k
  unfold impl_pass_rows.f
  repeat' first
      | (with_reducible exact impl_every.mono _ _ _ _)
      | (with_reducible exact LeO.refl _)
      | (with_reducible exact LeO.none _)
      | (with_reducible refine LeO.ite ?_ ?_)
      | (with_reducible refine LeO.bind ?_ (fun _ => ?_))
      | exact impl_every.mono _ _ _ _
      | exact LeO.none _
      | refine LeO.ite ?_ ?_
      | refine LeO.bind ?_ (fun _ => ?_)
set_option maxHeartbeats 8000000 in
set_option maxRecDepth 100000 in
theorem impl_pass_rows.calls (k : Nat) (a0_0 : Int) (a0_1 : Int) (a0_2 : Int) (a0_3 : Int) (a1 : Int) (r : List Int) (w : World) (h : impl_pass_rows.f k a0_0 a0_1 a0_2 a0_3 a1 = some r) :
    Calls Try.prog 41 #[.agg #[.int .i64 a0_0, .int .i64 a0_1, .int .i64 a0_2, .int .i64 a0_3], .int .i64 a1] w fun e w' => ∃ v0_ : Value, e = .returned (v0_) ∧ Kd.R (Kd.int .i64) 3 w' w.heap.size (fun _ => True) v0_ r ∧ Below w.heap.size w w' := by
  have hu56 := Try.underlying56
  have HB := Aside0.mk (Below.refl w.heap.size w)
  have H : ((impl_every.f k a0_1 a0_3 a1).bind fun t112 => (some t112)) = some r := h
  clear h
  replace H := Option.bind_eq_some_iff.mp H
  obtain ⟨t112, A30, H⟩ := H
  replace H : (some t112) = some r := H
  have A3 := Aside0.mk A30
  clear A30
  obtain rfl := Option.some.inj H
  simp only [Option.some.injEq, Prod.mk.injEq] at H
  obtain ⟨rfl⟩ := H
  go_enter Try.func41, Try.ntmps41
  go_wp2_with (first | ((with_reducible refine gate_dst (N := 2) rfl ?_); refine box_event ?hg (N := 2) ?hd (cs := #[.int .i64 a0_0, .int .i64 a0_1, .int .i64 a0_2, .int .i64 a0_3]) (t := 56) ?hr ?_; (case hd => rfl); (case hg => rfl); (case hr => first | (go_simp; done) | (go_simp; rfl)); intro gb111 hg w4 hbox hb; have n0_ := Aside0.mk (below_step (B.bl HB) hb); have n1_ := Aside0.mk (hbox); have n2_ := Aside0.mk (B.nle hg (below_size (B.bl HB))); have n3_ := Aside0.mk (B.nle hg (below_size (B.bl HB))); clear HB; have HB := n0_; have BK111 := n1_; have GW111 := n2_; have GE111 := n3_; clear n0_ n1_ n2_ n3_; clear hb hbox hg; have hcz5_0 : w4.cell? ⟨gb111, 0, none⟩ = some (.int .i64 a0_0) := B.bc BK111 0; have hcz5_1 : w4.cell? ⟨gb111, 1, none⟩ = some (.int .i64 a0_1) := B.bc BK111 1; have hcz5_2 : w4.cell? ⟨gb111, 2, none⟩ = some (.int .i64 a0_2) := B.bc BK111 2; have hcz5_3 : w4.cell? ⟨gb111, 3, none⟩ = some (.int .i64 a0_3) := B.bc BK111 3; have hfz5_0 := blk_frozen BK111.out 0; have hfz5_1 := blk_frozen BK111.out 1; have hfz5_2 := blk_frozen BK111.out 2; have hfz5_3 := blk_frozen BK111.out 3) | ((with_reducible refine gate_callee (f := 57) rfl ?_); refine goesL_ (some 10) rfl rfl Try.func57 (by kernel_rfl) rfl #[.int .i64 a0_1, .int .i64 a0_3, .int .i64 a1] rfl B.am ?_; (with_reducible refine (impl_every.calls k a0_1 a0_3 a1 t112 _ A3.out).mono ?_); rintro e w6 ⟨v113, rfl, ho0, hb⟩; refine ⟨_, rfl, ?_⟩; have n0_ := Aside0.mk (Kd.R_lower ho0 (below_size (B.bl HB))); have n1_ := Aside0.mk (blk_below (B.kb BK111) hb); have n2_ := Aside0.mk (below_step (B.bl HB) hb); clear BK111 HB; have HO114 := n0_; have BK111 := n1_; have HB := n2_; clear n0_ n1_ n2_; (try clear hb); (try clear hb2); (try clear hk); (try clear hi); (try clear ho0)))
  go_ret
  exact ⟨_, by first | rfl | (simp [errW_none, errW_some] <;> rfl) | (simp [*, errW_none, errW_some] <;> rfl), by (with_reducible repeat (first | apply Kd.R_alloc | apply Kd.R_drewN | apply Kd.R_drew)); exact HO114.out, B.bl HB⟩

/-! ### impl_Image_at: function 48 (by hand) -/
-- GIVEN (loop.example/pixelworks/impl.Image).at
-- AUX yes
set_option maxHeartbeats 2000000 in
theorem at_calls (a0_0 a0_1 a0_2 ax ay : Int) (A0 : Option Addr) (c0 : Nat) (D : List Int) (w : World) (ho : B.ImgI a0_0 a0_1 a0_2 D) (hx : 0 ≤ ax ∧ ax < a0_0) (hy : 0 ≤ ay ∧ ay < a0_1)
    (hr : Kd.C (Kd.int .i64) w A0 D.length D) (hc : D.length ≤ c0) :
    Calls Try.prog 48 #[.agg #[.int .i64 a0_0, .int .i64 a0_1, .int .i64 a0_2, .slice A0 D.length c0], .int .i64 ax, .int .i64 ay] w fun e w' =>
      ∃ A1 c1, e = .returned (.slice A1 (B.pix D a0_0.toNat a0_2.toNat ax.toNat ay.toNat).length c1) ∧ (B.pix D a0_0.toNat a0_2.toNat ax.toNat ay.toNat).length ≤ c1 ∧
        Kd.C (Kd.int .i64) w' A1 (B.pix D a0_0.toNat a0_2.toNat ax.toNat ay.toNat).length (B.pix D a0_0.toNat a0_2.toNat ax.toNat ay.toNat) ∧ Below w.heap.size w w' := by
  obtain ⟨i1, i2, i3, i4, i5, i6, i7⟩ := ho.idx hx hy
  have hp : 1 ≤ a0_2 ∧ a0_2 ≤ 4 := ⟨ho.2.2.2.2.1, ho.2.2.2.2.2.1⟩
  obtain ⟨n, hn⟩ : ∃ n : Int, wrap64 (wrap64 (wrap64 (ay * a0_0) + ax) * a0_2) = n := ⟨_, rfl⟩
  have hn2 : n = (ay * a0_0 + ax) * a0_2 := by rw [← hn, i1, i2, i3]
  rw [← hn2] at i4 i5 i6 i7
  have hpx : (D.take (n + a0_2).toNat).drop n.toNat = B.pix D a0_0.toNat a0_2.toNat ax.toNat ay.toNat := by
    rw [i7]
    exact B.pix_mid D _ _ _ _ _ (by omega)
  have hw : wrap64 (n + a0_2) = n + a0_2 := B.w64 (by omega) (by omega)
  obtain ⟨i0, hi0, _, hsz, _⟩ := info_parts info3
  obtain ⟨A1, hcut, hA1, hC1⟩ := print_mid_of (P := Try.prog) (Value.int .i64) 0 32 3 .i64 .i64 Try.underlying32 hi0 hsz A0 c0 D n (n + a0_2) i4 (by omega) i5 hc
  rw [hpx] at hcut hA1 hC1
  have HR := Aside0.mk (Kd.C_of_reads (h1 := fun _ => rfl) (hA1 _ (Kd.reads_of_C hr)))
  have HC := Aside0.mk hC1
  generalize B.pix D a0_0.toNat a0_2.toNat ax.toNat ay.toNat = px at hcut HR HC
  have c1 := eq_true i4
  have c2 : decide (0 ≤ n) = true := decide_eq_true i4
  have hu28 := Try.underlying34
  have hn' : (IntKind.i64.wrap (wrap64 (wrap64 (ay * a0_0) + ax) * a0_2)) = n := (i64_w _).trans hn
  clear ho hx hy hr hc i1 i2 i3 i4 i5 i6 i7 hn2 hpx hi0 hsz hA1 hC1 hp
  go_enter Try.func48, Try.ntmps48
  go_wp2
  go_ret
  exact ⟨A1, _, rfl, HC.out, Kd.C_alloc HR.out _, below_alloc (Below.refl _ _) _⟩

/-! ### impl_isSide: function 38 -/
def impl_isSide.f (a0 : Int) : Option (Bool) := if a0 ≥ 1 then (some (decide (a0 ≤ 16))) else (some false)
set_option maxHeartbeats 8000000 in
set_option maxRecDepth 100000 in
theorem impl_isSide.calls (a0 : Int) (r : Bool) (w : World) (h : impl_isSide.f a0 = some r) :
    Calls Try.prog 38 #[.int .i64 a0] w fun e w' => e = .returned (.bool r) ∧ Drawn0 w w' := by
  have H : (if a0 ≥ 1 then (some (decide (a0 ≤ 16))) else (some false)) = some r := h
  clear h
  by_cases c2 : a0 ≥ 1
  · rw [if_pos c2] at H
    have c2b0 : decide (1 ≤ a0) = true := decide_eq_true c2
    clear c2
    obtain rfl := Option.some.inj H
    simp only [Option.some.injEq, Prod.mk.injEq] at H
    obtain ⟨rfl⟩ := H
    go_enter Try.func38, Try.ntmps38
    go_wp2
    go_ret
    exact ⟨by first | rfl | (simp; done) | (simp [*]; done), by repeat (first | exact Drawn0.refl _ | apply Drawn0.step)⟩
  rw [if_neg c2] at H
  have c2b0 : decide (1 ≤ a0) = false := decide_eq_false c2
  clear c2
  obtain rfl := Option.some.inj H
  simp only [Option.some.injEq, Prod.mk.injEq] at H
  obtain ⟨rfl⟩ := H
  go_enter Try.func38, Try.ntmps38
  go_wp2
  go_ret
  exact ⟨by first | rfl | (simp; done) | (simp [*]; done), by repeat (first | exact Drawn0.refl _ | apply Drawn0.step)⟩

/-! ### impl_isShape: function 46 -/
def impl_isShape.f (a0 : Int) (a1 : Int) (a2 : Int) : Option (Bool) := (impl_isSide.f a0).bind fun t115 => (if t115 = true then ((impl_isSide.f a1).bind fun t116 => (if t116 = true then (if a2 ≥ 1 then (some (decide (a2 ≤ 4))) else (some false)) else (some false))) else (some false))
set_option maxHeartbeats 8000000 in
set_option maxRecDepth 100000 in
theorem impl_isShape.calls (a0 : Int) (a1 : Int) (a2 : Int) (r : Bool) (w : World) (h : impl_isShape.f a0 a1 a2 = some r) :
    Calls Try.prog 46 #[.int .i64 a0, .int .i64 a1, .int .i64 a2] w fun e w' => e = .returned (.bool r) ∧ Drawn0 w w' := by
  have H : ((impl_isSide.f a0).bind fun t115 => (if t115 = true then ((impl_isSide.f a1).bind fun t116 => (if t116 = true then (if a2 ≥ 1 then (some (decide (a2 ≤ 4))) else (some false)) else (some false))) else (some false))) = some r := h
  clear h
  replace H := Option.bind_eq_some_iff.mp H
  obtain ⟨t115, A40, H⟩ := H
  replace H : (if t115 = true then ((impl_isSide.f a1).bind fun t116 => (if t116 = true then (if a2 ≥ 1 then (some (decide (a2 ≤ 4))) else (some false)) else (some false))) else (some false)) = some r := H
  have A4 := Aside0.mk A40
  clear A40
  by_cases c5 : t115 = true
  · subst c5
    have H1 : ((impl_isSide.f a1).bind fun t116 => (if t116 = true then (if a2 ≥ 1 then (some (decide (a2 ≤ 4))) else (some false)) else (some false))) = some r := by rw [if_pos rfl] at H; exact H
    clear H
    have H := H1
    clear H1
    replace H := Option.bind_eq_some_iff.mp H
    obtain ⟨t116, A60, H⟩ := H
    replace H : (if t116 = true then (if a2 ≥ 1 then (some (decide (a2 ≤ 4))) else (some false)) else (some false)) = some r := H
    have A6 := Aside0.mk A60
    clear A60
    by_cases c7 : t116 = true
    · subst c7
      have H1 : (if a2 ≥ 1 then (some (decide (a2 ≤ 4))) else (some false)) = some r := by rw [if_pos rfl] at H; exact H
      clear H
      have H := H1
      clear H1
      by_cases c8 : a2 ≥ 1
      · rw [if_pos c8] at H
        have c8b0 : decide (1 ≤ a2) = true := decide_eq_true c8
        clear c8
        obtain rfl := Option.some.inj H
        simp only [Option.some.injEq, Prod.mk.injEq] at H
        obtain ⟨rfl⟩ := H
        go_enter Try.func46, Try.ntmps46
        go_wp2_with (first | ((with_reducible refine gate_callee (f := 38) rfl ?_); refine goesL_ (some 8) rfl rfl Try.func38 (by kernel_rfl) rfl #[.int .i64 a0] rfl B.am ?_; (with_reducible refine (impl_isSide.calls a0 true _ A4.out).mono ?_); rintro e w' ⟨rfl, ⟨nd, rfl⟩⟩; refine ⟨_, rfl, ?_⟩) | (go_at_call 38; (with_reducible refine (impl_isSide.calls a1 true _ A6.out).mono ?_); rintro e w' ⟨rfl, ⟨nd, rfl⟩⟩))
        go_ret
        exact ⟨by first | rfl | (simp; done) | (simp [*]; done), by repeat (first | exact Drawn0.refl _ | apply Drawn0.step)⟩
      rw [if_neg c8] at H
      have c8b0 : decide (1 ≤ a2) = false := decide_eq_false c8
      clear c8
      obtain rfl := Option.some.inj H
      simp only [Option.some.injEq, Prod.mk.injEq] at H
      obtain ⟨rfl⟩ := H
      go_enter Try.func46, Try.ntmps46
      go_wp2_with (first | ((with_reducible refine gate_callee (f := 38) rfl ?_); refine goesL_ (some 8) rfl rfl Try.func38 (by kernel_rfl) rfl #[.int .i64 a0] rfl B.am ?_; (with_reducible refine (impl_isSide.calls a0 true _ A4.out).mono ?_); rintro e w' ⟨rfl, ⟨nd, rfl⟩⟩; refine ⟨_, rfl, ?_⟩) | (go_at_call 38; (with_reducible refine (impl_isSide.calls a1 true _ A6.out).mono ?_); rintro e w' ⟨rfl, ⟨nd, rfl⟩⟩))
      go_ret
      exact ⟨by first | rfl | (simp; done) | (simp [*]; done), by repeat (first | exact Drawn0.refl _ | apply Drawn0.step)⟩
    replace c7 := Bool.eq_false_iff.mpr c7
    subst c7
    have H1 : (some false) = some r := by rw [if_neg (show ¬ (false = true) by decide)] at H; exact H
    clear H
    have H := H1
    clear H1
    obtain rfl := Option.some.inj H
    simp only [Option.some.injEq, Prod.mk.injEq] at H
    obtain ⟨rfl⟩ := H
    go_enter Try.func46, Try.ntmps46
    go_wp2_with (first | ((with_reducible refine gate_callee (f := 38) rfl ?_); refine goesL_ (some 8) rfl rfl Try.func38 (by kernel_rfl) rfl #[.int .i64 a0] rfl B.am ?_; (with_reducible refine (impl_isSide.calls a0 true _ A4.out).mono ?_); rintro e w' ⟨rfl, ⟨nd, rfl⟩⟩; refine ⟨_, rfl, ?_⟩) | (go_at_call 38; (with_reducible refine (impl_isSide.calls a1 false _ A6.out).mono ?_); rintro e w' ⟨rfl, ⟨nd, rfl⟩⟩))
    go_ret
    exact ⟨by first | rfl | (simp; done) | (simp [*]; done), by repeat (first | exact Drawn0.refl _ | apply Drawn0.step)⟩
  replace c5 := Bool.eq_false_iff.mpr c5
  subst c5
  have H1 : (some false) = some r := by rw [if_neg (show ¬ (false = true) by decide)] at H; exact H
  clear H
  have H := H1
  clear H1
  obtain rfl := Option.some.inj H
  simp only [Option.some.injEq, Prod.mk.injEq] at H
  obtain ⟨rfl⟩ := H
  go_enter Try.func46, Try.ntmps46
  go_wp2_with (first | ((with_reducible refine gate_callee (f := 38) rfl ?_); refine goesL_ (some 8) rfl rfl Try.func38 (by kernel_rfl) rfl #[.int .i64 a0] rfl B.am ?_; (with_reducible refine (impl_isSide.calls a0 false _ A4.out).mono ?_); rintro e w' ⟨rfl, ⟨nd, rfl⟩⟩; refine ⟨_, rfl, ?_⟩))
  go_ret
  exact ⟨by first | rfl | (simp; done) | (simp [*]; done), by repeat (first | exact Drawn0.refl _ | apply Drawn0.step)⟩

/-! ### slices_IndexFunc_int_int: function 68 (by hand) -/
-- GIVEN slices.IndexFunc[[]int,int]
-- AUX yes
theorem call_enters {f : FuncId} {fn : Func} {c : Code} (hf : Try.prog.funcs[f]? = some fn) (hname : (fn.name == "runtime.NumGoroutine") = false) (hb : fn.body = some c) : ∀ args w, (callFunc f args).run Try.prog w = .ok (.enter f args) w := by
  intro args w
  have h1 : fn.name ≠ "runtime.NumGoroutine" := by simpa using hname
  simp [callFunc, hf, h1, hb, mark]
/-- What is asked of a function value of one whole number: in every later world it answers p and turns nothing. -/
def PredG (g : Nat) (lb : Array Value) (p : Int → Bool) (w : World) : Prop :=
  ∀ (W : World) (x : Int), Below w.heap.size w W → Calls Try.prog g (#[.int .i64 x] ++ lb) W fun e w' => e = .returned (.bool (p x)) ∧ ∃ q, w' = W.drewN q
def idxOf (p : Int → Bool) (l : List Int) : Int := match l.findIdx? p with
  | some i => (i : Int)
  | none => -1
theorem idxOf_hit (p : Int → Bool) (l : List Int) (x : Int) (h0 : 0 ≤ x) (hx : x < (l.length : Int)) (hp : p (rd l x) = true) (hn : ∀ j, j < x.toNat → p (l.getD j 0) = false) : idxOf p l = x := by
  obtain ⟨i, rfl⟩ := Int.eq_ofNat_of_zero_le h0
  have hi : i < l.length := by omega
  have e : l.findIdx? p = some i := by
    rw [List.findIdx?_eq_some_iff_getElem]
    refine ⟨hi, by simpa [rd, hi] using hp, fun j hj => ?_⟩
    have := hn j (by omega)
    simpa [show j < l.length by omega] using this
  unfold idxOf
  rw [e]
theorem idxOf_miss (p : Int → Bool) (l : List Int) (hn : ∀ j, j < l.length → p (l.getD j 0) = false) : idxOf p l = -1 := by
  have e : l.findIdx? p = none := by
    rw [List.findIdx?_eq_none_iff]
    intro x hx
    obtain ⟨j, hj, rfl⟩ := List.mem_iff_getElem.1 hx
    have := hn j hj
    simpa [hj] using this
  unfold idxOf
  rw [e]
theorem idxOf_any (p : Int → Bool) (l : List Int) : decide (0 ≤ idxOf p l) = l.any p := by
  unfold idxOf
  cases e : l.findIdx? p with
  | none =>
    rw [List.findIdx?_eq_none_iff] at e
    have : l.any p = false := by
      rw [List.any_eq_false]
      intro x hx
      simp [e x hx]
    rw [this]
    decide
  | some i =>
    rw [List.findIdx?_eq_some_iff_getElem] at e
    obtain ⟨hi, hp, _⟩ := e
    have : l.any p = true := List.any_eq_true.2 ⟨l[i], List.getElem_mem _, hp⟩
    rw [this]
    simp
set_option maxHeartbeats 2000000 in
theorem indexFunc_calls (A0 : Option Addr) (c0 : Nat) (l0 : List Int) (g : Nat) (lb : Array Value) (eg : ∀ args w, (callFunc g args).run Try.prog w = .ok (.enter g args) w) (p : Int → Bool) (w : World) (hp : PredG g lb p w)
    (hr0 : Kd.C (Kd.int .i64) w A0 l0.length l0) (hl : l0.length ≤ 9223372036854775807) :
    Calls Try.prog 68 #[.slice A0 l0.length c0, .func (.func g) #[] lb] w fun e w' => e = .returned (.int .i64 (idxOf p l0)) ∧ ∃ q, w' = w.drewN q := by
  have HR0 := Aside0.mk hr0
  have HL := Aside0.mk hl
  clear hr0 hl
  have hpAt : ∀ (x : Int) (q : Nat), Calls Try.prog g (#[.int .i64 x] ++ lb) (w.drewN q) fun e w' => e = .returned (.bool (p x)) ∧ ∃ q', w' = (w.drewN q).drewN q' := fun x q => hp _ x (pw_below_drewN (Below.refl _ w) q)
  clear hp
  go_enter Try.func68, Try.ntmps68
  go_wp2
  go_loopg [5, 8] l0.length (fun gg _ s8 wr => ∃ (x8 : Int) (q : Nat), s8 = .int .i64 x8 ∧ Aside0 (0 ≤ x8 ∧ x8 ≤ (l0.length : Int) ∧ ∀ j, j < x8.toNat → p (l0.getD j 0) = false) ∧ Aside0 (l0.length - x8.toNat ≤ gg) ∧ wr = w.drewN q)
  case atStart => exact ⟨0, 0, rfl, ⟨by omega, by omega, fun j hj => absurd hj (by simp)⟩, ⟨by omega⟩, rfl⟩
  case round =>
    obtain ⟨x8, q, rfl, HA, HG, rfl⟩ := hrel
    by_cases c4 : x8 < (l0.length : Int)
    · have p1 : 0 ≤ x8 := HA.out.1
      obtain ⟨ad, e1, hx⟩ := Kd.at_int HR0.out x8 p1 c4
      cases e1
      have c4b0 : decide (x8 < (l0.length : Int)) = true := decide_eq_true c4
      have HC4 := Aside0.mk c4
      clear c4
      replace p1 := eq_true p1
      have q1 := eq_true HC4.out
      generalize hy : rd l0 x8 = y at hx
      have HY := Aside0.mk hy
      clear hy
      have hcall := hpAt y
      have hw : wrap64 (x8 + 1) = x8 + 1 := by unfold wrap64; have := HA.out.1; have := HL.out; have := HC4.out; omega
      have HW := Aside0.mk hw
      clear hw
      cases hq : p y with
      | true =>
        rw [hq] at hcall
        have HQ := Aside0.mk hq
        clear hq
        go_wp2_with fail
        refine (hcall _).mono ?_
        rintro e w' ⟨rfl, q', rfl⟩
        go_wp2
        go_ret
        refine ⟨?_, _, rfl⟩
        rw [idxOf_hit p l0 x8 HA.out.1 HC4.out (by rw [HY.out]; exact HQ.out) HA.out.2.2]
        rfl
      | false =>
        rw [hq] at hcall
        have HQ := Aside0.mk hq
        clear hq
        go_wp2_with fail
        refine (hcall _).mono ?_
        rintro e w' ⟨rfl, q', rfl⟩
        go_wp2
        go_roundg (l0.length - (x8 + 1).toNat)
        case measure => have := HG.out; have := HA.out.1; have := HC4.out; omega
        case rel =>
          refine ⟨wrap64 (x8 + 1), _, rfl, ⟨?_⟩, ⟨?_⟩, rfl⟩
          · rw [HW.out]
            refine ⟨by have := HA.out.1; omega, by have := HC4.out; omega, fun j hj => ?_⟩
            by_cases e : j = x8.toNat
            · subst e
              have := HQ.out
              rw [← HY.out] at this
              exact this
            · exact HA.out.2.2 j (by have := HA.out.1; omega)
          · rw [HW.out]; exact Nat.le_refl _
    · have c4b0 : decide (x8 < (l0.length : Int)) = false := decide_eq_false c4
      have HC4 := Aside0.mk c4
      clear c4
      go_wp2
      go_ret
      refine ⟨?_, q, rfl⟩
      rw [idxOf_miss p l0 (fun j hj => HA.out.2.2 j (by have := HC4.out; omega))]
      rfl

/-! ### slices_ContainsFunc_int_int: function 63 (by hand) -/
-- GIVEN slices.ContainsFunc[[]int,int]
-- AUX yes
set_option maxHeartbeats 2000000 in
theorem containsFunc_calls (A0 : Option Addr) (c0 : Nat) (l0 : List Int) (g : Nat) (lb : Array Value) (eg : ∀ args w, (callFunc g args).run Try.prog w = .ok (.enter g args) w) (p : Int → Bool) (w : World) (hp : PredG g lb p w)
    (hr0 : Kd.C (Kd.int .i64) w A0 l0.length l0) (hl : l0.length ≤ 9223372036854775807) :
    Calls Try.prog 63 #[.slice A0 l0.length c0, .func (.func g) #[] lb] w fun e w' => e = .returned (.bool (l0.any p)) ∧ ∃ q, w' = w.drewN q := by
  rw [← idxOf_any]
  have HC := indexFunc_calls A0 c0 l0 g lb eg p w hp hr0 hl
  clear hp hr0 hl eg
  generalize idxOf p l0 = i at HC
  go_enter Try.func63, Try.ntmps63
  go_wp2_with (go_at_call 68; refine HC.mono ?_; rintro e w' ⟨rfl, q, rfl⟩)
  go_ret
  exact ⟨rfl, q, rfl⟩

/-! ### impl_areBytes: function 47 (by hand) -/
-- GIVEN loop.example/pixelworks/impl.areBytes
-- ROUNDS no
-- MAKING no
def notByte (n : Int) : Bool := decide (n < 0) || decide (n > 255)
def impl_areBytes.f (l0 : List Int) : Option (Bool) := some (!l0.any notByte)
theorem notByte_pred (w : World) : PredG 64 #[] notByte w := fun W x _ => by
  by_cases h1 : x < 0
  · have e : notByte x = true := by simp [notByte, h1]
    rw [e]
    have b1 : decide (x < 0) = true := decide_eq_true h1
    go_enter Try.func64, Try.ntmps64
    go_wp2
    go_ret
    exact ⟨rfl, 0, rfl⟩
  · have e : notByte x = decide (255 < x) := by simp [notByte, h1]
    rw [e]
    have b1 : decide (x < 0) = false := decide_eq_false h1
    go_enter Try.func64, Try.ntmps64
    go_wp2
    go_ret
    exact ⟨rfl, 0, rfl⟩
theorem impl_areBytes.calls (A0 : Option Addr) (c0 : Nat) (l0 : List Int) (r : Bool) (w : World) (hr0 : Kd.C (Kd.int .i64) w A0 l0.length l0) (hc0 : l0.length ≤ c0) (h : impl_areBytes.f l0 = some r) :
    Calls Try.prog 47 #[.slice A0 l0.length c0] w fun e w' => e = .returned (.bool r) ∧ Drawn0 w w' := by
  obtain rfl : (!l0.any notByte) = r := Option.some.inj h
  have hl : l0.length ≤ 9223372036854775807 := Kd.C_max hr0
  have HC := containsFunc_calls A0 c0 l0 64 #[] (call_enters Try.func64 (by kernel_rfl) rfl) notByte w (notByte_pred w) hr0 hl
  clear hr0 hc0 hl h
  generalize l0.any notByte = b at HC
  go_enter Try.func47, Try.ntmps47
  go_wp2_with (go_at_call 63; refine HC.mono ?_; rintro e w' ⟨rfl, q, rfl⟩)
  go_ret
  exact ⟨rfl, ⟨q, rfl⟩⟩

/-! ### impl_isImage: function 51 -/
def impl_isImage.f (a0_0 : Int) (a0_1 : Int) (a0_2 : Int) (l0_3 : List Int) : Option (Bool) := (impl_isShape.f a0_0 a0_1 a0_2).bind fun t118 => (if t118 = true then (if (l0_3.length : Int) = (wrap64 ((wrap64 (a0_0 * a0_1)) * a0_2)) then ((impl_areBytes.f l0_3).bind fun t119 => (some t119)) else (some false)) else (some false))
set_option maxHeartbeats 8000000 in
set_option maxRecDepth 100000 in
theorem impl_isImage.calls (a0_0 : Int) (a0_1 : Int) (a0_2 : Int) (A0_3 : Option Addr) (c0_3 : Nat) (l0_3 : List Int) (r : Bool) (w : World) (hr0_3 : Kd.C (Kd.int .i64) w A0_3 l0_3.length l0_3) (hc0_3 : l0_3.length ≤ c0_3) (h : impl_isImage.f a0_0 a0_1 a0_2 l0_3 = some r) :
    Calls Try.prog 51 #[.agg #[.int .i64 a0_0, .int .i64 a0_1, .int .i64 a0_2, .slice A0_3 l0_3.length c0_3]] w fun e w' => e = .returned (.bool r) ∧ Below w.heap.size w w' := by
  have hu34 := Try.underlying34
  have HR0_3 := Aside0.mk hr0_3
  have HC0_3 := Aside0.mk hc0_3
  clear hr0_3 hc0_3
  have HB := Aside0.mk (Below.refl w.heap.size w)
  have H : ((impl_isShape.f a0_0 a0_1 a0_2).bind fun t118 => (if t118 = true then (if (l0_3.length : Int) = (wrap64 ((wrap64 (a0_0 * a0_1)) * a0_2)) then ((impl_areBytes.f l0_3).bind fun t119 => (some t119)) else (some false)) else (some false))) = some r := h
  clear h
  replace H := Option.bind_eq_some_iff.mp H
  obtain ⟨t118, A20, H⟩ := H
  replace H : (if t118 = true then (if (l0_3.length : Int) = (wrap64 ((wrap64 (a0_0 * a0_1)) * a0_2)) then ((impl_areBytes.f l0_3).bind fun t119 => (some t119)) else (some false)) else (some false)) = some r := H
  have A2 := Aside0.mk A20
  clear A20
  by_cases c3 : t118 = true
  · subst c3
    have H1 : (if (l0_3.length : Int) = (wrap64 ((wrap64 (a0_0 * a0_1)) * a0_2)) then ((impl_areBytes.f l0_3).bind fun t119 => (some t119)) else (some false)) = some r := by rw [if_pos rfl] at H; exact H
    clear H
    have H := H1
    clear H1
    by_cases c4 : (l0_3.length : Int) = (wrap64 ((wrap64 (a0_0 * a0_1)) * a0_2))
    · rw [if_pos c4] at H
      have c4b0 : ((l0_3.length : Int) == (wrap64 ((wrap64 (a0_0 * a0_1)) * a0_2))) = true := beq_iff_eq.mpr c4
      have c4b1 : ((l0_3.length : Int) != (wrap64 ((wrap64 (a0_0 * a0_1)) * a0_2))) = false := bne_eq_false_iff_eq.mpr c4
      clear c4
      replace H := Option.bind_eq_some_iff.mp H
      obtain ⟨t119, A50, H⟩ := H
      replace H : (some t119) = some r := H
      have A5 := Aside0.mk A50
      clear A50
      obtain rfl := Option.some.inj H
      simp only [Option.some.injEq, Prod.mk.injEq] at H
      obtain ⟨rfl⟩ := H
      go_enter Try.func51, Try.ntmps51
      go_wp2_with (first | ((with_reducible refine gate_dst (N := 1) rfl ?_); (try (refine gate_guard (by rfl) ?_; dsimp only)); refine box_event ?hg (N := 1) ?hd (cs := #[.int .i64 a0_0, .int .i64 a0_1, .int .i64 a0_2, .slice A0_3 l0_3.length c0_3]) (t := 34) ?hr ?_; (case hd => rfl); (case hg => rfl); (case hr => first | (go_simp; done) | (go_simp; rfl)); intro gb117 hg w6 hbox hb; have n0_ := Aside0.mk (below_step (B.bl HB) hb); have n1_ := Aside0.mk (hbox); have n2_ := Aside0.mk (B.nle hg (below_size (B.bl HB))); have n3_ := Aside0.mk (B.nle hg (below_size (B.bl HB))); clear HB; have HB := n0_; have BK117 := n1_; have GW117 := n2_; have GE117 := n3_; clear n0_ n1_ n2_ n3_; clear hb hbox hg; have hcz7_0 : w6.cell? ⟨gb117, 0, none⟩ = some (.int .i64 a0_0) := B.bc BK117 0; have hcz7_1 : w6.cell? ⟨gb117, 1, none⟩ = some (.int .i64 a0_1) := B.bc BK117 1; have hcz7_2 : w6.cell? ⟨gb117, 2, none⟩ = some (.int .i64 a0_2) := B.bc BK117 2; have hcz7_3 : w6.cell? ⟨gb117, 3, none⟩ = some (.slice A0_3 l0_3.length c0_3) := B.bc BK117 3; have hfz7_0 := blk_frozen BK117.out 0; have hfz7_1 := blk_frozen BK117.out 1; have hfz7_2 := blk_frozen BK117.out 2; have hfz7_3 := blk_frozen BK117.out 3) | ((with_reducible refine gate_callee (f := 46) rfl ?_); refine goesL_ (some 9) rfl rfl Try.func46 (by kernel_rfl) rfl #[.int .i64 a0_0, .int .i64 a0_1, .int .i64 a0_2] rfl B.am ?_; (with_reducible refine (impl_isShape.calls a0_0 a0_1 a0_2 true _ A2.out).mono ?_); rintro e w' ⟨rfl, ⟨nd, rfl⟩⟩; refine ⟨_, rfl, ?_⟩) | (go_at_call 47; (with_reducible refine (impl_areBytes.calls _ _ l0_3 t119 _ ?side1 ?side2 A5.out).mono ?_); (case side1 => exact B.kc (Kd.C_below HR0_3.out (B.bl HB))); (case side2 => exact HC0_3.out); rintro e w' ⟨rfl, ⟨nd, rfl⟩⟩))
      go_ret
      exact ⟨by first | rfl | (simp [errW_none, errW_some] <;> rfl) | (simp [*, errW_none, errW_some] <;> rfl), B.bl HB⟩
    rw [if_neg c4] at H
    have c4b0 : ((l0_3.length : Int) == (wrap64 ((wrap64 (a0_0 * a0_1)) * a0_2))) = false := beq_eq_false_iff_ne.mpr c4
    have c4b1 : ((l0_3.length : Int) != (wrap64 ((wrap64 (a0_0 * a0_1)) * a0_2))) = true := bne_iff_ne.mpr c4
    obtain rfl := Option.some.inj H
    simp only [Option.some.injEq, Prod.mk.injEq] at H
    obtain ⟨rfl⟩ := H
    go_enter Try.func51, Try.ntmps51
    go_wp2_with (first | ((with_reducible refine gate_dst (N := 1) rfl ?_); (try (refine gate_guard (by rfl) ?_; dsimp only)); refine box_event ?hg (N := 1) ?hd (cs := #[.int .i64 a0_0, .int .i64 a0_1, .int .i64 a0_2, .slice A0_3 l0_3.length c0_3]) (t := 34) ?hr ?_; (case hd => rfl); (case hg => rfl); (case hr => first | (go_simp; done) | (go_simp; rfl)); intro gb117 hg w8 hbox hb; have n0_ := Aside0.mk (below_step (B.bl HB) hb); have n1_ := Aside0.mk (hbox); have n2_ := Aside0.mk (B.nle hg (below_size (B.bl HB))); have n3_ := Aside0.mk (B.nle hg (below_size (B.bl HB))); clear HB; have HB := n0_; have BK117 := n1_; have GW117 := n2_; have GE117 := n3_; clear n0_ n1_ n2_ n3_; clear hb hbox hg; have hcz9_0 : w8.cell? ⟨gb117, 0, none⟩ = some (.int .i64 a0_0) := B.bc BK117 0; have hcz9_1 : w8.cell? ⟨gb117, 1, none⟩ = some (.int .i64 a0_1) := B.bc BK117 1; have hcz9_2 : w8.cell? ⟨gb117, 2, none⟩ = some (.int .i64 a0_2) := B.bc BK117 2; have hcz9_3 : w8.cell? ⟨gb117, 3, none⟩ = some (.slice A0_3 l0_3.length c0_3) := B.bc BK117 3; have hfz9_0 := blk_frozen BK117.out 0; have hfz9_1 := blk_frozen BK117.out 1; have hfz9_2 := blk_frozen BK117.out 2; have hfz9_3 := blk_frozen BK117.out 3) | ((with_reducible refine gate_callee (f := 46) rfl ?_); refine goesL_ (some 9) rfl rfl Try.func46 (by kernel_rfl) rfl #[.int .i64 a0_0, .int .i64 a0_1, .int .i64 a0_2] rfl B.am ?_; (with_reducible refine (impl_isShape.calls a0_0 a0_1 a0_2 true _ A2.out).mono ?_); rintro e w' ⟨rfl, ⟨nd, rfl⟩⟩; refine ⟨_, rfl, ?_⟩))
    go_ret
    exact ⟨by first | rfl | (simp [errW_none, errW_some] <;> rfl) | (simp [*, errW_none, errW_some] <;> rfl), B.bl HB⟩
  replace c3 := Bool.eq_false_iff.mpr c3
  subst c3
  have H1 : (some false) = some r := by rw [if_neg (show ¬ (false = true) by decide)] at H; exact H
  clear H
  have H := H1
  clear H1
  obtain rfl := Option.some.inj H
  simp only [Option.some.injEq, Prod.mk.injEq] at H
  obtain ⟨rfl⟩ := H
  go_enter Try.func51, Try.ntmps51
  go_wp2_with (first | ((with_reducible refine gate_dst (N := 1) rfl ?_); (try (refine gate_guard (by rfl) ?_; dsimp only)); refine box_event ?hg (N := 1) ?hd (cs := #[.int .i64 a0_0, .int .i64 a0_1, .int .i64 a0_2, .slice A0_3 l0_3.length c0_3]) (t := 34) ?hr ?_; (case hd => rfl); (case hg => rfl); (case hr => first | (go_simp; done) | (go_simp; rfl)); intro gb117 hg w10 hbox hb; have n0_ := Aside0.mk (below_step (B.bl HB) hb); have n1_ := Aside0.mk (hbox); have n2_ := Aside0.mk (B.nle hg (below_size (B.bl HB))); have n3_ := Aside0.mk (B.nle hg (below_size (B.bl HB))); clear HB; have HB := n0_; have BK117 := n1_; have GW117 := n2_; have GE117 := n3_; clear n0_ n1_ n2_ n3_; clear hb hbox hg; have hcz11_0 : w10.cell? ⟨gb117, 0, none⟩ = some (.int .i64 a0_0) := B.bc BK117 0; have hcz11_1 : w10.cell? ⟨gb117, 1, none⟩ = some (.int .i64 a0_1) := B.bc BK117 1; have hcz11_2 : w10.cell? ⟨gb117, 2, none⟩ = some (.int .i64 a0_2) := B.bc BK117 2; have hcz11_3 : w10.cell? ⟨gb117, 3, none⟩ = some (.slice A0_3 l0_3.length c0_3) := B.bc BK117 3; have hfz11_0 := blk_frozen BK117.out 0; have hfz11_1 := blk_frozen BK117.out 1; have hfz11_2 := blk_frozen BK117.out 2; have hfz11_3 := blk_frozen BK117.out 3) | ((with_reducible refine gate_callee (f := 46) rfl ?_); refine goesL_ (some 9) rfl rfl Try.func46 (by kernel_rfl) rfl #[.int .i64 a0_0, .int .i64 a0_1, .int .i64 a0_2] rfl B.am ?_; (with_reducible refine (impl_isShape.calls a0_0 a0_1 a0_2 false _ A2.out).mono ?_); rintro e w' ⟨rfl, ⟨nd, rfl⟩⟩; refine ⟨_, rfl, ?_⟩))
  go_ret
  exact ⟨by first | rfl | (simp [errW_none, errW_some] <;> rfl) | (simp [*, errW_none, errW_some] <;> rfl), B.bl HB⟩

/-! ### beside impl_isImage (by hand) -/
-- GIVEN loop.example/pixelworks/impl.isImage
-- BESIDE yes
theorem areBytes_ok (l : List Int) : impl_areBytes.f l = some (l.all fun x => decide (0 ≤ x) && decide (x ≤ 255)) := by
  unfold impl_areBytes.f
  congr 1
  rw [Bool.eq_iff_iff]
  simp only [Bool.not_eq_true', List.any_eq_false, List.all_eq_true, notByte, Bool.or_eq_true, Bool.and_eq_true, decide_eq_true_eq, not_or]
  exact ⟨fun h x hx => by have := h x hx; omega, fun h x hx => by have := h x hx; omega⟩
theorem isSide_ok (n : Int) : impl_isSide.f n = some (decide (1 ≤ n) && decide (n ≤ 16)) := by
  unfold impl_isSide.f
  by_cases h : n ≥ 1
  · rw [if_pos h, decide_eq_true (show 1 ≤ n from h)]
    rfl
  · rw [if_neg h, decide_eq_false (show ¬ 1 ≤ n from h)]
    rfl
theorem isShape_ok (a b c : Int) : impl_isShape.f a b c = some ((decide (1 ≤ a) && decide (a ≤ 16)) && ((decide (1 ≤ b) && decide (b ≤ 16)) && (decide (1 ≤ c) && decide (c ≤ 4)))) := by
  unfold impl_isShape.f
  rw [isSide_ok, isSide_ok]
  simp only [Option.bind_some]
  by_cases h1 : (decide (1 ≤ a) && decide (a ≤ 16)) = true
  · rw [if_pos h1, h1]
    by_cases h2 : (decide (1 ≤ b) && decide (b ≤ 16)) = true
    · rw [if_pos h2, h2]
      by_cases h3 : c ≥ 1
      · rw [if_pos h3, decide_eq_true (show 1 ≤ c from h3)]
        rfl
      · rw [if_neg h3, decide_eq_false (show ¬ 1 ≤ c from h3)]
        rfl
    · rw [if_neg h2, Bool.eq_false_iff.2 h2]
      rfl
  · rw [if_neg h1, Bool.eq_false_iff.2 h1]
    rfl
theorem isImage_ok (w h p : Int) (D : List Int) : impl_isImage.f w h p D = some (B.okImg w h p D) := by
  unfold impl_isImage.f B.okImg
  rw [isShape_ok, areBytes_ok]
  simp only [Option.bind_some]
  by_cases h1 : ((decide (1 ≤ w) && decide (w ≤ 16)) && ((decide (1 ≤ h) && decide (h ≤ 16)) && (decide (1 ≤ p) && decide (p ≤ 4)))) = true
  · have h2 := h1
    simp only [Bool.and_eq_true, decide_eq_true_eq] at h2
    obtain ⟨⟨a1, a2⟩, ⟨a3, a4⟩, a5, a6⟩ := h2
    have e0 : 0 ≤ w * h := Int.mul_nonneg (by omega) (by omega)
    have e1 : w * h ≤ 16 * 16 := Int.mul_le_mul a2 a4 (by omega) (by omega)
    have e2 : 0 ≤ w * h * p := Int.mul_nonneg e0 (by omega)
    have e3 : w * h * p ≤ 256 * 4 := Int.mul_le_mul (by omega) a6 (by omega) (by omega)
    rw [if_pos h1, B.w64 (x := w * h) (by omega) (by omega), B.w64 (x := w * h * p) (by omega) (by omega), decide_eq_true a1, decide_eq_true a2, decide_eq_true a3, decide_eq_true a4, decide_eq_true a5, decide_eq_true a6]
    by_cases c : (D.length : Int) = w * h * p
    · rw [if_pos c, decide_eq_true c]
      simp
    · rw [if_neg c, decide_eq_false c]
      simp
  · rw [if_neg h1]
    congr 1
    rw [eq_comm, Bool.eq_false_iff]
    intro h2
    apply h1
    simp only [Bool.and_eq_true, decide_eq_true_eq] at h2 ⊢
    exact ⟨h2.1, h2.2.1, h2.2.2.1⟩

/-! ### impl_PassData: function 18 (by hand) -/
-- GIVEN loop.example/pixelworks/impl.PassData
-- ROUNDS yes
-- MAKING yes
/-- The pixels of columns and rows, row by row. -/
def passRow (w p : Nat) (D cs : List Int) (y : Int) : List Int := cs.flatMap fun x => B.pix D w p x.toNat y.toNat
def passAll (w p : Nat) (D rs cs : List Int) : List Int := rs.flatMap (passRow w p D cs)
def pre1 (w p : Nat) (D rs cs : List Int) (i : Nat) : List Int := passAll w p D (rs.take i) cs
def pre2 (w p : Nat) (D rs cs : List Int) (i j : Nat) (y : Int) : List Int := pre1 w p D rs cs i ++ passRow w p D (cs.take j) y
theorem take_rd (l : List Int) (x : Int) (h0 : 0 ≤ x) (h1 : x < (l.length : Int)) : l.take (x + 1).toNat = l.take x.toNat ++ [rd l x] := by
  have h2 : x.toNat < l.length := by omega
  rw [show (x + 1).toNat = x.toNat + 1 by omega, List.take_succ_eq_append_getElem h2]
  unfold rd
  simp [h2]
theorem rd_mem (l : List Int) (x : Int) (h0 : 0 ≤ x) (h1 : x < (l.length : Int)) : rd l x ∈ l := by
  have h2 : x.toNat < l.length := by omega
  unfold rd
  simp [h2]
theorem pre1_zero (w p : Nat) (D rs cs : List Int) : pre1 w p D rs cs 0 = [] := by simp [pre1, passAll]
theorem pre1_all (w p : Nat) (D rs cs : List Int) : pre1 w p D rs cs rs.length = passAll w p D rs cs := by simp [pre1]
theorem pre2_zero (w p : Nat) (D rs cs : List Int) (i : Nat) (y : Int) : pre2 w p D rs cs i 0 y = pre1 w p D rs cs i := by simp [pre2, passRow]
theorem pre2_step (w p : Nat) (D rs cs : List Int) (i : Nat) (y x : Int) (h0 : 0 ≤ x) (h1 : x < (cs.length : Int)) : pre2 w p D rs cs i x.toNat y ++ B.pix D w p (rd cs x).toNat y.toNat = pre2 w p D rs cs i (x + 1).toNat y := by
  unfold pre2 passRow
  rw [take_rd cs x h0 h1, List.flatMap_append, List.append_assoc]
  simp
theorem pre2_all (w p : Nat) (D rs cs : List Int) (y : Int) (h0 : 0 ≤ y) (h1 : y < (rs.length : Int)) : pre2 w p D rs cs y.toNat cs.length (rd rs y) = pre1 w p D rs cs (y + 1).toNat := by
  unfold pre2 pre1 passAll
  rw [take_rd rs y h0 h1, List.flatMap_append, List.take_length]
  simp
theorem pre1_le (w p : Nat) (D rs cs : List Int) (i : Nat) : (pre1 w p D rs cs i).length ≤ (passAll w p D rs cs).length := by
  unfold pre1 passAll
  conv => rhs; rw [← List.take_append_drop i rs, List.flatMap_append, List.length_append]
  omega
theorem passRow_le (w p : Nat) (D cs : List Int) (j : Nat) (y : Int) : (passRow w p D (cs.take j) y).length ≤ (passRow w p D cs y).length := by
  unfold passRow
  conv => rhs; rw [← List.take_append_drop j cs, List.flatMap_append, List.length_append]
  omega
theorem pre2_le (w p : Nat) (D rs cs : List Int) (j : Nat) (y : Int) (h0 : 0 ≤ y) (h1 : y < (rs.length : Int)) : (pre2 w p D rs cs y.toNat j (rd rs y)).length ≤ (passAll w p D rs cs).length := by
  refine Nat.le_trans ?_ (pre1_le w p D rs cs (y + 1).toNat)
  rw [← pre2_all w p D rs cs y h0 h1]
  unfold pre2
  rw [List.length_append, List.length_append, List.take_length]
  have := passRow_le w p D cs j (rd rs y)
  omega
def passOk (w h : Int) (rs cs : List Int) (n : Nat) : Bool := (cs.all fun x => decide (0 ≤ x) && decide (x < w)) && ((rs.all fun y => decide (0 ≤ y) && decide (y < h)) && (decide (rs.length ≤ 1000) && (decide (cs.length ≤ 1000) && decide (n ≤ 10000))))
def impl_PassData.f (k : Nat) (a0_0 : Int) (a0_1 : Int) (a0_2 : Int) (l0_3 : List Int) (a1 : Int) : Option (List Int) :=
  if B.okImg a0_0 a0_1 a0_2 l0_3 = true ∧ 0 ≤ a1 ∧ a1 ≤ 6 then
    (impl_passOf.f a1).bind fun t => (impl_pass_rows.f k t.1 t.2.1 t.2.2.1 t.2.2.2 a0_1).bind fun rs => (impl_pass_columns.f k t.1 t.2.1 t.2.2.1 t.2.2.2 a0_0).bind fun cs =>
      if passOk a0_0 a0_1 rs cs (passAll a0_0.toNat a0_2.toNat l0_3 rs cs).length = true then some (passAll a0_0.toNat a0_2.toNat l0_3 rs cs) else none
  else some []
theorem impl_PassData.mono : ∀ a0 a1 a2 a3 a4 k, LeO (impl_PassData.f k a0 a1 a2 a3 a4) (impl_PassData.f (k + 1) a0 a1 a2 a3 a4) := by
  intro a0 a1 a2 a3 a4 k
  unfold impl_PassData.f
  refine LeO.ite (LeO.bind (LeO.refl _) fun _ => LeO.bind (impl_pass_rows.mono _ _ _ _ _ _) fun _ => LeO.bind (impl_pass_columns.mono _ _ _ _ _ _) fun _ => LeO.refl _) (LeO.refl _)
set_option maxHeartbeats 4000000 in
theorem pass_no (a0_0 : Int) (a0_1 : Int) (a0_2 : Int) (A0_3 : Option Addr) (c0_3 : Nat) (l0_3 : List Int) (a1 : Int) (w : World) (hr0_3 : Kd.C (Kd.int .i64) w A0_3 l0_3.length l0_3) (hc0_3 : l0_3.length ≤ c0_3) (hv : B.okImg a0_0 a0_1 a0_2 l0_3 = false) :
    Calls Try.prog 18 #[.agg #[.int .i64 a0_0, .int .i64 a0_1, .int .i64 a0_2, .slice A0_3 l0_3.length c0_3], .int .i64 a1] w fun e w' => ∃ v0_ : Value, e = .returned (v0_) ∧ Kd.R (Kd.int .i64) 3 w' w.heap.size (fun _ => True) v0_ [] ∧ Below w.heap.size w w' := by
  have hu28 := Try.underlying34
  have H1 := Aside0.mk (fun (W : World) (hW : Below w.heap.size w W) => impl_isImage.calls a0_0 a0_1 a0_2 A0_3 c0_3 l0_3 false W (Kd.C_below hr0_3 hW) hc0_3 (by rw [isImage_ok, hv]))
  have BM : Aside0 ((w.alloc (.cells #[.int .i64 a0_0, .int .i64 a0_1, .int .i64 a0_2, .slice A0_3 l0_3.length c0_3] 34)).heap[w.heap.size]? = some (.cells #[.int .i64 a0_0, .int .i64 a0_1, .int .i64 a0_2, .slice A0_3 l0_3.length c0_3] 34 (0, 0))) := ⟨(heap_alloc_new w (.cells #[.int .i64 a0_0, .int .i64 a0_1, .int .i64 a0_2, .slice A0_3 l0_3.length c0_3] 34))⟩
  have HB : Aside0 (Below w.heap.size w (w.alloc (.cells #[.int .i64 a0_0, .int .i64 a0_1, .int .i64 a0_2, .slice A0_3 l0_3.length c0_3] 34))) := ⟨(below_alloc (Below.refl _ _) _)⟩
  clear hv hr0_3 hc0_3
  go_enter Try.func18, Try.ntmps18
  go_wp2_with fail
  refine (H1.out _ HB.out).mono ?_
  rintro e w1 ⟨rfl, hb1⟩
  have n0_ := Aside0.mk (blk_below BM.out hb1)
  have nb_ := Aside0.mk (below_step HB.out hb1)
  clear BM HB hb1
  have BM := n0_
  have HB := nb_
  clear n0_ nb_
  have hcBM0 := B.bc BM 0
  have hcBM1 := B.bc BM 1
  have hcBM2 := B.bc BM 2
  have hcBM3 := B.bc BM 3
  go_wp2
  go_ret
  exact ⟨_, rfl, Kd.R_nil _ _ _ _ _, HB.out⟩
set_option maxHeartbeats 4000000 in
theorem pass_lo (a0_0 : Int) (a0_1 : Int) (a0_2 : Int) (A0_3 : Option Addr) (c0_3 : Nat) (l0_3 : List Int) (a1 : Int) (w : World) (hr0_3 : Kd.C (Kd.int .i64) w A0_3 l0_3.length l0_3) (hc0_3 : l0_3.length ≤ c0_3) (hv : B.okImg a0_0 a0_1 a0_2 l0_3 = true) (t1 : a1 < 0) :
    Calls Try.prog 18 #[.agg #[.int .i64 a0_0, .int .i64 a0_1, .int .i64 a0_2, .slice A0_3 l0_3.length c0_3], .int .i64 a1] w fun e w' => ∃ v0_ : Value, e = .returned (v0_) ∧ Kd.R (Kd.int .i64) 3 w' w.heap.size (fun _ => True) v0_ [] ∧ Below w.heap.size w w' := by
  have hu28 := Try.underlying34
  have H1 := Aside0.mk (fun (W : World) (hW : Below w.heap.size w W) => impl_isImage.calls a0_0 a0_1 a0_2 A0_3 c0_3 l0_3 true W (Kd.C_below hr0_3 hW) hc0_3 (by rw [isImage_ok, hv]))
  have u1 : decide (a1 < 0) = true := decide_eq_true t1
  clear t1
  have BM : Aside0 ((w.alloc (.cells #[.int .i64 a0_0, .int .i64 a0_1, .int .i64 a0_2, .slice A0_3 l0_3.length c0_3] 34)).heap[w.heap.size]? = some (.cells #[.int .i64 a0_0, .int .i64 a0_1, .int .i64 a0_2, .slice A0_3 l0_3.length c0_3] 34 (0, 0))) := ⟨(heap_alloc_new w (.cells #[.int .i64 a0_0, .int .i64 a0_1, .int .i64 a0_2, .slice A0_3 l0_3.length c0_3] 34))⟩
  have HB : Aside0 (Below w.heap.size w (w.alloc (.cells #[.int .i64 a0_0, .int .i64 a0_1, .int .i64 a0_2, .slice A0_3 l0_3.length c0_3] 34))) := ⟨(below_alloc (Below.refl _ _) _)⟩
  clear hv hr0_3 hc0_3
  go_enter Try.func18, Try.ntmps18
  go_wp2_with fail
  refine (H1.out _ HB.out).mono ?_
  rintro e w1 ⟨rfl, hb1⟩
  have n0_ := Aside0.mk (blk_below BM.out hb1)
  have nb_ := Aside0.mk (below_step HB.out hb1)
  clear BM HB hb1
  have BM := n0_
  have HB := nb_
  clear n0_ nb_
  have hcBM0 := B.bc BM 0
  have hcBM1 := B.bc BM 1
  have hcBM2 := B.bc BM 2
  have hcBM3 := B.bc BM 3
  go_wp2
  go_ret
  exact ⟨_, rfl, Kd.R_nil _ _ _ _ _, HB.out⟩
set_option maxHeartbeats 4000000 in
theorem pass_hi (a0_0 : Int) (a0_1 : Int) (a0_2 : Int) (A0_3 : Option Addr) (c0_3 : Nat) (l0_3 : List Int) (a1 : Int) (w : World) (hr0_3 : Kd.C (Kd.int .i64) w A0_3 l0_3.length l0_3) (hc0_3 : l0_3.length ≤ c0_3) (hv : B.okImg a0_0 a0_1 a0_2 l0_3 = true) (t1 : ¬ a1 < 0) (t2 : 6 < a1) :
    Calls Try.prog 18 #[.agg #[.int .i64 a0_0, .int .i64 a0_1, .int .i64 a0_2, .slice A0_3 l0_3.length c0_3], .int .i64 a1] w fun e w' => ∃ v0_ : Value, e = .returned (v0_) ∧ Kd.R (Kd.int .i64) 3 w' w.heap.size (fun _ => True) v0_ [] ∧ Below w.heap.size w w' := by
  have hu28 := Try.underlying34
  have H1 := Aside0.mk (fun (W : World) (hW : Below w.heap.size w W) => impl_isImage.calls a0_0 a0_1 a0_2 A0_3 c0_3 l0_3 true W (Kd.C_below hr0_3 hW) hc0_3 (by rw [isImage_ok, hv]))
  have u1 : decide (a1 < 0) = false := decide_eq_false t1
  clear t1
  have u2 : decide (6 < a1) = true := decide_eq_true t2
  clear t2
  have BM : Aside0 ((w.alloc (.cells #[.int .i64 a0_0, .int .i64 a0_1, .int .i64 a0_2, .slice A0_3 l0_3.length c0_3] 34)).heap[w.heap.size]? = some (.cells #[.int .i64 a0_0, .int .i64 a0_1, .int .i64 a0_2, .slice A0_3 l0_3.length c0_3] 34 (0, 0))) := ⟨(heap_alloc_new w (.cells #[.int .i64 a0_0, .int .i64 a0_1, .int .i64 a0_2, .slice A0_3 l0_3.length c0_3] 34))⟩
  have HB : Aside0 (Below w.heap.size w (w.alloc (.cells #[.int .i64 a0_0, .int .i64 a0_1, .int .i64 a0_2, .slice A0_3 l0_3.length c0_3] 34))) := ⟨(below_alloc (Below.refl _ _) _)⟩
  clear hv hr0_3 hc0_3
  go_enter Try.func18, Try.ntmps18
  go_wp2_with fail
  refine (H1.out _ HB.out).mono ?_
  rintro e w1 ⟨rfl, hb1⟩
  have n0_ := Aside0.mk (blk_below BM.out hb1)
  have nb_ := Aside0.mk (below_step HB.out hb1)
  clear BM HB hb1
  have BM := n0_
  have HB := nb_
  clear n0_ nb_
  have hcBM0 := B.bc BM 0
  have hcBM1 := B.bc BM 1
  have hcBM2 := B.bc BM 2
  have hcBM3 := B.bc BM 3
  go_wp2
  go_ret
  exact ⟨_, rfl, Kd.R_nil _ _ _ _ _, HB.out⟩
set_option maxHeartbeats 8000000 in
set_option maxRecDepth 100000 in
theorem pass_yes (k : Nat) (p1 p2 p3 p4 : Int) (rs cs : List Int) (a0_0 : Int) (a0_1 : Int) (a0_2 : Int) (A0_3 : Option Addr) (c0_3 : Nat) (l0_3 : List Int) (a1 : Int) (w : World) (hr0_3 : Kd.C (Kd.int .i64) w A0_3 l0_3.length l0_3) (hc0_3 : l0_3.length ≤ c0_3) (hv : B.okImg a0_0 a0_1 a0_2 l0_3 = true) (t1 : ¬ a1 < 0) (t2 : ¬ 6 < a1) (hT : impl_passOf.f a1 = some (p1, p2, p3, p4)) (hrs : impl_pass_rows.f k p1 p2 p3 p4 a0_1 = some rs) (hcs : impl_pass_columns.f k p1 p2 p3 p4 a0_0 = some cs) (hok : passOk a0_0 a0_1 rs cs (passAll a0_0.toNat a0_2.toNat l0_3 rs cs).length = true) :
    Calls Try.prog 18 #[.agg #[.int .i64 a0_0, .int .i64 a0_1, .int .i64 a0_2, .slice A0_3 l0_3.length c0_3], .int .i64 a1] w fun e w' => ∃ v0_ : Value, e = .returned (v0_) ∧ Kd.R (Kd.int .i64) 3 w' w.heap.size (fun _ => True) v0_ (passAll a0_0.toNat a0_2.toNat l0_3 rs cs) ∧ Below w.heap.size w w' := by
  have hu28 := Try.underlying34
  have hu56 := Try.underlying56
  have hK : (∀ x ∈ cs, 0 ≤ x ∧ x < a0_0) ∧ (∀ y ∈ rs, 0 ≤ y ∧ y < a0_1) ∧ rs.length ≤ 1000 ∧ cs.length ≤ 1000 ∧ (passAll a0_0.toNat a0_2.toNat l0_3 rs cs).length ≤ 10000 := by
    have h := hok
    unfold passOk at h
    simp only [Bool.and_eq_true, List.all_eq_true, decide_eq_true_eq] at h
    exact h
  have HK := Aside0.mk hK
  have ho := (B.okImg_img hv).1
  have H1 := Aside0.mk (fun (W : World) (hW : Below w.heap.size w W) => impl_isImage.calls a0_0 a0_1 a0_2 A0_3 c0_3 l0_3 true W (Kd.C_below hr0_3 hW) hc0_3 (by rw [isImage_ok, hv]))
  have H2 := Aside0.mk (fun (W : World) => impl_passOf.calls a1 p1 p2 p3 p4 W hT)
  have H3 := Aside0.mk (fun (W : World) => impl_pass_rows.calls k p1 p2 p3 p4 a0_1 rs W hrs)
  have H4 := Aside0.mk (fun (W : World) => impl_pass_columns.calls k p1 p2 p3 p4 a0_0 cs W hcs)
  have H5 := Aside0.mk (fun (W : World) (hW : Below w.heap.size w W) (x y : Int) (hx : 0 ≤ x ∧ x < a0_0) (hy : 0 ≤ y ∧ y < a0_1) => at_calls a0_0 a0_1 a0_2 x y A0_3 c0_3 l0_3 W ho hx hy (Kd.C_below hr0_3 hW) hc0_3)
  have hpl : ∀ x y, (B.pix l0_3 a0_0.toNat a0_2.toNat x y).length ≤ 4 := fun x y => by
    have := ho.2.2.2.2.2.1
    unfold B.pix B.chunk
    rw [List.length_take]
    omega
  have HPL := Aside0.mk hpl
  have u1 : decide (a1 < 0) = false := decide_eq_false t1
  have u2 : decide (6 < a1) = false := decide_eq_false t2
  clear hK ho hpl hok hT hrs hcs t1 t2
  have BM : Aside0 ((w.alloc (.cells #[.int .i64 a0_0, .int .i64 a0_1, .int .i64 a0_2, .slice A0_3 l0_3.length c0_3] 34)).heap[w.heap.size]? = some (.cells #[.int .i64 a0_0, .int .i64 a0_1, .int .i64 a0_2, .slice A0_3 l0_3.length c0_3] 34 (0, 0))) := ⟨(heap_alloc_new w (.cells #[.int .i64 a0_0, .int .i64 a0_1, .int .i64 a0_2, .slice A0_3 l0_3.length c0_3] 34))⟩
  have HB : Aside0 (Below w.heap.size w (w.alloc (.cells #[.int .i64 a0_0, .int .i64 a0_1, .int .i64 a0_2, .slice A0_3 l0_3.length c0_3] 34))) := ⟨(below_alloc (Below.refl _ _) _)⟩
  clear hv hr0_3 hc0_3
  go_enter Try.func18, Try.ntmps18
  go_wp2_with fail
  refine (H1.out _ HB.out).mono ?_
  rintro e w1 ⟨rfl, hb1⟩
  have n0_ := Aside0.mk (blk_below BM.out hb1)
  have nb_ := Aside0.mk (below_step HB.out hb1)
  clear BM HB hb1
  have BM := n0_
  have HB := nb_
  clear n0_ nb_
  have hcBM0 := B.bc BM 0
  have hcBM1 := B.bc BM 1
  have hcBM2 := B.bc BM 2
  have hcBM3 := B.bc BM 3
  clear H1
  go_upto_region 5 with (first | ((with_reducible refine gate_dst (N := 22) rfl ?_); refine Kd.R_lit (Kd.int .i64) _ 3 ?hg (N := 22) ?hd (xs := ([] : List Int)) (inner := []) (ok := fun _ => True) (okp := fun _ => True) ?hr ?hp (fun _ hk => hk) trivial (Below.refl _ _) (Nat.le_refl _) (by simp) ?_; (case hd => rfl); (case hg => rfl); (case hr => first | (go_simp; done) | (go_simp; rfl)); (case hp => exact (Reps.none _ _)); intro v2 w2 ho2 hb2 hg_ hnew_; clear hg_ hnew_; have n0_ := Aside0.mk (blk_below BM.out hb2); have n1_ := Aside0.mk (below_step HB.out hb2); have n2_ := Aside0.mk (Kd.R_lower ho2 HB.out.size); clear BM HB hb2 ho2; have BM := n0_; have HB := n1_; have HO := n2_; clear n0_ n1_ n2_; clear hcBM0 hcBM1 hcBM2 hcBM3) | ((with_reducible refine gate_callee (f := 39) rfl ?_); refine goesL_ (some 24) rfl rfl Try.func39 (by kernel_rfl) rfl #[.int .i64 a1] rfl B.am ?_; refine (H2.out _).mono ?_; rintro e w3 ⟨rfl, hb⟩; refine ⟨_, rfl, ?_⟩; have n0_ := Aside0.mk (Kd.R_below (B.kr HO) hb); have n1_ := Aside0.mk (blk_below (B.kb BM) hb); have n2_ := Aside0.mk (below_step (B.bl HB) hb); clear HO BM HB hb; have HO := n0_; have BM := n1_; have HB := n2_; clear n0_ n1_ n2_) | ((with_reducible refine gate_dst (N := 6) rfl ?_); refine box_event ?hg (N := 6) ?hd (cs := #[.int .i64 0, .int .i64 0, .int .i64 0, .int .i64 0]) (t := 56) ?hr ?_; (case hd => rfl); (case hg => rfl); (case hr => first | (go_simp; done) | (go_simp; rfl)); intro gp hg w4 hbox hb; have n0_ := Aside0.mk (Kd.R_below (B.kr HO) hb); have n1_ := Aside0.mk (blk_below (B.kb BM) hb); have n2_ := Aside0.mk (below_step (B.bl HB) hb); have n3_ := Aside0.mk hbox; have n4_ := Aside0.mk (B.nle hg (below_size (B.bl HB))); have n5_ := Aside0.mk (B.nlt hg (blk_lt (B.kb BM))); clear HO BM HB; have HO := n0_; have BM := n1_; have HB := n2_; have BP := n3_; have GP := n4_; have NMP := n5_; clear n0_ n1_ n2_ n3_ n4_ n5_; clear hb hbox hg; have hp0 : w4.cell? ⟨gp, 0, none⟩ = some (.int .i64 0) := B.bc BP 0; have hp1 : w4.cell? ⟨gp, 1, none⟩ = some (.int .i64 0) := B.bc BP 1; have hp2 : w4.cell? ⟨gp, 2, none⟩ = some (.int .i64 0) := B.bc BP 2; have hp3 : w4.cell? ⟨gp, 3, none⟩ = some (.int .i64 0) := B.bc BP 3; have hq0 := blk_frozen BP.out 0; have hq1 := blk_frozen BP.out 1; have hq2 := blk_frozen BP.out 2; have hq3 := blk_frozen BP.out 3))
  (try simp only [Act.put, List.setIfInBounds_toArray, List.set_cons_zero, List.set_cons_succ])
  have n0_ : Aside0 (Kd.R (Kd.int .i64) 3 ((((w4.setCell ⟨gp, 0, none⟩ (.int .i64 p1)).setCell ⟨gp, 1, none⟩ (.int .i64 p2)).setCell ⟨gp, 2, none⟩ (.int .i64 p3)).setCell ⟨gp, 3, none⟩ (.int .i64 p4)) w.heap.size (fun _ => True) v2 []) := ⟨Kd.R_mono (B.rf4 HO BP) (fun _ _ => trivial)⟩
  have n1_ : Aside0 (((((w4.setCell ⟨gp, 0, none⟩ (.int .i64 p1)).setCell ⟨gp, 1, none⟩ (.int .i64 p2)).setCell ⟨gp, 2, none⟩ (.int .i64 p3)).setCell ⟨gp, 3, none⟩ (.int .i64 p4)).heap[w.heap.size]? = some (.cells #[.int .i64 a0_0, .int .i64 a0_1, .int .i64 a0_2, .slice A0_3 l0_3.length c0_3] 34 (0, 0))) := ⟨B.bf4 BM NMP⟩
  have n2_ : Aside0 (((((w4.setCell ⟨gp, 0, none⟩ (.int .i64 p1)).setCell ⟨gp, 1, none⟩ (.int .i64 p2)).setCell ⟨gp, 2, none⟩ (.int .i64 p3)).setCell ⟨gp, 3, none⟩ (.int .i64 p4)).heap[gp]? = some (.cells #[.int .i64 p1, .int .i64 p2, .int .i64 p3, .int .i64 p4] 56 (0, 0))) := ⟨B.bp4 BP⟩
  have n3_ : Aside0 (Below w.heap.size w ((((w4.setCell ⟨gp, 0, none⟩ (.int .i64 p1)).setCell ⟨gp, 1, none⟩ (.int .i64 p2)).setCell ⟨gp, 2, none⟩ (.int .i64 p3)).setCell ⟨gp, 3, none⟩ (.int .i64 p4))) := ⟨below_set (below_set (below_set (below_set HB.out GP.out) GP.out) GP.out) GP.out⟩
  clear HO BM BP HB hp0 hp1 hp2 hp3 hq0 hq1 hq2 hq3 H2
  have HO := n0_
  have BM := n1_
  have BP := n2_
  have HB := n3_
  clear n0_ n1_ n2_ n3_
  generalize ((((w4.setCell ⟨gp, 0, none⟩ (.int .i64 p1)).setCell ⟨gp, 1, none⟩ (.int .i64 p2)).setCell ⟨gp, 2, none⟩ (.int .i64 p3)).setCell ⟨gp, 3, none⟩ (.int .i64 p4)) = w5 at HO BM BP HB ⊢
  have hm0 : w5.cell? ⟨w.heap.size, 0, none⟩ = some (.int .i64 a0_0) := (blk_cell BM.out 0).trans rfl
  have hm1 : w5.cell? ⟨w.heap.size, 1, none⟩ = some (.int .i64 a0_1) := (blk_cell BM.out 1).trans rfl
  have hm2 : w5.cell? ⟨w.heap.size, 2, none⟩ = some (.int .i64 a0_2) := (blk_cell BM.out 2).trans rfl
  have hm3 : w5.cell? ⟨w.heap.size, 3, none⟩ = some (.slice A0_3 l0_3.length c0_3) := (blk_cell BM.out 3).trans rfl
  have hp0 : w5.cell? ⟨gp, 0, none⟩ = some (.int .i64 p1) := B.bc BP 0
  have hp1 : w5.cell? ⟨gp, 1, none⟩ = some (.int .i64 p2) := B.bc BP 1
  have hp2 : w5.cell? ⟨gp, 2, none⟩ = some (.int .i64 p3) := B.bc BP 2
  have hp3 : w5.cell? ⟨gp, 3, none⟩ = some (.int .i64 p4) := B.bc BP 3
  go_wp2_with fail
  refine (H3.out _).mono ?_
  rintro e w6 ⟨vr, rfl, hr0, hb6⟩
  clear hm0 hm1 hm2 hm3 hp0 hp1 hp2 hp3 H3
  have HRS := Aside0.mk (Kd.R_tight rfl (Kd.R_lower hr0 HB.out.size))
  have HN := Aside0.mk (show ∀ j, some j = vr.ownBlock → some j ≠ v2.ownBlock from fun j h1 h2 => absurd (Kd.R_lt HO.out j h2.symm) (Nat.not_lt.2 (Kd.R_base hr0 j h1.symm)))
  clear hr0
  have n0_ := Aside0.mk (Kd.R_below HO.out hb6)
  have n1_ := Aside0.mk (blk_below BM.out hb6)
  have n2_ := Aside0.mk (blk_below BP.out hb6)
  have n3_ := Aside0.mk (below_step HB.out hb6)
  clear HO BM BP HB hb6
  have HO := n0_
  have BM := n1_
  have BP := n2_
  have HB := n3_
  clear n0_ n1_ n2_ n3_
  obtain ⟨Ar, cr, er⟩ := Kd.R_slice HRS.out
  subst er
  go_wp2
  go_loopg [5, 30] rs.length (fun gg v5 v30 wr => ∃ (y : Int) (vo : Value), vo = v5 ∧ v30 = .int .i64 y ∧ Aside0 (0 ≤ y ∧ y ≤ (rs.length : Int) ∧ rs.length - y.toNat ≤ gg) ∧ Aside0 (wr.heap[w.heap.size]? = some (.cells #[.int .i64 a0_0, .int .i64 a0_1, .int .i64 a0_2, .slice A0_3 l0_3.length c0_3] 34 (0, 0))) ∧ Aside0 (wr.heap[gp]? = some (.cells #[.int .i64 p1, .int .i64 p2, .int .i64 p3, .int .i64 p4] 56 (0, 0))) ∧ Aside0 (Kd.R (Kd.int .i64) 3 wr w.heap.size (fun j => some j = (.slice Ar rs.length cr : Value).ownBlock) (.slice Ar rs.length cr : Value) rs) ∧ Aside0 (Kd.R (Kd.int .i64) 3 wr w.heap.size (fun _ => True) vo (pre1 a0_0.toNat a0_2.toNat l0_3 rs cs y.toNat)) ∧ Aside0 (∀ j, some j = (.slice Ar rs.length cr : Value).ownBlock → some j ≠ vo.ownBlock) ∧ Aside0 (Below w.heap.size w wr))
  case atStart => exact ⟨0, _, rfl, rfl, ⟨by omega⟩, BM, BP, HRS, ⟨by rw [show (0 : Int).toNat = 0 from rfl, pre1_zero]; exact HO.out⟩, HN, HB⟩
  case round =>
    clear HO BM BP HRS HN HB
    obtain ⟨y, vo, rfl, rfl, HY, BM, BP, HRS, HO, HN, HB⟩ := hrel
    by_cases cy : y < (rs.length : Int)
    · have cyb : decide (y < (rs.length : Int)) = true := decide_eq_true cy
      have HCY := Aside0.mk cy
      have p1' : 0 ≤ y := HY.out.1
      have q1' : y < (rs.length : Int) := cy
      clear cy
      obtain ⟨gr, cr', er, gb, gl, HG⟩ := Kd.R_form HRS.out (by omega)
      injection er with ea_ en_ ec_
      subst ea_
      subst ec_
      clear en_ gb gl HG
      obtain ⟨hx0, hf0⟩ := Kd.R_celln 0 HRS.out y p1' q1'
      replace hx0 := hx0.trans (show _ = some (Value.int .i64 (rd rs y)) from rfl)
      have hyr := HK.out.2.1 (rd rs y) (rd_mem rs y p1' q1')
      replace p1' := eq_true p1'
      replace q1' := eq_true q1'
      generalize hz : rd rs y = yv at hx0 hyr
      have HZ := Aside0.mk hz
      have HYV := Aside0.mk hyr
      clear hz hyr
      have hm0 : wr.cell? ⟨w.heap.size, 0, none⟩ = some (.int .i64 a0_0) := (blk_cell BM.out 0).trans rfl
      have hm1 : wr.cell? ⟨w.heap.size, 1, none⟩ = some (.int .i64 a0_1) := (blk_cell BM.out 1).trans rfl
      have hm2 : wr.cell? ⟨w.heap.size, 2, none⟩ = some (.int .i64 a0_2) := (blk_cell BM.out 2).trans rfl
      have hm3 : wr.cell? ⟨w.heap.size, 3, none⟩ = some (.slice A0_3 l0_3.length c0_3) := (blk_cell BM.out 3).trans rfl
      have hp0 : wr.cell? ⟨gp, 0, none⟩ = some (.int .i64 p1) := B.bc BP 0
      have hp1 : wr.cell? ⟨gp, 1, none⟩ = some (.int .i64 p2) := B.bc BP 1
      have hp2 : wr.cell? ⟨gp, 2, none⟩ = some (.int .i64 p3) := B.bc BP 2
      have hp3 : wr.cell? ⟨gp, 3, none⟩ = some (.int .i64 p4) := B.bc BP 3
      go_wp2_with fail
      refine (H4.out _).mono ?_
      rintro e w7 ⟨vc, rfl, hc0, hb7⟩
      clear hm0 hm1 hm2 hm3 hp0 hp1 hp2 hp3 hx0 hf0
      have HCS := Aside0.mk (Kd.R_tight rfl (Kd.R_lower hc0 HB.out.size))
      have HNC := Aside0.mk (show ∀ j, some j = vc.ownBlock → some j ≠ vo.ownBlock from fun j h1 h2 => absurd (Kd.R_lt HO.out j h2.symm) (Nat.not_lt.2 (Kd.R_base hc0 j h1.symm)))
      clear hc0
      have n0_ := Aside0.mk (Kd.R_below HO.out hb7)
      have n1_ := Aside0.mk (Kd.R_below HRS.out hb7)
      have n2_ := Aside0.mk (blk_below BM.out hb7)
      have n3_ := Aside0.mk (blk_below BP.out hb7)
      have n4_ := Aside0.mk (below_step HB.out hb7)
      clear HO HRS BM BP HB hb7
      have HO := n0_
      have HRS := n1_
      have BM := n2_
      have BP := n3_
      have HB := n4_
      clear n0_ n1_ n2_ n3_ n4_
      obtain ⟨Ac, cc, ec⟩ := Kd.R_slice HCS.out
      subst ec
      go_wp2
      go_loopg [5, 39] cs.length (fun gg v5 v39 wi => ∃ (x : Int) (vi : Value), vi = v5 ∧ v39 = .int .i64 x ∧ Aside0 (0 ≤ x ∧ x ≤ (cs.length : Int) ∧ cs.length - x.toNat ≤ gg) ∧ Aside0 (wi.heap[w.heap.size]? = some (.cells #[.int .i64 a0_0, .int .i64 a0_1, .int .i64 a0_2, .slice A0_3 l0_3.length c0_3] 34 (0, 0))) ∧ Aside0 (wi.heap[gp]? = some (.cells #[.int .i64 p1, .int .i64 p2, .int .i64 p3, .int .i64 p4] 56 (0, 0))) ∧ Aside0 (Kd.R (Kd.int .i64) 3 wi w.heap.size (fun j => some j = (.slice (some ⟨gr, 0, none⟩) rs.length cr : Value).ownBlock) (.slice (some ⟨gr, 0, none⟩) rs.length cr : Value) rs) ∧ Aside0 (Kd.R (Kd.int .i64) 3 wi w.heap.size (fun j => some j = (.slice Ac cs.length cc : Value).ownBlock) (.slice Ac cs.length cc : Value) cs) ∧ Aside0 (Kd.R (Kd.int .i64) 3 wi w.heap.size (fun _ => True) vi (pre2 a0_0.toNat a0_2.toNat l0_3 rs cs y.toNat x.toNat yv)) ∧ Aside0 (∀ j, some j = (.slice (some ⟨gr, 0, none⟩) rs.length cr : Value).ownBlock → some j ≠ vi.ownBlock) ∧ Aside0 (∀ j, some j = (.slice Ac cs.length cc : Value).ownBlock → some j ≠ vi.ownBlock) ∧ Aside0 (Below w.heap.size w wi))
      case atStart => exact ⟨0, _, rfl, rfl, ⟨by omega⟩, BM, BP, HRS, HCS, ⟨by rw [show (0 : Int).toNat = 0 from rfl, pre2_zero]; exact HO.out⟩, HN, HNC, HB⟩
      case round =>
        clear HO BM BP HRS HCS HN HNC HB
        obtain ⟨x, vi, rfl, rfl, HX, BM, BP, HRS, HCS, HO, HN, HNC, HB⟩ := hrel
        by_cases cx : x < (cs.length : Int)
        · have cxb : decide (x < (cs.length : Int)) = true := decide_eq_true cx
          have HCX := Aside0.mk cx
          have p2' : 0 ≤ x := HX.out.1
          have q2' : x < (cs.length : Int) := cx
          clear cx
          obtain ⟨gc, cc', ec, gb, gl, HG⟩ := Kd.R_form HCS.out (by omega)
          injection ec with ea_ en_ ec_
          subst ea_
          subst ec_
          clear en_ gb gl HG
          obtain ⟨hx0, hf0⟩ := Kd.R_celln 0 HCS.out x p2' q2'
          replace hx0 := hx0.trans (show _ = some (Value.int .i64 (rd cs x)) from rfl)
          have hxr := HK.out.1 (rd cs x) (rd_mem cs x p2' q2')
          have HST := Aside0.mk (pre2_step a0_0.toNat a0_2.toNat l0_3 rs cs y.toNat yv x p2' q2')
          have HLE := Aside0.mk (pre2_le a0_0.toNat a0_2.toNat l0_3 rs cs x.toNat y HY.out.1 HCY.out)
          rw [HZ.out] at HLE
          have HW : Aside0 (wrap64 (x + 1) = x + 1) := ⟨B.w64 (by omega) (by have := HK.out.2.2.2.1; omega)⟩
          replace p2' := eq_true p2'
          replace q2' := eq_true q2'
          generalize rd cs x = xv at hx0 hxr HST
          have HXV := Aside0.mk hxr
          clear hxr
          generalize hout : pre2 a0_0.toNat a0_2.toNat l0_3 rs cs y.toNat x.toNat yv = out at HO HST HLE
          clear hout
          have hm0 : wr.cell? ⟨w.heap.size, 0, none⟩ = some (.int .i64 a0_0) := (blk_cell BM.out 0).trans rfl
          have hm1 : wr.cell? ⟨w.heap.size, 1, none⟩ = some (.int .i64 a0_1) := (blk_cell BM.out 1).trans rfl
          have hm2 : wr.cell? ⟨w.heap.size, 2, none⟩ = some (.int .i64 a0_2) := (blk_cell BM.out 2).trans rfl
          have hm3 : wr.cell? ⟨w.heap.size, 3, none⟩ = some (.slice A0_3 l0_3.length c0_3) := (blk_cell BM.out 3).trans rfl
          obtain ⟨Av, cv, ev⟩ := Kd.R_slice HO.out
          have HEV := Aside0.mk ev
          clear ev
          go_wp2_with fail
          refine (H5.out _ HB.out xv yv HXV.out HYV.out).mono ?_
          rintro e w8 ⟨A1, c1, rfl, hc1, hC, hb8⟩
          clear hm0 hm1 hm2 hm3 hx0 hf0
          have HC := Aside0.mk hC
          have HP4 := Aside0.mk (HPL.out xv.toNat yv.toNat)
          generalize B.pix l0_3 a0_0.toNat a0_2.toNat xv.toNat yv.toNat = px at HC HST HP4
          clear hC hc1
          have n0_ := Aside0.mk (Kd.R_below HO.out hb8)
          have n1_ := Aside0.mk (Kd.R_below HRS.out hb8)
          have n2_ := Aside0.mk (Kd.R_below HCS.out hb8)
          have n3_ := Aside0.mk (blk_below BM.out hb8)
          have n4_ := Aside0.mk (blk_below BP.out hb8)
          have n5_ := Aside0.mk (below_step HB.out hb8)
          clear HO HRS HCS BM BP HB hb8
          have HO := n0_
          have HRS := n1_
          have HCS := n2_
          have BM := n3_
          have BP := n4_
          have HB := n5_
          clear n0_ n1_ n2_ n3_ n4_ n5_
          go_wp2_with (first | ((with_reducible refine gate_builtin (b := .append) (xs := #[.tmp 43, .tmp 47]) rfl ?_); at_builtin; refine Kd.R_append_rows (Kd.int .i64) (w0 := w) w.heap.size rfl (.tmp 43) (.tmp 47) 32 3 (.int .i64 0) 8 rfl Try.underlying32 info3 rfl (by decide) (by omega) vi out px _ _ _ (fun _ => True) (fun _ => False) rfl rfl ?aO ?aR (fun _ _ h => h) (fun _ h => h.elim) ?aF ?aB ?aS ?aL ?_; (case aR => exact HC.out); (case aB => exact HB.out); (case aF => exact (fun _ _ => trivial)); (case aO => exact HO.out); (case aS => exact HB.out.size); (case aL => have := HP4.out; have := HLE.out; have := HK.out.2.2.2.2; omega); intro v9 w9 ho9 hb9 hg9 hat9; rw [HST.out] at ho9; have n0_ := Aside0.mk ho9; have n1_ := Aside0.mk (Kd.R_grown HRS.out hg9 HN.out); have n2_ := Aside0.mk (Kd.R_grown HCS.out hg9 HNC.out); have n3_ := Aside0.mk (blk_grown BM.out hg9 (Kd.R_ne HO.out BM.out (by decide))); have n4_ := Aside0.mk (blk_grown BP.out hg9 (Kd.R_ne HO.out BP.out (by decide))); have n5_ := Aside0.mk hb9; have n6_ := Aside0.mk (B.apart_grown HN.out (Kd.R_lt HRS.out) hat9); have n7_ := Aside0.mk (B.apart_grown HNC.out (Kd.R_lt HCS.out) hat9); clear HO HRS HCS BM BP HB HN HNC ho9 hb9 hg9 hat9 HC; have HO := n0_; have HRS := n1_; have HCS := n2_; have BM := n3_; have BP := n4_; have HB := n5_; have HN := n6_; have HNC := n7_; clear n0_ n1_ n2_ n3_ n4_ n5_ n6_ n7_))
          go_roundg (cs.length - (x + 1).toNat)
          case measure => have := HX.out; have := HCX.out; omega
          case rel =>
            refine ⟨wrap64 (x + 1), _, rfl, rfl, ⟨?_⟩, BM, BP, HRS, HCS, ⟨?_⟩, HN, HNC, HB⟩
            · rw [HW.out]; have := HX.out; have := HCX.out; omega
            · rw [HW.out]; exact HO.out
        · have cxb : decide (x < (cs.length : Int)) = false := decide_eq_false cx
          have ex : x.toNat = cs.length := by have := HX.out; omega
          have HA := Aside0.mk (pre2_all a0_0.toNat a0_2.toNat l0_3 rs cs y HY.out.1 HCY.out)
          rw [HZ.out] at HA
          rw [ex, HA.out] at HO
          clear ex cx HA
          have HW : Aside0 (wrap64 (y + 1) = y + 1) := ⟨B.w64 (by have := HY.out; omega) (by have := HK.out.2.2.1; have := HCY.out; omega)⟩
          go_wp2
          go_roundg (rs.length - (y + 1).toNat)
          case measure => have := HY.out; have := HCY.out; omega
          case rel =>
            refine ⟨wrap64 (y + 1), _, rfl, rfl, ⟨?_⟩, BM, BP, HRS, ⟨?_⟩, HN, HB⟩
            · rw [HW.out]; have := HY.out; have := HCY.out; omega
            · rw [HW.out]; exact HO.out
    · have cyb : decide (y < (rs.length : Int)) = false := decide_eq_false cy
      have ey : y.toNat = rs.length := by have := HY.out; omega
      rw [ey, pre1_all] at HO
      clear ey cy
      go_wp2
      go_ret
      exact ⟨_, rfl, HO.out, HB.out⟩
theorem impl_PassData.calls (k : Nat) (a0_0 : Int) (a0_1 : Int) (a0_2 : Int) (A0_3 : Option Addr) (c0_3 : Nat) (l0_3 : List Int) (a1 : Int) (r : List Int) (w : World) (hr0_3 : Kd.C (Kd.int .i64) w A0_3 l0_3.length l0_3) (hc0_3 : l0_3.length ≤ c0_3) (h : impl_PassData.f k a0_0 a0_1 a0_2 l0_3 a1 = some r) :
    Calls Try.prog 18 #[.agg #[.int .i64 a0_0, .int .i64 a0_1, .int .i64 a0_2, .slice A0_3 l0_3.length c0_3], .int .i64 a1] w fun e w' => ∃ v0_ : Value, e = .returned (v0_) ∧ Kd.R (Kd.int .i64) 3 w' w.heap.size (fun _ => True) v0_ r ∧ Below w.heap.size w w' := by
  unfold impl_PassData.f at h
  by_cases hv : B.okImg a0_0 a0_1 a0_2 l0_3 = true
  case neg =>
    exact (by
    rw [if_neg (fun g => hv g.1)] at h
    obtain rfl := Option.some.inj h
    exact pass_no a0_0 a0_1 a0_2 A0_3 c0_3 l0_3 a1 w hr0_3 hc0_3 (Bool.eq_false_iff.2 hv))
  by_cases t1 : a1 < 0
  · exact (by
    rw [if_neg (fun g => by have := g.2; omega)] at h
    obtain rfl := Option.some.inj h
    exact pass_lo a0_0 a0_1 a0_2 A0_3 c0_3 l0_3 a1 w hr0_3 hc0_3 hv t1)
  by_cases t2 : 6 < a1
  · exact (by
    rw [if_neg (fun g => by have := g.2; omega)] at h
    obtain rfl := Option.some.inj h
    exact pass_hi a0_0 a0_1 a0_2 A0_3 c0_3 l0_3 a1 w hr0_3 hc0_3 hv t1 t2)
  rw [if_pos ⟨hv, by omega, by omega⟩] at h
  obtain ⟨⟨p1, p2, p3, p4⟩, hT, h⟩ := Option.bind_eq_some_iff.mp h
  obtain ⟨rs, hrs, h⟩ := Option.bind_eq_some_iff.mp h
  obtain ⟨cs, hcs, h⟩ := Option.bind_eq_some_iff.mp h
  by_cases hok : passOk a0_0 a0_1 rs cs (passAll a0_0.toNat a0_2.toNat l0_3 rs cs).length = true
  · rw [if_pos hok] at h
    obtain rfl := Option.some.inj h
    exact pass_yes k p1 p2 p3 p4 rs cs a0_0 a0_1 a0_2 A0_3 c0_3 l0_3 a1 w hr0_3 hc0_3 hv t1 t2 hT hrs hcs hok
  · rw [if_neg hok] at h
    cases h

/-! ### spec_inRange: function 36 -/
def spec_inRange.f (a0 : Int) (a1 : Int) (a2 : Int) : Option (Bool) := if a1 ≤ a0 then (some (decide (a0 ≤ a2))) else (some false)
set_option maxHeartbeats 8000000 in
set_option maxRecDepth 100000 in
theorem spec_inRange.calls (a0 : Int) (a1 : Int) (a2 : Int) (r : Bool) (w : World) (h : spec_inRange.f a0 a1 a2 = some r) :
    Calls Try.prog 36 #[.int .i64 a0, .int .i64 a1, .int .i64 a2] w fun e w' => e = .returned (.bool r) ∧ Drawn0 w w' := by
  have H : (if a1 ≤ a0 then (some (decide (a0 ≤ a2))) else (some false)) = some r := h
  clear h
  by_cases c4 : a1 ≤ a0
  · rw [if_pos c4] at H
    have c4b0 : decide (a1 ≤ a0) = true := decide_eq_true c4
    clear c4
    obtain rfl := Option.some.inj H
    simp only [Option.some.injEq, Prod.mk.injEq] at H
    obtain ⟨rfl⟩ := H
    go_enter Try.func36, Try.ntmps36
    go_wp2
    go_ret
    exact ⟨by first | rfl | (simp; done) | (simp [*]; done), by repeat (first | exact Drawn0.refl _ | apply Drawn0.step)⟩
  rw [if_neg c4] at H
  have c4b0 : decide (a1 ≤ a0) = false := decide_eq_false c4
  clear c4
  obtain rfl := Option.some.inj H
  simp only [Option.some.injEq, Prod.mk.injEq] at H
  obtain ⟨rfl⟩ := H
  go_enter Try.func36, Try.ntmps36
  go_wp2
  go_ret
  exact ⟨by first | rfl | (simp; done) | (simp [*]; done), by repeat (first | exact Drawn0.refl _ | apply Drawn0.step)⟩

/-! ### spec_validShape: function 35 -/
def spec_validShape.f (a0 : Int) (a1 : Int) (a2 : Int) : Option (Bool) := (spec_inRange.f a0 1 16).bind fun t122 => (if t122 = true then ((spec_inRange.f a1 1 16).bind fun t123 => (if t123 = true then ((spec_inRange.f a2 1 4).bind fun t124 => (some t124)) else (some false))) else (some false))
set_option maxHeartbeats 8000000 in
set_option maxRecDepth 100000 in
theorem spec_validShape.calls (a0 : Int) (a1 : Int) (a2 : Int) (r : Bool) (w : World) (h : spec_validShape.f a0 a1 a2 = some r) :
    Calls Try.prog 35 #[.int .i64 a0, .int .i64 a1, .int .i64 a2] w fun e w' => e = .returned (.bool r) ∧ Drawn0 w w' := by
  have H : ((spec_inRange.f a0 1 16).bind fun t122 => (if t122 = true then ((spec_inRange.f a1 1 16).bind fun t123 => (if t123 = true then ((spec_inRange.f a2 1 4).bind fun t124 => (some t124)) else (some false))) else (some false))) = some r := h
  clear h
  replace H := Option.bind_eq_some_iff.mp H
  obtain ⟨t122, A40, H⟩ := H
  replace H : (if t122 = true then ((spec_inRange.f a1 1 16).bind fun t123 => (if t123 = true then ((spec_inRange.f a2 1 4).bind fun t124 => (some t124)) else (some false))) else (some false)) = some r := H
  have A4 := Aside0.mk A40
  clear A40
  by_cases c5 : t122 = true
  · subst c5
    have H1 : ((spec_inRange.f a1 1 16).bind fun t123 => (if t123 = true then ((spec_inRange.f a2 1 4).bind fun t124 => (some t124)) else (some false))) = some r := by rw [if_pos rfl] at H; exact H
    clear H
    have H := H1
    clear H1
    replace H := Option.bind_eq_some_iff.mp H
    obtain ⟨t123, A60, H⟩ := H
    replace H : (if t123 = true then ((spec_inRange.f a2 1 4).bind fun t124 => (some t124)) else (some false)) = some r := H
    have A6 := Aside0.mk A60
    clear A60
    by_cases c7 : t123 = true
    · subst c7
      have H1 : ((spec_inRange.f a2 1 4).bind fun t124 => (some t124)) = some r := by rw [if_pos rfl] at H; exact H
      clear H
      have H := H1
      clear H1
      replace H := Option.bind_eq_some_iff.mp H
      obtain ⟨t124, A80, H⟩ := H
      replace H : (some t124) = some r := H
      have A8 := Aside0.mk A80
      clear A80
      obtain rfl := Option.some.inj H
      simp only [Option.some.injEq, Prod.mk.injEq] at H
      obtain ⟨rfl⟩ := H
      go_enter Try.func35, Try.ntmps35
      go_wp2_with (first | ((with_reducible refine gate_callee (f := 36) rfl ?_); refine goesL_ (some 8) rfl rfl Try.func36 (by kernel_rfl) rfl #[.int .i64 a0, .int .i64 1, .int .i64 16] rfl B.am ?_; (with_reducible refine (spec_inRange.calls a0 1 16 true _ A4.out).mono ?_); rintro e w' ⟨rfl, ⟨nd, rfl⟩⟩; refine ⟨_, rfl, ?_⟩) | (go_at_call 36; (with_reducible refine (spec_inRange.calls a1 1 16 true _ A6.out).mono ?_); rintro e w' ⟨rfl, ⟨nd, rfl⟩⟩) | (go_at_call 36; (with_reducible refine (spec_inRange.calls a2 1 4 t124 _ A8.out).mono ?_); rintro e w' ⟨rfl, ⟨nd, rfl⟩⟩))
      go_ret
      exact ⟨by first | rfl | (simp; done) | (simp [*]; done), by repeat (first | exact Drawn0.refl _ | apply Drawn0.step)⟩
    replace c7 := Bool.eq_false_iff.mpr c7
    subst c7
    have H1 : (some false) = some r := by rw [if_neg (show ¬ (false = true) by decide)] at H; exact H
    clear H
    have H := H1
    clear H1
    obtain rfl := Option.some.inj H
    simp only [Option.some.injEq, Prod.mk.injEq] at H
    obtain ⟨rfl⟩ := H
    go_enter Try.func35, Try.ntmps35
    go_wp2_with (first | ((with_reducible refine gate_callee (f := 36) rfl ?_); refine goesL_ (some 8) rfl rfl Try.func36 (by kernel_rfl) rfl #[.int .i64 a0, .int .i64 1, .int .i64 16] rfl B.am ?_; (with_reducible refine (spec_inRange.calls a0 1 16 true _ A4.out).mono ?_); rintro e w' ⟨rfl, ⟨nd, rfl⟩⟩; refine ⟨_, rfl, ?_⟩) | (go_at_call 36; (with_reducible refine (spec_inRange.calls a1 1 16 false _ A6.out).mono ?_); rintro e w' ⟨rfl, ⟨nd, rfl⟩⟩))
    go_ret
    exact ⟨by first | rfl | (simp; done) | (simp [*]; done), by repeat (first | exact Drawn0.refl _ | apply Drawn0.step)⟩
  replace c5 := Bool.eq_false_iff.mpr c5
  subst c5
  have H1 : (some false) = some r := by rw [if_neg (show ¬ (false = true) by decide)] at H; exact H
  clear H
  have H := H1
  clear H1
  obtain rfl := Option.some.inj H
  simp only [Option.some.injEq, Prod.mk.injEq] at H
  obtain ⟨rfl⟩ := H
  go_enter Try.func35, Try.ntmps35
  go_wp2_with (first | ((with_reducible refine gate_callee (f := 36) rfl ?_); refine goesL_ (some 8) rfl rfl Try.func36 (by kernel_rfl) rfl #[.int .i64 a0, .int .i64 1, .int .i64 16] rfl B.am ?_; (with_reducible refine (spec_inRange.calls a0 1 16 false _ A4.out).mono ?_); rintro e w' ⟨rfl, ⟨nd, rfl⟩⟩; refine ⟨_, rfl, ?_⟩))
  go_ret
  exact ⟨by first | rfl | (simp; done) | (simp [*]; done), by repeat (first | exact Drawn0.refl _ | apply Drawn0.step)⟩

/-! ### spec_allIn: function 49 -/
def spec_allIn.l0 : Nat → List Int → Int → Int → Int → Option (Bool)
  | 0, _, _, _, _ => none
  | k + 1, x0, x1, x2, x7 => if x7 < (x0.length : Int) then (if 0 ≤ x7 then ((spec_inRange.f (rd x0 x7) x1 x2).bind fun t126 => (if t126 = true then (spec_allIn.l0 k x0 x1 x2 (wrap64 (x7 + 1))) else (some false))) else (none)) else (some true)
def spec_allIn.f (k : Nat) (l0 : List Int) (a1 : Int) (a2 : Int) : Option (Bool) := spec_allIn.l0 k l0 a1 a2 0
theorem spec_allIn.mono_l : ∀ k, (∀ y0 y1 y2 y3, LeO (spec_allIn.l0 k y0 y1 y2 y3) (spec_allIn.l0 (k + 1) y0 y1 y2 y3))
  | 0 => fun _ _ _ _ r h => by simp [spec_allIn.l0] at h
  | k + 1 => by
    have ih0 := spec_allIn.mono_l k
    · intro y0 y1 y2 y3
      unfold spec_allIn.l0
      repeat' first
      | (with_reducible exact ih0 _ _ _ _)
      | (with_reducible exact LeO.refl _)
      | (with_reducible exact LeO.none _)
      | (with_reducible refine LeO.ite ?_ ?_)
      | (with_reducible refine LeO.bind ?_ (fun _ => ?_))
      | exact ih0 _ _ _ _
      | exact LeO.none _
      | refine LeO.ite ?_ ?_
      | refine LeO.bind ?_ (fun _ => ?_)
theorem spec_allIn.mono : ∀ a0 a1 a2 k, LeO (spec_allIn.f k a0 a1 a2) (spec_allIn.f (k + 1) a0 a1 a2) := by
  intro a0 a1 a2 k
  have ih0 := spec_allIn.mono_l k
  unfold spec_allIn.f
  repeat' first
      | (with_reducible exact ih0 _ _ _ _)
      | (with_reducible exact LeO.refl _)
      | (with_reducible exact LeO.none _)
      | (with_reducible refine LeO.ite ?_ ?_)
      | (with_reducible refine LeO.bind ?_ (fun _ => ?_))
      | exact ih0 _ _ _ _
      | exact LeO.none _
      | refine LeO.ite ?_ ?_
      | refine LeO.bind ?_ (fun _ => ?_)
set_option maxHeartbeats 8000000 in
set_option maxRecDepth 100000 in
theorem spec_allIn.calls (k : Nat) (A0 : Option Addr) (c0 : Nat) (l0 : List Int) (a1 : Int) (a2 : Int) (r : Bool) (w : World) (hr0 : Kd.C (Kd.int .i64) w A0 l0.length l0) (hc0 : l0.length ≤ c0) (h : spec_allIn.f k l0 a1 a2 = some r) :
    Calls Try.prog 49 #[.slice A0 l0.length c0, .int .i64 a1, .int .i64 a2] w fun e w' => e = .returned (.bool r) ∧ Drawn0 w w' := by
  have HR0 := Aside0.mk hr0
  have HC0 := Aside0.mk hc0
  clear hr0 hc0
  have H : (spec_allIn.l0 k l0 a1 a2 0) = some r := h
  clear h
  have H' := Aside0.mk H
  clear H
  go_enter Try.func49, Try.ntmps49
  go_wp2
  go_loopg [7] k (fun kq v7 w' => ∃ (x7_1 : Int), v7 = .int .i64 x7_1 ∧ Aside0 (spec_allIn.l0 kq l0 a1 a2 x7_1 = some r) ∧ Aside0 (kq ≤ k) ∧ Drawn0 w w')
  case atStart => exact ⟨(0), (by first | rfl | (simp; done) | (simp [*]; done)), H', ⟨Nat.le_refl _⟩, by repeat (first | exact Drawn0.refl _ | apply Drawn0.step)⟩
  case round =>
    clear H'
    try clear p2
    obtain ⟨x7_1, rfl, HA, HK1, ⟨m1, rfl⟩⟩ := hrel
    cases gk with
    | zero => exact absurd HA.out (by simp [spec_allIn.l0])
    | succ k1 =>
      have H := HA.out
      clear HA
      simp only [spec_allIn.l0] at H
      by_cases c4 : x7_1 < (l0.length : Int)
      · rw [if_pos c4] at H
        have c4b0 : decide (x7_1 < (l0.length : Int)) = true := decide_eq_true c4
        clear c4
        by_cases c5 : 0 ≤ x7_1
        · rw [if_pos c5] at H
          have c5b0 : decide (0 ≤ x7_1) = true := decide_eq_true c5
          clear c5
          replace H := Option.bind_eq_some_iff.mp H
          obtain ⟨t126, A60, H⟩ := H
          replace H : (if t126 = true then (spec_allIn.l0 k1 l0 a1 a2 (wrap64 (x7_1 + 1))) else (some false)) = some r := H
          have A6 := Aside0.mk A60
          clear A60
          by_cases c7 : t126 = true
          · subst c7
            have H1 : (spec_allIn.l0 k1 l0 a1 a2 (wrap64 (x7_1 + 1))) = some r := by rw [if_pos rfl] at H; exact H
            clear H
            have H := H1
            clear H1
            have H' := Aside0.mk H
            clear H
            have p125 : 0 ≤ (x7_1 : Int) := of_decide_eq_true (by first | (with_reducible assumption) | assumption)
            have q125 : x7_1 < (l0.length : Int) := of_decide_eq_true (by first | (with_reducible assumption) | assumption)
            obtain ⟨ad125, e125, hx125_0⟩ := Kd.at_int HR0.out x7_1 p125 q125
            cases e125
            replace p125 := eq_true p125
            replace q125 := eq_true q125
            go_wp2_with (first | ((with_reducible refine gate_callee (f := 36) rfl ?_); refine goesL_ (some 20) rfl rfl Try.func36 (by kernel_rfl) rfl #[.int .i64 (rd l0 x7_1), .int .i64 a1, .int .i64 a2] rfl B.am ?_; (with_reducible refine (spec_inRange.calls (rd l0 x7_1) a1 a2 true _ A6.out).mono ?_); rintro e w' ⟨rfl, ⟨nd, rfl⟩⟩; refine ⟨_, rfl, ?_⟩))
            go_roundg k1
            case measure => have := HK1.out; omega
            case rel => exact ⟨(wrap64 (x7_1 + 1)), (by first | rfl | (simp; done) | (simp [*]; done)), H', ⟨by have := HK1.out; omega⟩, by repeat (first | exact Drawn0.refl _ | apply Drawn0.step)⟩
          replace c7 := Bool.eq_false_iff.mpr c7
          subst c7
          have H1 : (some false) = some r := by rw [if_neg (show ¬ (false = true) by decide)] at H; exact H
          clear H
          have H := H1
          clear H1
          obtain rfl := Option.some.inj H
          simp only [Option.some.injEq, Prod.mk.injEq] at H
          obtain ⟨rfl⟩ := H
          have p125 : 0 ≤ (x7_1 : Int) := of_decide_eq_true (by first | (with_reducible assumption) | assumption)
          have q125 : x7_1 < (l0.length : Int) := of_decide_eq_true (by first | (with_reducible assumption) | assumption)
          obtain ⟨ad125, e125, hx125_0⟩ := Kd.at_int HR0.out x7_1 p125 q125
          cases e125
          replace p125 := eq_true p125
          replace q125 := eq_true q125
          go_wp2_with (first | ((with_reducible refine gate_callee (f := 36) rfl ?_); refine goesL_ (some 20) rfl rfl Try.func36 (by kernel_rfl) rfl #[.int .i64 (rd l0 x7_1), .int .i64 a1, .int .i64 a2] rfl B.am ?_; (with_reducible refine (spec_inRange.calls (rd l0 x7_1) a1 a2 false _ A6.out).mono ?_); rintro e w' ⟨rfl, ⟨nd, rfl⟩⟩; refine ⟨_, rfl, ?_⟩))
          go_ret
          exact ⟨by first | rfl | (simp; done) | (simp [*]; done), by repeat (first | exact Drawn0.refl _ | apply Drawn0.step)⟩
        rw [if_neg c5] at H
        exact absurd H (by simp)
      rw [if_neg c4] at H
      have c4b0 : decide (x7_1 < (l0.length : Int)) = false := decide_eq_false c4
      clear c4
      obtain rfl := Option.some.inj H
      simp only [Option.some.injEq, Prod.mk.injEq] at H
      obtain ⟨rfl⟩ := H
      go_wp2
      go_ret
      exact ⟨by first | rfl | (simp; done) | (simp [*]; done), by repeat (first | exact Drawn0.refl _ | apply Drawn0.step)⟩

/-! ### spec_validImage: function 53 -/
def spec_validImage.f (k : Nat) (a0_0 : Int) (a0_1 : Int) (a0_2 : Int) (l0_3 : List Int) : Option (Bool) := (spec_validShape.f a0_0 a0_1 a0_2).bind fun t128 => (if t128 = true then (if (l0_3.length : Int) = (wrap64 ((wrap64 (a0_0 * a0_1)) * a0_2)) then ((spec_allIn.f k l0_3 0 255).bind fun t129 => (some t129)) else (some false)) else (some false))
theorem spec_validImage.mono : ∀ a0 a1 a2 a3 k, LeO (spec_validImage.f k a0 a1 a2 a3) (spec_validImage.f (k + 1) a0 a1 a2 a3) := by
  intro a0 a1 a2 a3 k
  unfold spec_validImage.f
  repeat' first
      | (with_reducible exact spec_allIn.mono _ _ _ _)
      | (with_reducible exact LeO.refl _)
      | (with_reducible exact LeO.none _)
      | (with_reducible refine LeO.ite ?_ ?_)
      | (with_reducible refine LeO.bind ?_ (fun _ => ?_))
      | exact spec_allIn.mono _ _ _ _
      | exact LeO.none _
      | refine LeO.ite ?_ ?_
      | refine LeO.bind ?_ (fun _ => ?_)
set_option maxHeartbeats 8000000 in
set_option maxRecDepth 100000 in
theorem spec_validImage.calls (k : Nat) (a0_0 : Int) (a0_1 : Int) (a0_2 : Int) (A0_3 : Option Addr) (c0_3 : Nat) (l0_3 : List Int) (r : Bool) (w : World) (hr0_3 : Kd.C (Kd.int .i64) w A0_3 l0_3.length l0_3) (hc0_3 : l0_3.length ≤ c0_3) (h : spec_validImage.f k a0_0 a0_1 a0_2 l0_3 = some r) :
    Calls Try.prog 53 #[.agg #[.int .i64 a0_0, .int .i64 a0_1, .int .i64 a0_2, .slice A0_3 l0_3.length c0_3]] w fun e w' => e = .returned (.bool r) ∧ Below w.heap.size w w' := by
  have hu34 := Try.underlying34
  have HR0_3 := Aside0.mk hr0_3
  have HC0_3 := Aside0.mk hc0_3
  clear hr0_3 hc0_3
  have HB := Aside0.mk (Below.refl w.heap.size w)
  have H : ((spec_validShape.f a0_0 a0_1 a0_2).bind fun t128 => (if t128 = true then (if (l0_3.length : Int) = (wrap64 ((wrap64 (a0_0 * a0_1)) * a0_2)) then ((spec_allIn.f k l0_3 0 255).bind fun t129 => (some t129)) else (some false)) else (some false))) = some r := h
  clear h
  replace H := Option.bind_eq_some_iff.mp H
  obtain ⟨t128, A20, H⟩ := H
  replace H : (if t128 = true then (if (l0_3.length : Int) = (wrap64 ((wrap64 (a0_0 * a0_1)) * a0_2)) then ((spec_allIn.f k l0_3 0 255).bind fun t129 => (some t129)) else (some false)) else (some false)) = some r := H
  have A2 := Aside0.mk A20
  clear A20
  by_cases c3 : t128 = true
  · subst c3
    have H1 : (if (l0_3.length : Int) = (wrap64 ((wrap64 (a0_0 * a0_1)) * a0_2)) then ((spec_allIn.f k l0_3 0 255).bind fun t129 => (some t129)) else (some false)) = some r := by rw [if_pos rfl] at H; exact H
    clear H
    have H := H1
    clear H1
    by_cases c4 : (l0_3.length : Int) = (wrap64 ((wrap64 (a0_0 * a0_1)) * a0_2))
    · rw [if_pos c4] at H
      have c4b0 : ((l0_3.length : Int) == (wrap64 ((wrap64 (a0_0 * a0_1)) * a0_2))) = true := beq_iff_eq.mpr c4
      have c4b1 : ((l0_3.length : Int) != (wrap64 ((wrap64 (a0_0 * a0_1)) * a0_2))) = false := bne_eq_false_iff_eq.mpr c4
      clear c4
      replace H := Option.bind_eq_some_iff.mp H
      obtain ⟨t129, A50, H⟩ := H
      replace H : (some t129) = some r := H
      have A5 := Aside0.mk A50
      clear A50
      obtain rfl := Option.some.inj H
      simp only [Option.some.injEq, Prod.mk.injEq] at H
      obtain ⟨rfl⟩ := H
      go_enter Try.func53, Try.ntmps53
      go_wp2_with (first | ((with_reducible refine gate_dst (N := 1) rfl ?_); (try (refine gate_guard (by rfl) ?_; dsimp only)); refine box_event ?hg (N := 1) ?hd (cs := #[.int .i64 a0_0, .int .i64 a0_1, .int .i64 a0_2, .slice A0_3 l0_3.length c0_3]) (t := 34) ?hr ?_; (case hd => rfl); (case hg => rfl); (case hr => first | (go_simp; done) | (go_simp; rfl)); intro gb127 hg w6 hbox hb; have n0_ := Aside0.mk (below_step (B.bl HB) hb); have n1_ := Aside0.mk (hbox); have n2_ := Aside0.mk (B.nle hg (below_size (B.bl HB))); have n3_ := Aside0.mk (B.nle hg (below_size (B.bl HB))); clear HB; have HB := n0_; have BK127 := n1_; have GW127 := n2_; have GE127 := n3_; clear n0_ n1_ n2_ n3_; clear hb hbox hg; have hcz7_0 : w6.cell? ⟨gb127, 0, none⟩ = some (.int .i64 a0_0) := B.bc BK127 0; have hcz7_1 : w6.cell? ⟨gb127, 1, none⟩ = some (.int .i64 a0_1) := B.bc BK127 1; have hcz7_2 : w6.cell? ⟨gb127, 2, none⟩ = some (.int .i64 a0_2) := B.bc BK127 2; have hcz7_3 : w6.cell? ⟨gb127, 3, none⟩ = some (.slice A0_3 l0_3.length c0_3) := B.bc BK127 3; have hfz7_0 := blk_frozen BK127.out 0; have hfz7_1 := blk_frozen BK127.out 1; have hfz7_2 := blk_frozen BK127.out 2; have hfz7_3 := blk_frozen BK127.out 3) | ((with_reducible refine gate_callee (f := 35) rfl ?_); refine goesL_ (some 9) rfl rfl Try.func35 (by kernel_rfl) rfl #[.int .i64 a0_0, .int .i64 a0_1, .int .i64 a0_2] rfl B.am ?_; (with_reducible refine (spec_validShape.calls a0_0 a0_1 a0_2 true _ A2.out).mono ?_); rintro e w' ⟨rfl, ⟨nd, rfl⟩⟩; refine ⟨_, rfl, ?_⟩) | (go_at_call 49; (with_reducible refine (spec_allIn.calls k _ _ l0_3 0 255 t129 _ ?side1 ?side2 A5.out).mono ?_); (case side1 => exact B.kc (Kd.C_below HR0_3.out (B.bl HB))); (case side2 => exact HC0_3.out); rintro e w' ⟨rfl, ⟨nd, rfl⟩⟩))
      go_ret
      exact ⟨by first | rfl | (simp [errW_none, errW_some] <;> rfl) | (simp [*, errW_none, errW_some] <;> rfl), B.bl HB⟩
    rw [if_neg c4] at H
    have c4b0 : ((l0_3.length : Int) == (wrap64 ((wrap64 (a0_0 * a0_1)) * a0_2))) = false := beq_eq_false_iff_ne.mpr c4
    have c4b1 : ((l0_3.length : Int) != (wrap64 ((wrap64 (a0_0 * a0_1)) * a0_2))) = true := bne_iff_ne.mpr c4
    obtain rfl := Option.some.inj H
    simp only [Option.some.injEq, Prod.mk.injEq] at H
    obtain ⟨rfl⟩ := H
    go_enter Try.func53, Try.ntmps53
    go_wp2_with (first | ((with_reducible refine gate_dst (N := 1) rfl ?_); (try (refine gate_guard (by rfl) ?_; dsimp only)); refine box_event ?hg (N := 1) ?hd (cs := #[.int .i64 a0_0, .int .i64 a0_1, .int .i64 a0_2, .slice A0_3 l0_3.length c0_3]) (t := 34) ?hr ?_; (case hd => rfl); (case hg => rfl); (case hr => first | (go_simp; done) | (go_simp; rfl)); intro gb127 hg w8 hbox hb; have n0_ := Aside0.mk (below_step (B.bl HB) hb); have n1_ := Aside0.mk (hbox); have n2_ := Aside0.mk (B.nle hg (below_size (B.bl HB))); have n3_ := Aside0.mk (B.nle hg (below_size (B.bl HB))); clear HB; have HB := n0_; have BK127 := n1_; have GW127 := n2_; have GE127 := n3_; clear n0_ n1_ n2_ n3_; clear hb hbox hg; have hcz9_0 : w8.cell? ⟨gb127, 0, none⟩ = some (.int .i64 a0_0) := B.bc BK127 0; have hcz9_1 : w8.cell? ⟨gb127, 1, none⟩ = some (.int .i64 a0_1) := B.bc BK127 1; have hcz9_2 : w8.cell? ⟨gb127, 2, none⟩ = some (.int .i64 a0_2) := B.bc BK127 2; have hcz9_3 : w8.cell? ⟨gb127, 3, none⟩ = some (.slice A0_3 l0_3.length c0_3) := B.bc BK127 3; have hfz9_0 := blk_frozen BK127.out 0; have hfz9_1 := blk_frozen BK127.out 1; have hfz9_2 := blk_frozen BK127.out 2; have hfz9_3 := blk_frozen BK127.out 3) | ((with_reducible refine gate_callee (f := 35) rfl ?_); refine goesL_ (some 9) rfl rfl Try.func35 (by kernel_rfl) rfl #[.int .i64 a0_0, .int .i64 a0_1, .int .i64 a0_2] rfl B.am ?_; (with_reducible refine (spec_validShape.calls a0_0 a0_1 a0_2 true _ A2.out).mono ?_); rintro e w' ⟨rfl, ⟨nd, rfl⟩⟩; refine ⟨_, rfl, ?_⟩))
    go_ret
    exact ⟨by first | rfl | (simp [errW_none, errW_some] <;> rfl) | (simp [*, errW_none, errW_some] <;> rfl), B.bl HB⟩
  replace c3 := Bool.eq_false_iff.mpr c3
  subst c3
  have H1 : (some false) = some r := by rw [if_neg (show ¬ (false = true) by decide)] at H; exact H
  clear H
  have H := H1
  clear H1
  obtain rfl := Option.some.inj H
  simp only [Option.some.injEq, Prod.mk.injEq] at H
  obtain ⟨rfl⟩ := H
  go_enter Try.func53, Try.ntmps53
  go_wp2_with (first | ((with_reducible refine gate_dst (N := 1) rfl ?_); (try (refine gate_guard (by rfl) ?_; dsimp only)); refine box_event ?hg (N := 1) ?hd (cs := #[.int .i64 a0_0, .int .i64 a0_1, .int .i64 a0_2, .slice A0_3 l0_3.length c0_3]) (t := 34) ?hr ?_; (case hd => rfl); (case hg => rfl); (case hr => first | (go_simp; done) | (go_simp; rfl)); intro gb127 hg w10 hbox hb; have n0_ := Aside0.mk (below_step (B.bl HB) hb); have n1_ := Aside0.mk (hbox); have n2_ := Aside0.mk (B.nle hg (below_size (B.bl HB))); have n3_ := Aside0.mk (B.nle hg (below_size (B.bl HB))); clear HB; have HB := n0_; have BK127 := n1_; have GW127 := n2_; have GE127 := n3_; clear n0_ n1_ n2_ n3_; clear hb hbox hg; have hcz11_0 : w10.cell? ⟨gb127, 0, none⟩ = some (.int .i64 a0_0) := B.bc BK127 0; have hcz11_1 : w10.cell? ⟨gb127, 1, none⟩ = some (.int .i64 a0_1) := B.bc BK127 1; have hcz11_2 : w10.cell? ⟨gb127, 2, none⟩ = some (.int .i64 a0_2) := B.bc BK127 2; have hcz11_3 : w10.cell? ⟨gb127, 3, none⟩ = some (.slice A0_3 l0_3.length c0_3) := B.bc BK127 3; have hfz11_0 := blk_frozen BK127.out 0; have hfz11_1 := blk_frozen BK127.out 1; have hfz11_2 := blk_frozen BK127.out 2; have hfz11_3 := blk_frozen BK127.out 3) | ((with_reducible refine gate_callee (f := 35) rfl ?_); refine goesL_ (some 9) rfl rfl Try.func35 (by kernel_rfl) rfl #[.int .i64 a0_0, .int .i64 a0_1, .int .i64 a0_2] rfl B.am ?_; (with_reducible refine (spec_validShape.calls a0_0 a0_1 a0_2 false _ A2.out).mono ?_); rintro e w' ⟨rfl, ⟨nd, rfl⟩⟩; refine ⟨_, rfl, ?_⟩))
  go_ret
  exact ⟨by first | rfl | (simp [errW_none, errW_some] <;> rfl) | (simp [*, errW_none, errW_some] <;> rfl), B.bl HB⟩

end Go.Proofs.Ytpadegboplcapaa.Q
