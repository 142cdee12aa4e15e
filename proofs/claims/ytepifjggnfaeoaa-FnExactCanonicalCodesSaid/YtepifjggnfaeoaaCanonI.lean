/- The codes of lengths, in the program. No conditions. -/
import Derived.Test.YtepifjggnfaeoaaCanon
import Derived.Test.YtepifjggnfaeoaaQ1
namespace Go.Proofs.Ytepifjggnfaeoaa.B
open Go.RowKit Go.Proofs.Ytepifjggnfaeoaa.Q Go.Proofs.YtepifjggnfaeoaaW.PrintWords Go.Proofs.YtepifjggnfaeoaaW.PrintLast Go.Proofs.YtepifjggnfaeoaaW.PrintMore
set_option linter.unusedVariables false

theorem fold_mn (b : Int) : ∀ (l : List Int) (a : Int), l.foldl mn a < b ↔ a < b ∨ ∃ x ∈ l, x < b
  | [], a => by simp
  | y :: l, a => by
    rw [List.foldl_cons, fold_mn b l]
    constructor
    · rintro (h | ⟨x, hx, h⟩)
      · unfold mn at h
        split at h
        · first | exact .inr ⟨y, by simp, h⟩ | exact .inl h
        · first | exact .inl h | exact .inr ⟨y, by simp, h⟩
      · exact .inr ⟨x, by simp [hx], h⟩
    · rintro (h | ⟨x, hx, h⟩)
      · left
        unfold mn
        split <;> omega
      · rcases List.mem_cons.1 hx with rfl | hx
        · left
          unfold mn
          split <;> omega
        · exact .inr ⟨x, hx, h⟩
theorem fold_mx (b : Int) : ∀ (l : List Int) (a : Int), b < l.foldl mx a ↔ b < a ∨ ∃ x ∈ l, b < x
  | [], a => by simp
  | y :: l, a => by
    rw [List.foldl_cons, fold_mx b l]
    constructor
    · rintro (h | ⟨x, hx, h⟩)
      · unfold mx at h
        split at h
        · first | exact .inr ⟨y, by simp, h⟩ | exact .inl h
        · first | exact .inl h | exact .inr ⟨y, by simp, h⟩
      · exact .inr ⟨x, by simp [hx], h⟩
    · rintro (h | ⟨x, hx, h⟩)
      · left
        unfold mx
        split <;> omega
      · rcases List.mem_cons.1 hx with rfl | hx
        · left
          unfold mx
          split <;> omega
        · exact .inr ⟨x, hx, h⟩
theorem rd_zero_mem {l : List Int} (h : 0 < l.length) : rd l 0 ∈ l := by
  cases l with
  | nil => simp at h
  | cons a l => simp [rd]
theorem minL_lt {l : List Int} (h : 0 < l.length) : minL l < 0 ↔ ∃ x ∈ l, x < 0 := by
  unfold minL
  rw [fold_mn]
  exact ⟨fun g => g.elim (fun g => ⟨_, rd_zero_mem h, g⟩) id, .inr⟩
theorem maxL_gt {l : List Int} (h : 0 < l.length) : 16 < maxL l ↔ ∃ x ∈ l, 16 < x := by
  unfold maxL
  rw [fold_mx]
  exact ⟨fun g => g.elim (fun g => ⟨_, rd_zero_mem h, g⟩) id, .inr⟩
theorem impl_in (l : List Int) (hn : l.length ≤ 2000000) (n : Nat) (h16 : n ≤ 16) (r : List Int × Bool) : ∀ (d i : Nat) (S : List Int) (c : Int), i + d = l.length → S.length = l.length → Ev (fun k => impl_canonical.l1 k l (cIn l (n : Int) d i S c).1 (cIn l (n : Int) d i S c).2 ((n + 1 : Nat) : Int)) r → Ev (fun k => impl_canonical.l2 k l S c (n : Int) l (l.length : Int) (i : Int)) r := by
  intro d
  induction d with
  | zero =>
    intro i S c hi hS g
    refine Ev.step (fun k => ?_) g
    simp only [impl_canonical.l2, cup1 n (by omega)]
    rw [if_neg (by omega)]
    rfl
  | succ d ih =>
    intro i S c hi hS g
    have p1 : (i : Int) < (l.length : Int) := by omega
    have p2 : (i : Int) < (S.length : Int) := by omega
    have hi' : i < 1000000000 := by omega
    by_cases e : rd l (i : Int) = (n : Int)
    · have g2 := ih (i + 1) (S.set i c) (wrap64 (c + 1)) (by omega) (by simp [hS]) (by unfold cIn at g; rw [if_pos e] at g; exact g)
      refine Ev.step (fun k => ?_) g2
      simp only [impl_canonical.l2, cup1 i hi', Int.toNat_natCast]
      rw [if_pos p1, if_pos (Int.natCast_nonneg i), if_pos e, if_pos p2]
      first | rfl | (rw [if_pos p1])
    · have g2 := ih (i + 1) S c (by omega) hS (by unfold cIn at g; rw [if_neg e] at g; exact g)
      refine Ev.step (fun k => ?_) g2
      simp only [impl_canonical.l2, cup1 i hi']
      rw [if_pos p1, if_pos (Int.natCast_nonneg i), if_neg e]
      first | rfl | (rw [if_pos p1])
theorem impl_out (l : List Int) (hn : l.length ≤ 2000000) : ∀ (d n : Nat) (S : List Int) (c : Int), n + d = 17 → S.length = l.length → Ev (fun k => impl_canonical.l1 k l S c (n : Int)) (cOut l d n S c, true) := by
  intro d
  induction d with
  | zero =>
    intro n S c h hS
    refine Ev.step (f := fun _ => some (S, true)) (fun k => ?_) (Ev.now _)
    simp only [impl_canonical.l1]
    rw [if_neg (by omega)]
  | succ d ih =>
    intro n S c h hS
    have p : (n : Int) ≤ 16 := by omega
    refine Ev.step (f := fun k => impl_canonical.l2 k l S (wrap64 (2 * c)) (n : Int) l (l.length : Int) ((0 : Nat) : Int)) (fun k => ?_) ?_
    · simp only [impl_canonical.l1]
      rw [if_pos p, Int.mul_comm c 2]
      rfl
    · exact impl_in l hn n (by omega) _ l.length 0 S (wrap64 (2 * c)) (by omega) hS (ih (n + 1) _ _ (by omega) (by rw [cIn_len]; exact hS))
theorem impl_kr (l : List Int) (hn : l.length ≤ 2000000) (hb : ∀ x ∈ l, 0 ≤ x ∧ x ≤ 16) : ∀ (d i : Nat) (s : Int), i + d = l.length → Ev (fun k => impl_canonical.l0 k l s l (l.length : Int) (i : Int)) (if krS l d i s ≤ 65536 then (codesN l, true) else ([], false)) := by
  intro d
  induction d with
  | zero =>
    intro i s hi
    show Ev _ (if s ≤ 65536 then (codesN l, true) else ([], false))
    by_cases c : s > 65536
    · rw [if_neg (by omega)]
      refine Ev.step (f := fun _ => some ([], false)) (fun k => ?_) (Ev.now _)
      simp only [impl_canonical.l0]
      rw [if_neg (by omega), if_pos c]
    · rw [if_pos (by omega)]
      refine Ev.step (f := fun k => impl_canonical.l1 k l (List.replicate l.length 0) 0 ((1 : Nat) : Int)) (fun k => ?_) (impl_out l hn 16 1 _ 0 rfl (by simp))
      simp only [impl_canonical.l0, Int.toNat_natCast]
      rw [if_neg (by omega), if_neg c, if_pos (by omega), if_pos (by omega)]
      rfl
  | succ d ih =>
    intro i s hi
    have hi' : i < 1000000000 := by omega
    have p1 : (i : Int) < (l.length : Int) := by omega
    have h := rd_all hb (i := i) (by omega)
    have hw : wrap64 (16 - rd l (i : Int)) = 16 - rd l (i : Int) := w64 (by omega) (by omega)
    have g := ih (i + 1) (if rd l (i : Int) > 0 then wrap64 (s + shl .i64 1 (wrap64 (16 - rd l (i : Int)))) else s) (by omega)
    refine Ev.step (fun k => ?_) g
    simp only [impl_canonical.l0, cup1 i hi']
    rw [if_pos p1, if_pos (Int.natCast_nonneg i), if_pos p1]
    by_cases c : rd l (i : Int) > 0
    · rw [if_pos c, if_pos c, if_pos (by rw [hw]; omega)]
    · rw [if_neg c, if_neg c]
theorem implCanon_ev (l : List Int) : Ev (fun k => impl_CanonicalCodes.f k l) (canonP l) := by
  have hj : Ev (fun k => impl_canonical.j0 k l true) ([], false) := Ev.step (f := fun _ => some ([], false)) (fun k => by simp only [impl_canonical.j0, if_true]) (Ev.now _)
  have key : Ev (fun k => impl_canonical.f k l) (canonP l, okLens l) := by
    unfold impl_canonical.f
    by_cases c1 : (l.length : Int) < 1
    · have e : okLens l = false := by unfold okLens; rw [decide_eq_false (by omega)]; rfl
      unfold canonP
      rw [e]
      exact ev_pos c1 hj
    · refine ev_neg c1 ?_
      by_cases c2 : (l.length : Int) > 16
      · have e : okLens l = false := by unfold okLens; rw [decide_eq_false (p := (l.length : Int) ≤ 16) (by omega)]; simp
        unfold canonP
        rw [e]
        exact ev_pos c2 hj
      · refine ev_neg c2 ?_
        have hp : 0 < l.length := by omega
        unfold slices_Min_int_int.f slices_Max_int_int.f
        rw [if_pos hp, if_pos hp]
        simp only [Option.bind_some]
        by_cases c3 : minL l < 0
        · obtain ⟨x, hx, h⟩ := (minL_lt hp).1 c3
          have e2 : (l.all fun x => decide (0 ≤ x) && decide (x ≤ 16)) = false := by
            rw [Bool.eq_false_iff]
            intro g
            have := List.all_eq_true.1 g x hx
            simp at this
            omega
          have e : okLens l = false := by unfold okLens; rw [e2]; simp
          unfold canonP
          rw [e]
          exact ev_pos c3 hj
        · refine ev_neg c3 ?_
          by_cases c4 : maxL l > 16
          · obtain ⟨x, hx, h⟩ := (maxL_gt hp).1 c4
            have e2 : (l.all fun x => decide (0 ≤ x) && decide (x ≤ 16)) = false := by
              rw [Bool.eq_false_iff]
              intro g
              have := List.all_eq_true.1 g x hx
              simp at this
              omega
            have e : okLens l = false := by unfold okLens; rw [e2]; simp
            unfold canonP
            rw [e, decide_eq_true c4]
            exact hj
          · have hb : ∀ x ∈ l, 0 ≤ x ∧ x ≤ 16 := fun x hx => ⟨Int.not_lt.1 fun g => c3 ((minL_lt hp).2 ⟨x, hx, g⟩), Int.not_lt.1 fun g => c4 ((maxL_gt hp).2 ⟨x, hx, g⟩)⟩
            have e2 : (l.all fun x => decide (0 ≤ x) && decide (x ≤ 16)) = true := by
              rw [List.all_eq_true]
              intro x hx
              have := hb x hx
              simp
              omega
            have e : okLens l = decide (krS l l.length 0 0 ≤ 65536) := by
              unfold okLens
              rw [e2, decide_eq_true (p := 1 ≤ (l.length : Int)) (by omega), decide_eq_true (p := (l.length : Int) ≤ 16) (by omega)]
              rfl
            rw [decide_eq_false c4]
            have hk := impl_kr l (by omega) hb l.length 0 0 (by omega)
            have e3 : (canonP l, okLens l) = (if krS l l.length 0 0 ≤ 65536 then (codesN l, true) else ([], false)) := by
              unfold canonP
              rw [e]
              by_cases c : krS l l.length 0 0 ≤ 65536
              · rw [if_pos c, decide_eq_true c]; rfl
              · rw [if_neg c, decide_eq_false c]; rfl
            rw [e3]
            refine Ev.step (f := fun k => impl_canonical.l0 k l 0 l (l.length : Int) ((0 : Nat) : Int)) (fun k => ?_) hk
            simp only [impl_canonical.j0, Bool.false_eq_true, if_false]
            rfl
  unfold impl_CanonicalCodes.f
  rw [ev_bind_iff key]
  exact Ev.now _

end Go.Proofs.Ytepifjggnfaeoaa.B
