/- The codes of lengths, as both sides compute them. No conditions. -/
import Derived.Test.YtepifjggnfaeoaaLoopsA
import Derived.Test.YtepifjggnfaeoaaQ1
namespace Go.Proofs.Ytepifjggnfaeoaa.B
open Go.RowKit Go.Proofs.Ytepifjggnfaeoaa.Q Go.Proofs.YtepifjggnfaeoaaW.PrintWords Go.Proofs.YtepifjggnfaeoaaW.PrintLast Go.Proofs.YtepifjggnfaeoaaW.PrintMore
set_option linter.unusedVariables false

theorem cup1 (i : Nat) (h : i < 1000000000) : wrap64 ((i : Int) + 1) = ((i + 1 : Nat) : Int) := by rw [w64 (by omega) (by omega)]; omega
/-- One length: the codes of the symbols from i on. -/
def cIn (l : List Int) (n : Int) : Nat → Nat → List Int → Int → List Int × Int
  | 0, _, S, c => (S, c)
  | d + 1, i, S, c => if rd l (i : Int) = n then cIn l n d (i + 1) (S.set i c) (wrap64 (c + 1)) else cIn l n d (i + 1) S c
theorem cIn_len (l : List Int) (n : Int) : ∀ d i S c, (cIn l n d i S c).1.length = S.length
  | 0, _, _, _ => rfl
  | d + 1, i, S, c => by
    unfold cIn
    by_cases h : rd l (i : Int) = n
    · rw [if_pos h, cIn_len l n d]
      simp
    · rw [if_neg h, cIn_len l n d]
/-- All lengths from n on. -/
def cOut (l : List Int) : Nat → Nat → List Int → Int → List Int
  | 0, _, S, _ => S
  | d + 1, n, S, c => cOut l d (n + 1) (cIn l (n : Int) l.length 0 S (wrap64 (2 * c))).1 (cIn l (n : Int) l.length 0 S (wrap64 (2 * c))).2
theorem cOut_len (l : List Int) : ∀ d n S c, (cOut l d n S c).length = S.length
  | 0, _, _, _ => rfl
  | d + 1, n, S, c => by
    unfold cOut
    rw [cOut_len l d, cIn_len]
theorem spec_in (l : List Int) (hn : l.length ≤ 2000000) (n : Nat) (h16 : n ≤ 16) (r : List Int) : ∀ (d i : Nat) (S : List Int) (c : Int), i + d = l.length → S.length = l.length → Ev (fun k => spec_canonicalCodes.l0 k l (cIn l (n : Int) d i S c).1 (cIn l (n : Int) d i S c).2 ((n + 1 : Nat) : Int)) r → Ev (fun k => spec_canonicalCodes.l1 k l S c (n : Int) (i : Int)) r := by
  intro d
  induction d with
  | zero =>
    intro i S c hi hS g
    refine Ev.step (fun k => ?_) g
    simp only [spec_canonicalCodes.l1, cup1 n (by omega)]
    rw [if_neg (by omega)]
    rfl
  | succ d ih =>
    intro i S c hi hS g
    have p1 : (i : Int) < (l.length : Int) := by omega
    have p2 : (i : Int) < (S.length : Int) := by omega
    have hi' : i < 1000000000 := by omega
    by_cases e : rd l (i : Int) = (n : Int)
    · have g2 := ih (i + 1) (S.set i c) (wrap64 (c + 1)) (by omega) (by simp [hS]) (by unfold cIn at g; rw [if_pos e] at g; exact g)
      refine Ev.step (fun k => ?_) g2
      simp only [spec_canonicalCodes.l1, cup1 i hi', Int.toNat_natCast]
      rw [if_pos p1, if_pos (Int.natCast_nonneg i), if_pos e, if_pos p2]
    · have g2 := ih (i + 1) S c (by omega) hS (by unfold cIn at g; rw [if_neg e] at g; exact g)
      refine Ev.step (fun k => ?_) g2
      simp only [spec_canonicalCodes.l1, cup1 i hi']
      rw [if_pos p1, if_pos (Int.natCast_nonneg i), if_neg e]
theorem spec_out (l : List Int) (hn : l.length ≤ 2000000) : ∀ (d n : Nat) (S : List Int) (c : Int), n + d = 17 → S.length = l.length → Ev (fun k => spec_canonicalCodes.l0 k l S c (n : Int)) (cOut l d n S c) := by
  intro d
  induction d with
  | zero =>
    intro n S c h hS
    refine Ev.step (f := fun _ => some S) (fun k => ?_) (Ev.now _)
    simp only [spec_canonicalCodes.l0]
    rw [if_neg (by omega)]
  | succ d ih =>
    intro n S c h hS
    have p : (n : Int) ≤ 16 := by omega
    refine Ev.step (f := fun k => spec_canonicalCodes.l1 k l S (wrap64 (2 * c)) (n : Int) ((0 : Nat) : Int)) (fun k => ?_) ?_
    · simp only [spec_canonicalCodes.l0]
      rw [if_pos p]
      rfl
    · exact spec_in l hn n (by omega) _ l.length 0 S (wrap64 (2 * c)) (by omega) hS (ih (n + 1) _ _ (by omega) (by rw [cIn_len]; exact hS))
def codesN (l : List Int) : List Int := cOut l 16 1 (List.replicate l.length 0) 0
theorem codesN_len (l : List Int) : (codesN l).length = l.length := by unfold codesN; rw [cOut_len]; simp
theorem specCodes_ev (l : List Int) (hn : l.length ≤ 2000000) : Ev (fun k => spec_canonicalCodes.f k l) (codesN l) := by
  unfold spec_canonicalCodes.f
  refine ev_pos (by omega) (ev_pos (by omega) ?_)
  simp only [Int.toNat_natCast]
  exact spec_out l hn 16 1 _ 0 rfl (by simp)
/-- The sum over the codes. -/
def krS (l : List Int) : Nat → Nat → Int → Int
  | 0, _, s => s
  | d + 1, i, s => krS l d (i + 1) (if rd l (i : Int) > 0 then wrap64 (s + shl .i64 1 (wrap64 (16 - rd l (i : Int)))) else s)
theorem rd_all {l : List Int} (hb : ∀ x ∈ l, 0 ≤ x ∧ x ≤ 16) {i : Nat} (hi : i < l.length) : 0 ≤ rd l (i : Int) ∧ rd l (i : Int) ≤ 16 := by
  have := hb l[i] (List.getElem_mem hi)
  rw [rd_nat]
  simpa [hi] using this
theorem spec_kr (l : List Int) (hn : l.length ≤ 2000000) (hb : ∀ x ∈ l, 0 ≤ x ∧ x ≤ 16) : ∀ (d i : Nat) (s : Int), i + d = l.length → Ev (fun k => spec_kraft.l0 k l s (i : Int)) (krS l d i s) := by
  intro d
  induction d with
  | zero =>
    intro i s hi
    refine Ev.step (f := fun _ => some s) (fun k => ?_) (Ev.now _)
    simp only [spec_kraft.l0]
    rw [if_neg (by omega)]
  | succ d ih =>
    intro i s hi
    have hi' : i < 1000000000 := by omega
    have p1 : (i : Int) < (l.length : Int) := by omega
    have h := rd_all hb (i := i) (by omega)
    have hw : wrap64 (16 - rd l (i : Int)) = 16 - rd l (i : Int) := w64 (by omega) (by omega)
    have g := ih (i + 1) (if rd l (i : Int) > 0 then wrap64 (s + shl .i64 1 (wrap64 (16 - rd l (i : Int)))) else s) (by omega)
    refine Ev.step (fun k => ?_) g
    simp only [spec_kraft.l0, cup1 i hi']
    rw [if_pos p1, if_pos (Int.natCast_nonneg i)]
    by_cases c : rd l (i : Int) > 0
    · rw [if_pos c, if_pos c, if_pos (by rw [hw]; omega)]
    · rw [if_neg c, if_neg c]
def okLens (l : List Int) : Bool := (decide (1 ≤ (l.length : Int)) && decide ((l.length : Int) ≤ 16)) && ((l.all fun x => decide (0 ≤ x) && decide (x ≤ 16)) && decide (krS l l.length 0 0 ≤ 65536))
def canonP (l : List Int) : List Int := if okLens l = true then codesN l else []
theorem canonP_length (l : List Int) : (canonP l).length ≤ 2000000 := by
  unfold canonP
  by_cases h : okLens l = true
  · rw [if_pos h, codesN_len]
    unfold okLens at h
    simp only [Bool.and_eq_true, decide_eq_true_eq] at h
    omega
  · rw [if_neg h]
    simp
theorem specCanon_ev (l : List Int) (hn : l.length ≤ 2000000) : Ev (fun k => spec_CanonicalCodes.f k l) (canonP l) := by
  have hv : Ev (fun k => spec_validLengths.f k l) (okLens l) := by
    unfold spec_validLengths.f okLens
    rw [inRange_eq]
    simp only [Option.bind_some]
    by_cases c1 : (decide (1 ≤ (l.length : Int)) && decide ((l.length : Int) ≤ 16)) = true
    · rw [c1]
      refine ev_pos rfl ?_
      rw [ev_bind_iff (allIn_ev l 0 16 hn)]
      by_cases c2 : (l.all fun x => decide (0 ≤ x) && decide (x ≤ 16)) = true
      · rw [c2]
        refine ev_pos rfl ?_
        have hb : ∀ x ∈ l, 0 ≤ x ∧ x ≤ 16 := by
          intro x hx
          have := List.all_eq_true.1 c2 x hx
          simpa using this
        have hk : Ev (fun k => spec_kraft.f k l) (krS l l.length 0 0) := spec_kr l hn hb l.length 0 0 (by omega)
        rw [ev_bind_iff hk]
        exact Ev.now _
      · rw [Bool.eq_false_iff.2 c2]
        exact ev_neg (by simp) (Ev.now _)
    · rw [Bool.eq_false_iff.2 c1]
      exact ev_neg (by simp) (Ev.now _)
  unfold spec_CanonicalCodes.f canonP
  rw [ev_bind_iff hv]
  by_cases c : okLens l = true
  · rw [if_pos c]
    refine ev_pos c ?_
    rw [ev_bind_iff (specCodes_ev l hn)]
    exact Ev.now _
  · rw [if_neg c]
    exact ev_neg c (Ev.now _)

end Go.Proofs.Ytepifjggnfaeoaa.B
