/- What the match loops of the program and of the reference answer. No conditions. -/
import Derived.Test.YtckndapolgajfaaTok
import Derived.Test.YtckndapolgajfaaLoopsA
import Derived.Test.YtckndapolgajfaaQ2
import Derived.Test.YtckndapolgajfaaQ3
import Derived.Test.YtckndapolgajfaaQ11
import Derived.Test.YtckndapolgajfaaQ14
namespace Go.Proofs.Ytckndapolgajfaa.B
open Go.RowKit Go.Proofs.Ytckndapolgajfaa.Q Go.Proofs.YtckndapolgajfaaW.PrintWords Go.Proofs.YtckndapolgajfaaW.PrintLast Go.Proofs.YtckndapolgajfaaW.PrintMore
set_option linter.unusedVariables false

theorem areBytes_eq (l : List Int) : impl_areBytes.f l = some (l.all fun x => decide (0 ≤ x) && decide (x ≤ 255)) := by
  unfold impl_areBytes.f
  congr 1
  rw [Bool.eq_iff_iff]
  simp only [Bool.not_eq_true', List.any_eq_false, List.all_eq_true, notByte, Bool.or_eq_true, Bool.and_eq_true, decide_eq_true_eq, not_or]
  constructor
  · intro h x hx
    have := h x hx
    omega
  · intro h x hx
    have := h x hx
    omega
theorem up1 (i : Nat) (h : i ≤ 2000000) : wrap64 ((i : Int) + 1) = ((i + 1 : Nat) : Int) := by
  rw [w64 (by omega) (by omega)]
  omega
/-- At most 1200 bytes. -/
def okBytes (l : List Int) : Bool := decide (l.length ≤ 1200) && l.all fun x => decide (0 ≤ x) && decide (x ≤ 255)
theorem okBytes_ok {l : List Int} (h : okBytes l = true) : l.length ≤ 1200 ∧ ∀ x ∈ l, 0 ≤ x ∧ x ≤ 255 := by
  simp only [okBytes, Bool.and_eq_true, decide_eq_true_eq, List.all_eq_true] at h
  exact h
theorem okBytes_of {l : List Int} (h1 : l.length ≤ 1200) (h2 : ∀ x ∈ l, 0 ≤ x ∧ x ≤ 255) : okBytes l = true := by
  simp only [okBytes, Bool.and_eq_true, decide_eq_true_eq, List.all_eq_true]
  exact ⟨h1, h2⟩
theorem isByteList_eq (l : List Int) : impl_isByteList.f l = some (okBytes l) := by
  unfold impl_isByteList.f okBytes
  by_cases h : l.length ≤ 1200
  · rw [if_pos (by omega), areBytes_eq]
    simp [h]
  · rw [if_neg (by omega)]
    simp [h]
theorem validBytes_ev (l : List Int) : Ev (fun k => spec_validBytes.f k l) (okBytes l) := by
  unfold spec_validBytes.f
  by_cases h : l.length ≤ 1200
  · refine ev_pos (by omega) ?_
    rw [ev_bind_iff (allIn_ev l 0 255 (by omega))]
    exact ev_now (by simp [okBytes, h])
  · exact ev_neg (by omega) (ev_now (by simp [okBytes, h]))

/-! ### One match -/
theorem matchLength_ev (l : List Int) (a b : Nat) (hn : l.length ≤ 2000000) (ha : a ≤ l.length) (hb : b ≤ a) (h1 : 1 ≤ b) : Ev (fun k => spec_matchLength.f k l (a : Int) (b : Int)) (mlen l a b : Int) := by
  have key : ∀ d (n : Nat), n + d = 18 → Ev (fun k => spec_matchLength.l0 k l (a : Int) (b : Int) (n : Int)) (mgo l a b d n : Int) := by
    intro d
    induction d with
    | zero =>
      intro n hd
      refine Ev.step (f := fun _ => some (n : Int)) (fun k => ?_) (Ev.now _)
      simp only [spec_matchLength.l0]
      rw [if_neg (by omega)]
    | succ d ih =>
      intro n hd
      have e1 : wrap64 ((a : Int) + (n : Int)) = ((a + n : Nat) : Int) := by rw [w64 (by omega) (by omega)]; omega
      have e2 : wrap64 (((a + n : Nat) : Int) - (b : Int)) = ((a + n - b : Nat) : Int) := by rw [w64 (by omega) (by omega)]; omega
      have e3 : wrap64 ((n : Int) + 1) = ((n + 1 : Nat) : Int) := by rw [w64 (by omega) (by omega)]; omega
      simp only [mgo]
      by_cases c : a + n < l.length
      · by_cases g : l.getD (a + n) 0 = l.getD (a + n - b) 0
        · rw [if_pos ⟨c, g⟩]
          refine Ev.step (fun k => ?_) (ih (n + 1) (by omega))
          simp only [spec_matchLength.l0, e1, e2, e3, rd_nat]
          rw [if_pos (by omega), if_pos (by omega), if_pos (by omega), if_pos (by omega), if_pos (by omega), if_pos g]
        · rw [if_neg (fun h => g h.2)]
          refine Ev.step (f := fun _ => some (n : Int)) (fun k => ?_) (Ev.now _)
          simp only [spec_matchLength.l0, e1, e2, e3, rd_nat]
          rw [if_pos (by omega), if_pos (by omega), if_pos (by omega), if_pos (by omega), if_pos (by omega), if_neg g]
      · rw [if_neg (fun h => c h.1)]
        refine Ev.step (f := fun _ => some (n : Int)) (fun k => ?_) (Ev.now _)
        simp only [spec_matchLength.l0, e1]
        rw [if_pos (by omega), if_neg (by omega)]
  unfold spec_matchLength.f
  rw [mlen_def]
  exact key 18 0 rfl
theorem specLongest_ev (l : List Int) (a : Nat) (hn : l.length ≤ 2000000) (ha : a ≤ l.length) : Ev (fun k => spec_longest.f k l (a : Int)) (((longest l a).1 : Int), ((longest l a).2 : Int)) := by
  have hlast : Ev (fun k => spec_longest.l0 k l (a : Int) ((lgo l a (min 64 a)).1 : Int) ((lgo l a (min 64 a)).2 : Int) ((min 64 a + 1 : Nat) : Int)) (((longest l a).1 : Int), ((longest l a).2 : Int)) := by
    have hj : ∀ k, spec_longest.j1 (k + 1) l (a : Int) ((lgo l a (min 64 a)).1 : Int) ((lgo l a (min 64 a)).2 : Int) ((min 64 a + 1 : Nat) : Int) false = some (((longest l a).1 : Int), ((longest l a).2 : Int)) := by
      intro k
      simp only [spec_longest.j1, Bool.false_eq_true, if_false]
      unfold longest
      rw [igo_eq]
      by_cases c : (lgo l a (min 64 a)).1 < 3
      · rw [if_pos (by omega), if_pos c]
        rfl
      · rw [if_neg (by omega), if_neg c]
    refine Ev.step (fun k => ?_) (Ev.step (f := fun _ => some (((longest l a).1 : Int), ((longest l a).2 : Int))) (g := fun k => spec_longest.j1 k l (a : Int) ((lgo l a (min 64 a)).1 : Int) ((lgo l a (min 64 a)).2 : Int) ((min 64 a + 1 : Nat) : Int) false) hj (Ev.now _))
    simp only [spec_longest.l0]
    by_cases c : ((min 64 a + 1 : Nat) : Int) ≤ (a : Int)
    · rw [if_pos c, decide_eq_false (by omega)]
    · rw [if_neg c]
  have key : ∀ d, d ≤ min 64 a → Ev (fun k => spec_longest.l0 k l (a : Int) ((lgo l a (min 64 a - d)).1 : Int) ((lgo l a (min 64 a - d)).2 : Int) ((min 64 a - d + 1 : Nat) : Int)) (((longest l a).1 : Int), ((longest l a).2 : Int)) := by
    intro d
    induction d with
    | zero => intro _; exact hlast
    | succ d ih =>
      intro hd
      have ih := ih (by omega)
      have en : min 64 a - d = min 64 a - (d + 1) + 1 := by omega
      rw [en] at ih
      refine Ev.step (g := fun k => spec_longest.l0 k l (a : Int) ((lgo l a (min 64 a - (d + 1))).1 : Int) ((lgo l a (min 64 a - (d + 1))).2 : Int) ((min 64 a - (d + 1) + 1 : Nat) : Int)) (f := fun k => spec_longest.j1 k l (a : Int) ((lgo l a (min 64 a - (d + 1))).1 : Int) ((lgo l a (min 64 a - (d + 1))).2 : Int) ((min 64 a - (d + 1) + 1 : Nat) : Int) true) (fun k => by
        simp only [spec_longest.l0]
        rw [if_pos (by omega), decide_eq_true (by omega)]) ?_
      refine Ev.step (g := fun k => spec_longest.j1 k l (a : Int) ((lgo l a (min 64 a - (d + 1))).1 : Int) ((lgo l a (min 64 a - (d + 1))).2 : Int) ((min 64 a - (d + 1) + 1 : Nat) : Int) true) (f := fun k => (spec_matchLength.f k l (a : Int) ((min 64 a - (d + 1) + 1 : Nat) : Int)).bind fun t => if t > ((lgo l a (min 64 a - (d + 1))).1 : Int) then spec_longest.l0 k l (a : Int) t ((min 64 a - (d + 1) + 1 : Nat) : Int) (wrap64 (((min 64 a - (d + 1) + 1 : Nat) : Int) + 1)) else spec_longest.l0 k l (a : Int) ((lgo l a (min 64 a - (d + 1))).1 : Int) ((lgo l a (min 64 a - (d + 1))).2 : Int) (wrap64 (((min 64 a - (d + 1) + 1 : Nat) : Int) + 1))) (fun k => by simp only [spec_longest.j1, if_true]) ?_
      rw [ev_bind_iff (matchLength_ev l a (min 64 a - (d + 1) + 1) hn ha (by omega) (by omega))]
      have e3 : wrap64 (((min 64 a - (d + 1) + 1 : Nat) : Int) + 1) = ((min 64 a - (d + 1) + 1 + 1 : Nat) : Int) := by rw [w64 (by omega) (by omega)]; omega
      simp only [e3]
      have hl : lgo l a (min 64 a - (d + 1) + 1) = if (lgo l a (min 64 a - (d + 1))).1 < mlen l a (min 64 a - (d + 1) + 1) then (mlen l a (min 64 a - (d + 1) + 1), min 64 a - (d + 1) + 1) else lgo l a (min 64 a - (d + 1)) := rfl
      by_cases c : (lgo l a (min 64 a - (d + 1))).1 < mlen l a (min 64 a - (d + 1) + 1)
      · rw [if_pos c] at hl
        rw [hl] at ih
        exact ev_pos (by omega) ih
      · rw [if_neg c] at hl
        rw [hl] at ih
        exact ev_neg (by omega) ih
  have := key (min 64 a) (Nat.le_refl _)
  rw [Nat.sub_self] at this
  unfold spec_longest.f
  exact this
/-- Behind one distance of the program's loop. -/
def tailI (k : Nat) (x0 : List Int) (x1 x6 x7 x8 x9 : Int) : Option (Int × Int) := if x9 ≥ 3 then (if x9 > x6 then (impl_longestMatch.l0 k x0 x1 x9 x8 (wrap64 (x8 + 1))) else (impl_longestMatch.l0 k x0 x1 x6 x7 (wrap64 (x8 + 1)))) else (impl_longestMatch.l0 k x0 x1 x6 x7 (wrap64 (x8 + 1)))
theorem implL1 (k : Nat) (x0 : List Int) (x1 x6 x7 x8 x9 : Int) : impl_longestMatch.l1 (k + 1) x0 x1 x6 x7 x8 x9 = if x9 < 18 then (if (wrap64 (x1 + x9)) < (x0.length : Int) then (if 0 ≤ (wrap64 (x1 + x9)) then (if 0 ≤ (wrap64 ((wrap64 (x1 + x9)) - x8)) then (if (wrap64 ((wrap64 (x1 + x9)) - x8)) < (x0.length : Int) then (if (rd x0 (wrap64 (x1 + x9))) = (rd x0 (wrap64 ((wrap64 (x1 + x9)) - x8))) then (impl_longestMatch.l1 k x0 x1 x6 x7 x8 (wrap64 (x9 + 1))) else tailI k x0 x1 x6 x7 x8 x9) else none) else none) else none) else tailI k x0 x1 x6 x7 x8 x9) else tailI k x0 x1 x6 x7 x8 x9 := by
  rw [impl_longestMatch.l1]
  rfl
theorem tailI_eq (k : Nat) (l : List Int) (a b n : Nat) (p : Nat × Nat) (hb : b ≤ 64) : tailI k l (a : Int) (p.1 : Int) (p.2 : Int) (b : Int) (n : Int) = impl_longestMatch.l0 k l (a : Int) ((if 3 ≤ n ∧ p.1 < n then (n, b) else p).1 : Int) ((if 3 ≤ n ∧ p.1 < n then (n, b) else p).2 : Int) ((b + 1 : Nat) : Int) := by
  have eb : wrap64 ((b : Int) + 1) = ((b + 1 : Nat) : Int) := by rw [w64 (by omega) (by omega)]; omega
  unfold tailI
  rw [eb]
  by_cases c1 : 3 ≤ n
  · by_cases c2 : p.1 < n
    · rw [if_pos (show (n : Int) ≥ 3 by omega), if_pos (show (n : Int) > (p.1 : Int) by omega), if_pos ⟨c1, c2⟩]
    · rw [if_pos (show (n : Int) ≥ 3 by omega), if_neg (show ¬ (n : Int) > (p.1 : Int) by omega), if_neg (fun h => c2 h.2)]
  · rw [if_neg (show ¬ (n : Int) ≥ 3 by omega), if_neg (fun h => c1 h.1)]
theorem implL1_ev (l : List Int) (a : Nat) (hn : l.length ≤ 2000000) (ha : a ≤ l.length) (p : Nat × Nat) (b : Nat) (h1 : 1 ≤ b) (h2 : b ≤ 64) (h3 : b ≤ a) (r : Int × Int) (M : Nat) (hr : Ev (fun k => impl_longestMatch.l0 k l (a : Int) ((if 3 ≤ M ∧ p.1 < M then (M, b) else p).1 : Int) ((if 3 ≤ M ∧ p.1 < M then (M, b) else p).2 : Int) ((b + 1 : Nat) : Int)) r) :
    ∀ d (n : Nat), n + d = 18 → M = mgo l a b d n → Ev (fun k => impl_longestMatch.l1 k l (a : Int) (p.1 : Int) (p.2 : Int) (b : Int) (n : Int)) r := by
  intro d
  induction d with
  | zero =>
    intro n hd hm
    have hm' : M = n := by rw [hm]; rfl
    rw [hm'] at hr
    refine Ev.step (fun k => ?_) hr
    rw [implL1, if_neg (show ¬ (n : Int) < 18 by clear hr; omega)]
    exact tailI_eq k l a b n p h2
  | succ d ih =>
    intro n hd
    have e1 : wrap64 ((a : Int) + (n : Int)) = ((a + n : Nat) : Int) := by rw [w64 (by omega) (by omega)]; omega
    have e2 : wrap64 (((a + n : Nat) : Int) - (b : Int)) = ((a + n - b : Nat) : Int) := by rw [w64 (by omega) (by omega)]; omega
    have e3 : wrap64 ((n : Int) + 1) = ((n + 1 : Nat) : Int) := by rw [w64 (by omega) (by omega)]; omega
    have f1 : (n : Int) < 18 := by omega
    have f2 : a + n < l.length → ((a + n : Nat) : Int) < (l.length : Int) := fun c => by omega
    have f3 : ¬ a + n < l.length → ¬ ((a + n : Nat) : Int) < (l.length : Int) := fun c => by omega
    have f4 : a + n < l.length → ((a + n - b : Nat) : Int) < (l.length : Int) := fun c => by omega
    have f5 : n + 1 + d = 18 := by omega
    have ih := ih (n + 1) f5
    intro hm
    simp only [mgo] at hm
    by_cases c : a + n < l.length
    · by_cases g : l.getD (a + n) 0 = l.getD (a + n - b) 0
      · rw [if_pos ⟨c, g⟩] at hm
        refine Ev.step (fun k => ?_) (ih hm)
        rw [implL1, e1, e2, e3, rd_nat, rd_nat, if_pos f1, if_pos (f2 c), if_pos (Int.natCast_nonneg (a + n)), if_pos (Int.natCast_nonneg (a + n - b)), if_pos (f4 c), if_pos g]
      · rw [if_neg (fun h => g h.2)] at hm
        rw [hm] at hr
        refine Ev.step (fun k => ?_) hr
        rw [implL1, e1, e2, e3, rd_nat, rd_nat, if_pos f1, if_pos (f2 c), if_pos (Int.natCast_nonneg (a + n)), if_pos (Int.natCast_nonneg (a + n - b)), if_pos (f4 c), if_neg g]
        exact tailI_eq k l a b n p h2
    · rw [if_neg (fun h => c h.1)] at hm
      rw [hm] at hr
      refine Ev.step (fun k => ?_) hr
      rw [implL1, e1, if_pos f1, if_neg (f3 c)]
      exact tailI_eq k l a b n p h2
theorem implLongest_ev (l : List Int) (a : Nat) (hn : l.length ≤ 2000000) (ha : a ≤ l.length) : Ev (fun k => impl_longestMatch.f k l (a : Int)) (((longest l a).1 : Int), ((longest l a).2 : Int)) := by
  have hmn : mn 64 (a : Int) = ((min 64 a : Nat) : Int) := by
    unfold mn
    split <;> omega
  have key : ∀ d, d ≤ min 64 a → Ev (fun k => impl_longestMatch.l0 k l (a : Int) ((igo l a (min 64 a - d)).1 : Int) ((igo l a (min 64 a - d)).2 : Int) ((min 64 a - d + 1 : Nat) : Int)) (((longest l a).1 : Int), ((longest l a).2 : Int)) := by
    intro d
    induction d with
    | zero =>
      intro _
      refine Ev.step (f := fun _ => some (((longest l a).1 : Int), ((longest l a).2 : Int))) (fun k => ?_) (Ev.now _)
      simp only [impl_longestMatch.l0, hmn]
      rw [if_neg (by omega)]
      rfl
    | succ d ih =>
      intro hd
      have ih := ih (by omega)
      have en : min 64 a - d = min 64 a - (d + 1) + 1 := by omega
      rw [en] at ih
      refine Ev.step (f := fun k => impl_longestMatch.l1 k l (a : Int) ((igo l a (min 64 a - (d + 1))).1 : Int) ((igo l a (min 64 a - (d + 1))).2 : Int) ((min 64 a - (d + 1) + 1 : Nat) : Int) ((0 : Nat) : Int)) (fun k => by
        simp only [impl_longestMatch.l0, hmn]
        rw [if_pos (by omega)]
        rfl) ?_
      exact implL1_ev l a hn ha (igo l a (min 64 a - (d + 1))) (min 64 a - (d + 1) + 1) (by omega) (by omega) (by omega) _ _ ih 18 0 rfl (mlen_def _ _ _)
  have := key (min 64 a) (Nat.le_refl _)
  rw [Nat.sub_self] at this
  unfold impl_longestMatch.f
  exact this
/-- What LongestMatch answers. -/
def lmP (l : List Int) (a : Int) : Int × Int := if okBytes l = true ∧ 0 ≤ a ∧ a < (l.length : Int) then (((longest l a.toNat).1 : Int), ((longest l a.toNat).2 : Int)) else (-1, -1)
theorem specLM_ev (l : List Int) (a : Int) : Ev (fun k => spec_LongestMatch.f k l a) (lmP l a) := by
  unfold spec_LongestMatch.f lmP
  rw [ev_bind_iff (validBytes_ev l)]
  by_cases h : okBytes l = true
  · have hn := (okBytes_ok h).1
    refine ev_pos h ?_
    rw [inRange_eq, w64 (by omega) (by omega)]
    simp only [Option.bind_some]
    by_cases c : 0 ≤ a ∧ a < (l.length : Int)
    · rw [if_pos ⟨h, c⟩]
      refine ev_pos (by simp; omega) ?_
      obtain ⟨m, rfl⟩ := Int.eq_ofNat_of_zero_le c.1
      rw [ev_bind_iff (specLongest_ev l m (by omega) (by omega))]
      exact Ev.now _
    · rw [if_neg (fun g => c g.2)]
      exact ev_neg (by simp; omega) (Ev.now _)
  · rw [if_neg (fun g => h g.1)]
    exact ev_neg h (Ev.now _)
theorem implLM_ev (l : List Int) (a : Int) : Ev (fun k => impl_LongestMatch.f k l a) (lmP l a) := by
  unfold impl_LongestMatch.f lmP
  rw [isByteList_eq]
  simp only [Option.bind_some]
  by_cases h : okBytes l = true
  · have hn := (okBytes_ok h).1
    refine ev_pos h ?_
    by_cases c0 : a < 0
    · rw [if_neg (by omega)]
      exact ev_pos c0 (Ev.now _)
    refine ev_neg c0 ?_
    by_cases c1 : a ≥ (l.length : Int)
    · rw [if_neg (by omega)]
      exact ev_pos c1 (Ev.now _)
    refine ev_neg c1 ?_
    rw [if_pos ⟨h, by omega, by omega⟩]
    obtain ⟨m, rfl⟩ := Int.eq_ofNat_of_zero_le (show 0 ≤ a by omega)
    rw [ev_bind_iff (implLongest_ev l m (by omega) (by omega))]
    exact Ev.now _
  · rw [if_neg (fun g => h g.1)]
    exact ev_neg h (Ev.now _)

end Go.Proofs.Ytckndapolgajfaa.B
