/- Matches and least costs, in plain numbers: no program in sight. No conditions. -/
import Derived.Test.YtckndapolgajfaaBase
namespace Go.Proofs.Ytckndapolgajfaa.B
set_option linter.unusedVariables false

/-! ### Matches -/
/-- From n on, how far the bytes from a on are equal to those earlier by b; at most d more. -/
def mgo (l : List Int) (a b : Nat) : Nat → Nat → Nat
  | 0, n => n
  | d + 1, n => if a + n < l.length ∧ l.getD (a + n) 0 = l.getD (a + n - b) 0 then mgo l a b d (n + 1) else n
def mlen (l : List Int) (a b : Nat) : Nat := mgo l a b 18 0
theorem mlen_def (l : List Int) (a b : Nat) : mlen l a b = mgo l a b 18 0 := rfl
theorem mgo_ok (l : List Int) (a b : Nat) : ∀ d n, n ≤ mgo l a b d n ∧ mgo l a b d n ≤ n + d ∧ (∀ i, n ≤ i → i < mgo l a b d n → a + i < l.length ∧ l.getD (a + i) 0 = l.getD (a + i - b) 0) ∧
    (mgo l a b d n = n + d ∨ l.length ≤ a + mgo l a b d n ∨ l.getD (a + mgo l a b d n) 0 ≠ l.getD (a + mgo l a b d n - b) 0) := by
  intro d
  induction d with
  | zero =>
    intro n
    simp only [mgo]
    exact ⟨by omega, by omega, fun i h1 h2 => by omega, .inl rfl⟩
  | succ d ih =>
    intro n
    simp only [mgo]
    by_cases c : a + n < l.length ∧ l.getD (a + n) 0 = l.getD (a + n - b) 0
    · rw [if_pos c]
      obtain ⟨h1, h2, h3, h4⟩ := ih (n + 1)
      refine ⟨by omega, by omega, fun i g1 g2 => ?_, ?_⟩
      · by_cases e : i = n
        · subst e; exact c
        · exact h3 i (by omega) g2
      · rcases h4 with h4 | h4
        · exact .inl (by omega)
        · exact .inr h4
    · rw [if_neg c]
      refine ⟨by omega, by omega, fun i g1 g2 => by omega, ?_⟩
      by_cases e : a + n < l.length
      · exact .inr (.inr fun h => c ⟨e, h⟩)
      · exact .inr (.inl (by omega))
theorem mlen_le (l : List Int) (a b : Nat) : mlen l a b ≤ 18 := by
  have := (mgo_ok l a b 18 0).2.1
  unfold mlen
  omega
theorem mlen_eq (l : List Int) (a b i : Nat) (h : i < mlen l a b) : a + i < l.length ∧ l.getD (a + i) 0 = l.getD (a + i - b) 0 := (mgo_ok l a b 18 0).2.2.1 i (by omega) h
theorem mlen_stop (l : List Int) (a b : Nat) : mlen l a b = 18 ∨ l.length ≤ a + mlen l a b ∨ l.getD (a + mlen l a b) 0 ≠ l.getD (a + mlen l a b - b) 0 := by
  have := (mgo_ok l a b 18 0).2.2.2
  unfold mlen
  simpa using this
theorem mlen_end (l : List Int) (a b : Nat) (h : a ≤ l.length) : a + mlen l a b ≤ l.length := by
  rcases Nat.eq_zero_or_pos (mlen l a b) with h0 | h0
  · omega
  · have := (mlen_eq l a b (mlen l a b - 1) (by omega)).1
    omega
/-- The longest match over the first d distances, the nearest of several. -/
def lgo (l : List Int) (a : Nat) : Nat → Nat × Nat
  | 0 => (0, 0)
  | d + 1 => if (lgo l a d).1 < mlen l a (d + 1) then (mlen l a (d + 1), d + 1) else lgo l a d
theorem lgo_ok (l : List Int) (a d : Nat) : ((lgo l a d).1 = 0 ∧ (lgo l a d).2 = 0 ∨ 1 ≤ (lgo l a d).2 ∧ (lgo l a d).2 ≤ d ∧ (lgo l a d).1 = mlen l a (lgo l a d).2 ∧ 1 ≤ (lgo l a d).1) ∧
    ∀ e, 1 ≤ e → e ≤ d → mlen l a e ≤ (lgo l a d).1 ∧ (mlen l a e = (lgo l a d).1 → (lgo l a d).2 ≤ e) := by
  induction d with
  | zero => exact ⟨.inl ⟨rfl, rfl⟩, fun e h1 h2 => by omega⟩
  | succ d ih =>
    obtain ⟨h1, h2⟩ := ih
    simp only [lgo]
    by_cases c : (lgo l a d).1 < mlen l a (d + 1)
    · rw [if_pos c]
      refine ⟨.inr ⟨by simp, by simp, rfl, by show 1 ≤ mlen l a (d + 1); omega⟩, fun e g1 g2 => ?_⟩
      by_cases he : e = d + 1
      · subst he
        exact ⟨Nat.le_refl _, fun _ => Nat.le_refl _⟩
      · have := (h2 e g1 (by omega)).1
        exact ⟨by show mlen l a e ≤ mlen l a (d + 1); omega, fun h => by exfalso; have h' : mlen l a e = mlen l a (d + 1) := h; omega⟩
    · rw [if_neg c]
      refine ⟨?_, fun e g1 g2 => ?_⟩
      · rcases h1 with h1 | ⟨a1, a2, a3, a4⟩
        · exact .inl h1
        · exact .inr ⟨a1, by omega, a3, a4⟩
      · by_cases he : e = d + 1
        · subst he
          refine ⟨by omega, fun h => ?_⟩
          rcases h1 with ⟨b1, b2⟩ | ⟨a1, a2, a3, a4⟩
          · omega
          · omega
        · exact h2 e g1 (by omega)
/-- The program's way: matches of less than three bytes are passed over at once. -/
def igo (l : List Int) (a : Nat) : Nat → Nat × Nat
  | 0 => (0, 0)
  | d + 1 => if 3 ≤ mlen l a (d + 1) ∧ (igo l a d).1 < mlen l a (d + 1) then (mlen l a (d + 1), d + 1) else igo l a d
theorem igo_eq (l : List Int) (a d : Nat) : igo l a d = if (lgo l a d).1 < 3 then (0, 0) else lgo l a d := by
  induction d with
  | zero => rfl
  | succ d ih =>
    have hi : igo l a (d + 1) = if 3 ≤ mlen l a (d + 1) ∧ (igo l a d).1 < mlen l a (d + 1) then (mlen l a (d + 1), d + 1) else igo l a d := rfl
    have hl : lgo l a (d + 1) = if (lgo l a d).1 < mlen l a (d + 1) then (mlen l a (d + 1), d + 1) else lgo l a d := rfl
    by_cases e : (lgo l a d).1 < mlen l a (d + 1)
    · rw [if_pos e] at hl
      rw [hl]
      by_cases c : (lgo l a d).1 < 3
      · rw [if_pos c] at ih
        rw [hi, ih]
        by_cases f : 3 ≤ mlen l a (d + 1)
        · rw [if_pos ⟨f, by show 0 < _; omega⟩, if_neg (by show ¬ mlen l a (d + 1) < 3; omega)]
        · rw [if_neg (fun h => f h.1), if_pos (by show mlen l a (d + 1) < 3; omega)]
      · rw [if_neg c] at ih
        rw [hi, ih, if_pos ⟨by omega, e⟩, if_neg (by show ¬ mlen l a (d + 1) < 3; omega)]
    · rw [if_neg e] at hl
      rw [hl, ← ih, hi]
      refine if_neg fun h => ?_
      by_cases c : (lgo l a d).1 < 3
      · have := h.1
        omega
      · rw [if_neg c] at ih
        rw [ih] at h
        exact e h.2
attribute [irreducible] mlen
def longest (l : List Int) (a : Nat) : Nat × Nat := igo l a (min 64 a)
theorem longest_ok (l : List Int) (a : Nat) : (longest l a = (0, 0) ∨ 3 ≤ (longest l a).1 ∧ (longest l a).1 ≤ 18 ∧ 1 ≤ (longest l a).2 ∧ (longest l a).2 ≤ 64 ∧ (longest l a).2 ≤ a ∧ (longest l a).1 = mlen l a (longest l a).2) ∧
    ∀ e, 1 ≤ e → e ≤ 64 → e ≤ a → 3 ≤ mlen l a e → mlen l a e ≤ (longest l a).1 ∧ (mlen l a e = (longest l a).1 → (longest l a).2 ≤ e) := by
  obtain ⟨h1, h2⟩ := lgo_ok l a (min 64 a)
  unfold longest
  rw [igo_eq]
  by_cases c : (lgo l a (min 64 a)).1 < 3
  · rw [if_pos c]
    refine ⟨.inl rfl, fun e g1 g2 g3 g4 => ?_⟩
    have := (h2 e g1 (by omega)).1
    omega
  · rw [if_neg c]
    refine ⟨.inr ?_, fun e g1 g2 g3 g4 => h2 e g1 (by omega)⟩
    rcases h1 with h1 | ⟨a1, a2, a3, a4⟩
    · omega
    · have := mlen_le l a (lgo l a (min 64 a)).2
      exact ⟨by omega, by omega, a1, by omega, by omega, a3⟩
/-- Its length is 0 or 3 to 18, and lies in the list. -/
theorem longest_len (l : List Int) (a : Nat) (h : a ≤ l.length) : ((longest l a).1 = 0 ∨ 3 ≤ (longest l a).1) ∧ (longest l a).1 ≤ 18 ∧ a + (longest l a).1 ≤ l.length := by
  rcases (longest_ok l a).1 with e | ⟨g1, g2, g3, g4, g5, g6⟩
  · rw [e]
    exact ⟨.inl rfl, by omega, h⟩
  · refine ⟨.inr g1, g2, ?_⟩
    rw [g6]
    exact mlen_end l a _ h

/-! ### Least costs -/
/-- The cheapest of a byte and the matches of lengths 3 to m + 2, where C tells what the rest costs; of several the last. -/
def opt (C : Nat → Int) (a : Nat) : Nat → Int × Nat
  | 0 => (9 + C (a + 1), 0)
  | m + 1 => if 11 + C (a + (m + 3)) ≤ (opt C a m).1 then (11 + C (a + (m + 3)), m + 3) else opt C a m
theorem opt_congr (C C' : Nat → Int) (a m : Nat) (h : ∀ i, a < i → C i = C' i) : opt C a m = opt C' a m := by
  induction m with
  | zero => simp only [opt]; rw [h _ (by omega)]
  | succ m ih => simp only [opt]; rw [ih, h _ (by omega)]
theorem opt_ok (C : Nat → Int) (a m : Nat) : ((opt C a m).2 = 0 ∧ (opt C a m).1 = 9 + C (a + 1) ∨ 3 ≤ (opt C a m).2 ∧ (opt C a m).2 ≤ m + 2 ∧ (opt C a m).1 = 11 + C (a + (opt C a m).2)) ∧
    (opt C a m).1 ≤ 9 + C (a + 1) ∧ ∀ n, 3 ≤ n → n ≤ m + 2 → (opt C a m).1 ≤ 11 + C (a + n) := by
  induction m with
  | zero => exact ⟨.inl ⟨rfl, rfl⟩, Int.le_refl _, fun n h1 h2 => by omega⟩
  | succ m ih =>
    obtain ⟨h1, h2, h3⟩ := ih
    simp only [opt]
    by_cases c : 11 + C (a + (m + 3)) ≤ (opt C a m).1
    · rw [if_pos c]
      refine ⟨.inr ⟨by simp, by simp, rfl⟩, by simp only; omega, fun n g1 g2 => ?_⟩
      by_cases e : n = m + 3
      · subst e; exact Int.le_refl _
      · have := h3 n g1 (by omega)
        simp only
        omega
    · rw [if_neg c]
      refine ⟨?_, h2, fun n g1 g2 => ?_⟩
      · rcases h1 with h1 | ⟨a1, a2, a3⟩
        · exact .inl h1
        · exact .inr ⟨a1, by omega, a3⟩
      · by_cases e : n = m + 3
        · subst e; omega
        · exact h3 n g1 (by omega)
/-- The costs of the last j places. -/
def tabC (l : List Int) : Nat → Nat → Int
  | 0, _ => 0
  | j + 1, i => if i = l.length - 1 - j then (opt (tabC l j) (l.length - 1 - j) ((longest l (l.length - 1 - j)).1 - 2)).1 else tabC l j i
/-- The least cost from place i on. -/
def cst (l : List Int) (i : Nat) : Int := tabC l l.length i
theorem tabC_stay (l : List Int) (i : Nat) : ∀ j d, l.length ≤ i + j → j + d ≤ l.length → tabC l (j + d) i = tabC l j i := by
  intro j d
  induction d with
  | zero => intro _ _; rfl
  | succ d ih =>
    intro h1 h2
    rw [← Nat.add_assoc]
    simp only [tabC]
    rw [if_neg (by omega)]
    exact ih h1 (by omega)
theorem cst_end (l : List Int) (i : Nat) (h : l.length ≤ i) : cst l i = 0 := by
  unfold cst
  have := tabC_stay l i 0 l.length (by omega) (by omega)
  rw [Nat.zero_add] at this
  rw [this]
  rfl
theorem tabC_cst (l : List Int) (j i : Nat) (hj : j ≤ l.length) (hi : l.length ≤ i + j) : tabC l j i = cst l i := by
  unfold cst
  have := tabC_stay l i j (l.length - j) hi (by omega)
  rw [show j + (l.length - j) = l.length by omega] at this
  exact this.symm
def best (l : List Int) (a : Nat) : Int × Nat := opt (cst l) a ((longest l a).1 - 2)
theorem tab_opt (l : List Int) (j : Nat) (hj : j < l.length) : opt (tabC l j) (l.length - 1 - j) ((longest l (l.length - 1 - j)).1 - 2) = best l (l.length - 1 - j) :=
  opt_congr _ _ _ _ fun i hi => tabC_cst l j i (by omega) (by omega)
theorem cst_best (l : List Int) (a : Nat) (h : a < l.length) : cst l a = (best l a).1 := by
  have h1 := tabC_cst l (l.length - 1 - a + 1) a (by omega) (by omega)
  rw [← h1]
  simp only [tabC]
  rw [if_pos (by omega), tab_opt l _ (by omega), show l.length - 1 - (l.length - 1 - a) = a by omega]
/-- What is chosen at a place. -/
theorem best_ok (l : List Int) (a : Nat) (h : a < l.length) : ((best l a).2 = 0 ∧ cst l a = 9 + cst l (a + 1) ∨ 3 ≤ (best l a).2 ∧ (best l a).2 ≤ (longest l a).1 ∧ cst l a = 11 + cst l (a + (best l a).2)) ∧
    cst l a ≤ 9 + cst l (a + 1) ∧ ∀ n, 3 ≤ n → n ≤ (longest l a).1 → cst l a ≤ 11 + cst l (a + n) := by
  obtain ⟨h1, h2, h3⟩ := opt_ok (cst l) a ((longest l a).1 - 2)
  have hl := (longest_len l a (by omega)).1
  rw [cst_best l a h]
  unfold best
  refine ⟨?_, h2, fun n g1 g2 => h3 n g1 (by omega)⟩
  rcases h1 with h1 | ⟨a1, a2, a3⟩
  · exact .inl h1
  · exact .inr ⟨a1, by omega, a3⟩
theorem cst_le (l : List Int) : ∀ d a, a + d = l.length → cst l a ≤ 9 * (d : Int) ∧ 0 ≤ cst l a := by
  intro d
  induction d using Nat.strongRecOn with
  | _ d ih =>
    intro a ha
    rcases Nat.eq_zero_or_pos d with h0 | h0
    · subst h0
      rw [cst_end l a (by omega)]
      simp
    · obtain ⟨h1, h2, _⟩ := best_ok l a (by omega)
      have := ih (d - 1) (by omega) (a + 1) (by omega)
      refine ⟨by omega, ?_⟩
      rcases h1 with ⟨_, e⟩ | ⟨g1, g2, e⟩
      · omega
      · have hl := (longest_len l a (by omega)).2.2
        have := ih (d - (best l a).2) (by omega) (a + (best l a).2) (by omega)
        omega

end Go.Proofs.Ytckndapolgajfaa.B
