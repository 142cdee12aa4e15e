/- Tokens, in plain lists: what a chooser gives, what they cost and what they expand to. No conditions. -/
import Derived.Test.YtckndapolgajfaaMatch
import Derived.Test.YtckndapolgajfaaQ0
namespace Go.Proofs.Ytckndapolgajfaa.B
open Go.RowKit Go.Proofs.Ytckndapolgajfaa.Q Go.Proofs.YtckndapolgajfaaW.PrintWords Go.Proofs.YtckndapolgajfaaW.PrintLast Go.Proofs.YtckndapolgajfaaW.PrintMore
set_option linter.unusedVariables false

theorem getD_lt (l : List Int) (i : Nat) (h : i < l.length) : l.getD i 0 = l[i] := by simp [List.getD, h]
theorem rdT_get (ts : List S33) (i : Nat) (h : i < ts.length) : rd_T33 ts (i : Int) = ts[i] := by simp [rd_T33, h]

/-! ### Tokens that a chooser gives -/
/-- From place a on; ch tells the length (0: a byte) and the distance at a place. -/
def toks (l : List Int) (ch : Nat → Nat × Nat) : Nat → Nat → List S33
  | 0, _ => []
  | d + 1, a => if a < l.length then (if (ch a).1 = 0 then ⟨rd l a, 0, 0⟩ :: toks l ch d (a + 1) else ⟨0, ((ch a).1 : Int), ((ch a).2 : Int)⟩ :: toks l ch d (a + (ch a).1)) else []
theorem toks_length (l : List Int) (ch : Nat → Nat × Nat) : ∀ d a, (toks l ch d a).length ≤ d := by
  intro d
  induction d with
  | zero => intro a; simp [toks]
  | succ d ih =>
    intro a
    simp only [toks]
    split
    · split
      · have := ih (a + 1)
        simp only [List.length_cons]
        omega
      · have := ih (a + (ch a).1)
        simp only [List.length_cons]
        omega
    · simp
/-- Every match that is chosen lies earlier and is equal. -/
def fit (l : List Int) (ch : Nat → Nat × Nat) : Prop := ∀ a, a < l.length → (ch a).1 = 0 ∨ 3 ≤ (ch a).1 ∧ (ch a).1 ≤ 18 ∧ 1 ≤ (ch a).2 ∧ (ch a).2 ≤ 64 ∧ (ch a).2 ≤ a ∧ (ch a).1 ≤ mlen l a (ch a).2
def bch (l : List Int) (a : Nat) : Nat × Nat := if (best l a).2 = 0 then (0, 0) else ((best l a).2, (longest l a).2)
theorem fit_g (l : List Int) : fit l (longest l) := by
  intro a h
  rcases (longest_ok l a).1 with e | ⟨g1, g2, g3, g4, g5, g6⟩
  · rw [e]
    exact .inl rfl
  · exact .inr ⟨g1, g2, g3, g4, g5, by omega⟩
theorem fit_b (l : List Int) : fit l (bch l) := by
  intro a h
  unfold bch
  by_cases c : (best l a).2 = 0
  · rw [if_pos c]
    exact .inl rfl
  · rw [if_neg c]
    obtain ⟨h1, _⟩ := best_ok l a h
    rcases h1 with ⟨e, _⟩ | ⟨g1, g2, _⟩
    · exact absurd e c
    · rcases (longest_ok l a).1 with e | ⟨k1, k2, k3, k4, k5, k6⟩
      · rw [e] at g2
        simp only at g2
        omega
      · exact .inr ⟨g1, by simp only; omega, k3, k4, k5, by simp only; omega⟩
theorem fit_len {l : List Int} {ch : Nat → Nat × Nat} (hf : fit l ch) {a : Nat} (h : a < l.length) (h0 : (ch a).1 ≠ 0) : a + (ch a).1 ≤ l.length := by
  rcases hf a h with e | ⟨g1, g2, g3, g4, g5, g6⟩
  · exact absurd e h0
  · have := mlen_end l a (ch a).2 (by omega)
    omega
theorem toks_end (l : List Int) (ch : Nat → Nat × Nat) (d a : Nat) (h : l.length ≤ a) : toks l ch d a = [] := by
  cases d with
  | zero => rfl
  | succ d => simp only [toks]; rw [if_neg (by omega)]

/-! ### Costs -/
def cost1 (t : S33) : Int := if t.f1 = 0 then 9 else 11
def cost : List S33 → Int
  | [] => 0
  | t :: ts => cost1 t + cost ts
theorem cost_append (a b : List S33) : cost (a ++ b) = cost a + cost b := by
  induction a with
  | nil => simp [cost]
  | cons t ts ih => simp only [List.cons_append, cost, ih]; omega
theorem cost_bound (ts : List S33) : 0 ≤ cost ts ∧ cost ts ≤ 11 * (ts.length : Int) := by
  induction ts with
  | nil => simp [cost]
  | cons t ts ih =>
    simp only [cost, cost1, List.length_cons]
    split <;> omega
theorem cost_best (l : List Int) : ∀ d a, l.length ≤ a + d → cost (toks l (bch l) d a) = cst l a := by
  intro d
  induction d with
  | zero => intro a h; simp only [toks, cost]; rw [cst_end l a (by omega)]
  | succ d ih =>
    intro a h
    by_cases ha : a < l.length
    · obtain ⟨h1, _⟩ := best_ok l a ha
      simp only [toks]
      rw [if_pos ha]
      by_cases c : (best l a).2 = 0
      · have e : bch l a = (0, 0) := by unfold bch; rw [if_pos c]
        rw [e, if_pos rfl]
        simp only [cost, cost1, if_true]
        rw [ih (a + 1) (by omega)]
        rcases h1 with ⟨_, g⟩ | ⟨g, _⟩ <;> omega
      · have e : bch l a = ((best l a).2, (longest l a).2) := by unfold bch; rw [if_neg c]
        rw [e, if_neg c]
        simp only [cost, cost1]
        rw [if_neg (by omega), ih _ (by omega)]
        rcases h1 with ⟨g, _⟩ | ⟨_, _, g⟩ <;> omega
    · rw [toks_end l _ _ _ (by omega), cst_end l a (by omega)]
      rfl
theorem cost_greedy (l : List Int) : ∀ d a, l.length ≤ a + d → cst l a ≤ cost (toks l (longest l) d a) := by
  intro d
  induction d with
  | zero => intro a h; simp only [toks, cost]; rw [cst_end l a (by omega)]; omega
  | succ d ih =>
    intro a h
    by_cases ha : a < l.length
    · obtain ⟨_, h2, h3⟩ := best_ok l a ha
      simp only [toks]
      rw [if_pos ha]
      by_cases c : (longest l a).1 = 0
      · rw [if_pos c]
        simp only [cost, cost1, if_true]
        have := ih (a + 1) (by omega)
        omega
      · rw [if_neg c]
        simp only [cost, cost1]
        rw [if_neg (by omega)]
        have := ih (a + (longest l a).1) (by omega)
        have hl := (longest_len l a (by omega)).1
        have := h3 (longest l a).1 (by omega) (by omega)
        omega
    · rw [toks_end l _ _ _ (by omega), cst_end l a (by omega)]
      exact Int.le_refl _

/-! ### Expanding -/
def cpy (b : Int) : Nat → List Int → List Int
  | 0, x => x
  | n + 1, x => cpy b n (x ++ [rd x ((x.length : Int) - b)])
def okT (n : Int) (t : S33) : Prop := (t.f1 = 0 ∧ t.f2 = 0 ∧ 0 ≤ t.f0 ∧ t.f0 ≤ 255) ∨ (t.f0 = 0 ∧ 3 ≤ t.f1 ∧ t.f1 ≤ 18 ∧ 1 ≤ t.f2 ∧ t.f2 ≤ 64 ∧ t.f2 ≤ n)
instance (n : Int) (t : S33) : Decidable (okT n t) := by unfold okT; infer_instance
def adv (x : List Int) (t : S33) : List Int := if t.f1 = 0 then x ++ [t.f0] else cpy t.f2 t.f1.toNat x
def expT : List S33 → List Int → List Int × Bool
  | [], x => (x, true)
  | t :: ts, x => if okT (x.length : Int) t then (if ((adv x t).length : Int) > 1200 then ([], false) else expT ts (adv x t)) else ([], false)
theorem cpy_length (b : Int) : ∀ n x, (cpy b n x).length = x.length + n := by
  intro n
  induction n with
  | zero => intro x; rfl
  | succ n ih => intro x; simp only [cpy]; rw [ih]; simp; omega
theorem cpy_take (l : List Int) (b : Nat) : ∀ n a, 1 ≤ b → b ≤ a → (∀ i, i < n → a + i < l.length ∧ l.getD (a + i) 0 = l.getD (a + i - b) 0) → cpy b n (l.take a) = l.take (a + n) := by
  intro n
  induction n with
  | zero => intro a _ _ _; rfl
  | succ n ih =>
    intro a h1 h2 h
    have h00 := h 0 (by omega)
    simp only [Nat.add_zero] at h00
    obtain ⟨ha, hg⟩ := h00
    have hl : (l.take a).length = a := by rw [List.length_take]; omega
    have e : l.take a ++ [rd (l.take a) (((l.take a).length : Int) - b)] = l.take (a + 1) := by
      rw [hl, show (a : Int) - (b : Int) = ((a - b : Nat) : Int) by omega, rd_nat, List.take_succ_eq_append_getElem ha]
      have g : (l.take a).getD (a - b) 0 = l[a] := by
        have g1 := hg
        rw [getD_lt _ _ ha, getD_lt _ _ (by omega)] at g1
        rw [getD_lt _ _ (by omega), List.getElem_take]
        exact g1.symm
      rw [g]
    simp only [cpy]
    rw [e, ih (a + 1) h1 (by omega) (fun i hi => by
      have := h (i + 1) (by omega)
      rw [show a + 1 + i = a + (i + 1) by omega]
      exact this)]
    rw [show a + 1 + n = a + (n + 1) by omega]
theorem exp_toks (l : List Int) (ch : Nat → Nat × Nat) (hf : fit l ch) (hb : ∀ x ∈ l, 0 ≤ x ∧ x ≤ 255) (hn : l.length ≤ 1200) : ∀ d a, a ≤ l.length → l.length ≤ a + d → expT (toks l ch d a) (l.take a) = (l, true) := by
  intro d
  induction d with
  | zero => intro a h1 h2; simp only [toks, expT]; rw [List.take_of_length_le (by omega)]
  | succ d ih =>
    intro a h1 h2
    by_cases ha : a < l.length
    · have hl : (l.take a).length = a := by rw [List.length_take]; omega
      simp only [toks]
      rw [if_pos ha]
      by_cases c : (ch a).1 = 0
      · rw [if_pos c]
        have hv : rd l (a : Int) = l[a] := rd_get l a ha
        have := hb _ (List.getElem_mem ha)
        simp only [expT]
        have e : adv (l.take a) ⟨rd l a, 0, 0⟩ = l.take (a + 1) := by
          simp only [adv, if_true]
          rw [hv, List.take_succ_eq_append_getElem ha]
        rw [if_pos (.inl ⟨rfl, rfl, by simp only [hv]; omega, by simp only [hv]; omega⟩), e, if_neg (by rw [List.length_take]; omega)]
        exact ih (a + 1) (by omega) (by omega)
      · rw [if_neg c]
        have hlen := fit_len hf ha c
        rcases hf a ha with e | ⟨g1, g2, g3, g4, g5, g6⟩
        · exact absurd e c
        · simp only [expT]
          have e : adv (l.take a) ⟨0, ((ch a).1 : Int), ((ch a).2 : Int)⟩ = l.take (a + (ch a).1) := by
            simp only [adv]
            rw [if_neg (by omega), Int.toNat_natCast]
            exact cpy_take l (ch a).2 (ch a).1 a g3 g5 (fun i hi => mlen_eq l a (ch a).2 i (by omega))
          rw [if_pos (.inr ⟨rfl, by simp only; omega, by simp only; omega, by simp only; omega, by simp only; omega, by simp only; omega⟩), e, if_neg (by rw [List.length_take]; omega)]
          exact ih _ hlen (by omega)
    · rw [toks_end l _ _ _ (by omega), List.take_of_length_le (by omega)]
      rfl
/-- How many bytes the tokens stand for. -/
def span : List S33 → Int
  | [] => 0
  | t :: ts => mx 1 t.f1 + span ts
theorem cpy_bytes (b : Int) : ∀ n (x : List Int), 1 ≤ b → b ≤ (x.length : Int) → (∀ v ∈ x, 0 ≤ v ∧ v ≤ 255) → ∀ v ∈ cpy b n x, 0 ≤ v ∧ v ≤ 255 := by
  intro n
  induction n with
  | zero => intro x _ _ h; exact h
  | succ n ih =>
    intro x h1 h2 h
    simp only [cpy]
    refine ih _ h1 (by simp; omega) fun v hv => ?_
    rcases List.mem_append.1 hv with hv | hv
    · exact h v hv
    · simp only [List.mem_singleton] at hv
      subst hv
      exact rd_bytes h _ (by omega) (by omega)
theorem adv_ok (x : List Int) (t : S33) (h : okT (x.length : Int) t) (hb : ∀ v ∈ x, 0 ≤ v ∧ v ≤ 255) : (∀ v ∈ adv x t, 0 ≤ v ∧ v ≤ 255) ∧ ((adv x t).length : Int) = x.length + mx 1 t.f1 := by
  unfold adv
  rcases h with ⟨h1, h2, h3, h4⟩ | ⟨h0, h1, h2, h3, h4, h5⟩
  · rw [if_pos h1, h1, mx_l (by omega)]
    refine ⟨fun v hv => ?_, by simp⟩
    rcases List.mem_append.1 hv with hv | hv
    · exact hb v hv
    · simp only [List.mem_singleton] at hv
      subst hv
      exact ⟨h3, h4⟩
  · rw [if_neg (by omega), mx_r (by omega)]
    refine ⟨cpy_bytes _ _ _ h3 h5 hb, ?_⟩
    rw [cpy_length]
    omega
theorem exp_ok : ∀ (ts : List S33) (x : List Int), (expT ts x).2 = true → x.length ≤ 1200 → (∀ v ∈ x, 0 ≤ v ∧ v ≤ 255) → (∀ v ∈ (expT ts x).1, 0 ≤ v ∧ v ≤ 255) ∧ (expT ts x).1.length ≤ 1200 ∧ ((expT ts x).1.length : Int) = x.length + span ts := by
  intro ts
  induction ts with
  | nil => intro x _ h1 h2; exact ⟨h2, h1, by simp [expT, span]⟩
  | cons t ts ih =>
    intro x h h1 h2
    simp only [expT] at h ⊢
    by_cases c : okT (x.length : Int) t
    · rw [if_pos c] at h ⊢
      by_cases g : ((adv x t).length : Int) > 1200
      · rw [if_pos g] at h
        exact absurd h (by simp)
      · rw [if_neg g] at h ⊢
        obtain ⟨a1, a2⟩ := adv_ok x t c h2
        obtain ⟨b1, b2, b3⟩ := ih (adv x t) h (by omega) a1
        refine ⟨b1, b2, ?_⟩
        simp only [span]
        omega
    · rw [if_neg c] at h
      exact absurd h (by simp)
theorem span_nonneg (ts : List S33) : (ts.length : Int) ≤ span ts := by
  induction ts with
  | nil => simp [span]
  | cons t ts ih =>
    simp only [span, List.length_cons]
    have : 1 ≤ mx 1 t.f1 := by unfold mx; split <;> omega
    omega

end Go.Proofs.Ytckndapolgajfaa.B
