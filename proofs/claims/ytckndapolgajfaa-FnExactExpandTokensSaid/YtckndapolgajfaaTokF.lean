/- What tokens expand to, in the reference. No conditions. -/
import Derived.Test.YtckndapolgajfaaTokE
import Derived.Test.YtckndapolgajfaaQ15
namespace Go.Proofs.Ytckndapolgajfaa.B
open Go.RowKit Go.Proofs.Ytckndapolgajfaa.Q Go.Proofs.YtckndapolgajfaaW.PrintWords Go.Proofs.YtckndapolgajfaaW.PrintLast Go.Proofs.YtckndapolgajfaaW.PrintMore
set_option linter.unusedVariables false

theorem validToken_eq (t : S33) (n : Int) : spec_validToken.f t.f0 t.f1 t.f2 n = some (decide (okT n t)) := by
  have hm : (1 ≤ t.f2 ∧ t.f2 ≤ mn n 64) ↔ (1 ≤ t.f2 ∧ t.f2 ≤ 64 ∧ t.f2 ≤ n) := by
    unfold mn
    split <;> omega
  unfold spec_validToken.f
  by_cases a : t.f1 = 0
  · rw [if_pos a]
    by_cases b : t.f2 = 0
    · rw [if_pos b, inRange_eq]
      simp only [Option.bind_some]
      congr 1
      rw [Bool.eq_iff_iff]
      simp only [Bool.and_eq_true, decide_eq_true_eq]
      unfold okT
      constructor
      · exact fun h => .inl ⟨a, b, h⟩
      · rintro (h | h)
        · exact h.2.2
        · exact absurd h.2.1 (by rw [a]; omega)
    · rw [if_neg b]
      congr 1
      rw [eq_comm, decide_eq_false_iff_not]
      unfold okT
      omega
  · rw [if_neg a]
    by_cases b : t.f0 = 0
    · rw [if_pos b, inRange_eq]
      simp only [Option.bind_some]
      by_cases c : (decide (3 ≤ t.f1) && decide (t.f1 ≤ 18)) = true
      · rw [if_pos c, inRange_eq]
        simp only [Option.bind_some]
        congr 1
        rw [Bool.eq_iff_iff]
        simp only [Bool.and_eq_true, decide_eq_true_eq] at c ⊢
        rw [hm]
        unfold okT
        omega
      · rw [if_neg c]
        congr 1
        rw [eq_comm, decide_eq_false_iff_not]
        simp only [Bool.and_eq_true, decide_eq_true_eq] at c
        unfold okT
        omega
    · rw [if_neg b]
      congr 1
      rw [eq_comm, decide_eq_false_iff_not]
      unfold okT
      omega
theorem spec_cpy (ts : List S33) (i : Nat) (hi : i < ts.length) (hN : (rd_T33 ts (i : Int)).f1 ≤ 1000) (hb0 : 1 ≤ (rd_T33 ts (i : Int)).f2 ∨ (rd_T33 ts (i : Int)).f1 = 0) (r : List Int × Bool) : ∀ (n c : Nat) (x : List Int), (c : Int) + n = (rd_T33 ts (i : Int)).f1 → ((rd_T33 ts (i : Int)).f2 ≤ (x.length : Int)) → x.length + n ≤ 10000 →
    Ev (fun k => if ((cpy (rd_T33 ts (i : Int)).f2 n x).length : Int) > 1200 then (some (([] : List Int), false)) else (spec_ExpandTokens.l0 k ts (cpy (rd_T33 ts (i : Int)).f2 n x) (wrap64 ((i : Int) + 1)))) r →
    Ev (fun k => spec_ExpandTokens.l1 k ts x (i : Int) (c : Int)) r := by
  generalize ht : rd_T33 ts (i : Int) = t at hN hb0 ⊢
  intro n
  induction n with
  | zero =>
    intro c x hc h1 h2 h
    refine Ev.step (fun k => ?_) h
    simp only [spec_ExpandTokens.l1, ht]
    rw [if_pos (Int.natCast_nonneg i), if_pos (show (i : Int) < (ts.length : Int) by omega), if_neg (show ¬ (c : Int) < t.f1 by omega)]
    rfl
  | succ n ih =>
    intro c x hc h1 h2 h
    have e1 : wrap64 ((x.length : Int) - t.f2) = (x.length : Int) - t.f2 := w64 (by omega) (by omega)
    have e2 := up1 c (by omega)
    refine Ev.step (fun k => ?_) (ih (c + 1) (x ++ [rd x ((x.length : Int) - t.f2)]) (by omega) (by rw [List.length_append]; simp only [List.length_singleton]; omega) (by rw [List.length_append]; simp only [List.length_singleton]; omega) h)
    simp only [spec_ExpandTokens.l1, ht, e1, e2]
    rw [if_pos (Int.natCast_nonneg i), if_pos (show (i : Int) < (ts.length : Int) by omega), if_pos (show (c : Int) < t.f1 by omega), if_pos (show 0 ≤ (x.length : Int) - t.f2 by omega), if_pos (show (x.length : Int) - t.f2 < (x.length : Int) by omega), if_pos (show x.length < 17592186044416 by omega)]
theorem specExp_loop (ts : List S33) (hn : ts.length ≤ 1500000) : ∀ d i x, i + d = ts.length → x.length ≤ 1200 → Ev (fun k => spec_ExpandTokens.l0 k ts x (i : Int)) (expT (ts.drop i) x) := by
  intro d
  induction d with
  | zero =>
    intro i x hi hx
    rw [List.drop_of_length_le (by omega)]
    refine Ev.step (f := fun _ => some (x, true)) (fun k => ?_) (Ev.now _)
    simp only [spec_ExpandTokens.l0]
    rw [if_neg (show ¬ (i : Int) < (ts.length : Int) by omega)]
  | succ d ih =>
    intro i x hi hx
    have hlt : i < ts.length := by omega
    have hi1 := up1 i (by omega)
    rw [drop_tok ts i hlt]
    simp only [expT]
    have hcp := spec_cpy ts i hlt
    by_cases ho : okT (x.length : Int) (rd_T33 ts (i : Int))
    · rw [if_pos ho]
      by_cases hz : (rd_T33 ts (i : Int)).f1 = 0
      · have ha : adv x (rd_T33 ts (i : Int)) = x ++ [(rd_T33 ts (i : Int)).f0] := by unfold adv; rw [if_pos hz]
        have h2 : (rd_T33 ts (i : Int)).f2 = 0 := by rcases ho with ⟨_, h, _⟩ | ⟨_, h, _⟩ <;> omega
        rw [ha]
        refine Ev.step (f := fun k => spec_ExpandTokens.j1 k ts (x ++ [(rd_T33 ts (i : Int)).f0]) (i : Int)) (fun k => ?_) ?_
        · simp only [spec_ExpandTokens.l0, validToken_eq, Option.bind_some]
          rw [if_pos (show (i : Int) < (ts.length : Int) by omega), if_pos (Int.natCast_nonneg i), if_pos (decide_eq_true ho), if_pos hz, if_pos (show x.length < 17592186044416 by omega)]
        refine Ev.step (f := fun k => spec_ExpandTokens.l1 k ts (x ++ [(rd_T33 ts (i : Int)).f0]) (i : Int) ((0 : Nat) : Int)) (fun k => by simp only [spec_ExpandTokens.j1]; rfl) ?_
        refine hcp (by omega) (.inr hz) _ 0 0 _ (by omega) (by rw [h2]; exact Int.natCast_nonneg _) (by rw [List.length_append]; simp only [List.length_singleton]; omega) ?_
        rw [hi1]
        simp only [cpy]
        by_cases g : ((x ++ [(rd_T33 ts (i : Int)).f0]).length : Int) > 1200
        · rw [if_pos g]
          exact ev_pos g (Ev.now _)
        · rw [if_neg g]
          exact ev_neg g (ih (i + 1) _ (by omega) (by omega))
      · have ha : adv x (rd_T33 ts (i : Int)) = cpy (rd_T33 ts (i : Int)).f2 (rd_T33 ts (i : Int)).f1.toNat x := by unfold adv; rw [if_neg hz]
        have hc : cop (x.length : Int) (rd_T33 ts (i : Int)) := ho.elim (fun h => absurd h.1 hz) id
        obtain ⟨c0, c1, c2, c3, c4, c5⟩ := hc
        rw [ha]
        refine Ev.step (f := fun k => spec_ExpandTokens.j1 k ts x (i : Int)) (fun k => ?_) ?_
        · simp only [spec_ExpandTokens.l0, validToken_eq, Option.bind_some]
          rw [if_pos (show (i : Int) < (ts.length : Int) by omega), if_pos (Int.natCast_nonneg i), if_pos (decide_eq_true ho), if_neg hz]
        refine Ev.step (f := fun k => spec_ExpandTokens.l1 k ts x (i : Int) ((0 : Nat) : Int)) (fun k => by simp only [spec_ExpandTokens.j1]; rfl) ?_
        refine hcp (by omega) (.inl c3) _ (rd_T33 ts (i : Int)).f1.toNat 0 x (by omega) c5 (by omega) ?_
        rw [hi1]
        by_cases g : ((cpy (rd_T33 ts (i : Int)).f2 (rd_T33 ts (i : Int)).f1.toNat x).length : Int) > 1200
        · rw [if_pos g]
          exact ev_pos g (Ev.now _)
        · rw [if_neg g]
          exact ev_neg g (ih (i + 1) _ (by omega) (by omega))
    · rw [if_neg ho]
      refine Ev.step (f := fun _ => some (([] : List Int), false)) (fun k => ?_) (Ev.now _)
      simp only [spec_ExpandTokens.l0, validToken_eq, Option.bind_some]
      rw [if_pos (show (i : Int) < (ts.length : Int) by omega), if_pos (Int.natCast_nonneg i), if_neg (by simpa using ho)]
theorem specExp_ev (ts : List S33) (hn : ts.length ≤ 1500000) : Ev (fun k => spec_ExpandTokens.f k ts) (expT ts []) := by
  have := specExp_loop ts hn ts.length 0 [] (by omega) (by simp)
  rw [List.drop_zero] at this
  unfold spec_ExpandTokens.f
  exact this

end Go.Proofs.Ytckndapolgajfaa.B
