/- What tokens expand to, in the program. No conditions. -/
import Derived.Test.YtckndapolgajfaaTokL
import Derived.Test.YtckndapolgajfaaQ10
namespace Go.Proofs.Ytckndapolgajfaa.B
open Go.RowKit Go.Proofs.Ytckndapolgajfaa.Q Go.Proofs.YtckndapolgajfaaW.PrintWords Go.Proofs.YtckndapolgajfaaW.PrintLast Go.Proofs.YtckndapolgajfaaW.PrintMore
set_option linter.unusedVariables false

/-! ### Expanding -/
def lit (t : S33) : Prop := t.f1 = 0 ∧ t.f2 = 0 ∧ 0 ≤ t.f0 ∧ t.f0 ≤ 255
def cop (n : Int) (t : S33) : Prop := t.f0 = 0 ∧ 3 ≤ t.f1 ∧ t.f1 ≤ 18 ∧ 1 ≤ t.f2 ∧ t.f2 ≤ 64 ∧ t.f2 ≤ n
instance (t : S33) : Decidable (lit t) := by unfold lit; infer_instance
instance (n : Int) (t : S33) : Decidable (cop n t) := by unfold cop; infer_instance
theorem lit_eq {β : Type} (J : Bool → β) (t : S33) : (if t.f1 = 0 then (if t.f2 = 0 then (if t.f0 ≥ 0 then J (decide (t.f0 ≤ 255)) else J false) else J false) else J false) = J (decide (lit t)) := by
  by_cases a : t.f1 = 0 <;> by_cases b : t.f2 = 0 <;> by_cases c : t.f0 ≥ 0 <;> simp [a, b, c, lit]
theorem cop_eq {β : Type} (J : Bool → β) (N : β) (n : Int) (t : S33) (h : J false = N) : (if t.f0 = 0 then (if t.f1 ≥ 3 then (if t.f1 ≤ 18 then (if t.f2 ≥ 1 then (if t.f2 ≤ 64 then J (decide (t.f2 ≤ n)) else J false) else J false) else J false) else J false) else J false) = J (decide (cop n t)) := by
  by_cases a : t.f0 = 0 <;> by_cases b : t.f1 ≥ 3 <;> by_cases c : t.f1 ≤ 18 <;> by_cases d : t.f2 ≥ 1 <;> by_cases e : t.f2 ≤ 64 <;> simp [a, b, c, d, e, cop]
theorem drop_tok (ts : List S33) (i : Nat) (h : i < ts.length) : ts.drop i = rd_T33 ts (i : Int) :: ts.drop (i + 1) := by
  rw [List.drop_eq_getElem_cons h, rdT_get ts i h]
theorem impl_cpy (ts : List S33) (i : Nat) (t : S33) (hb0 : 1 ≤ t.f2) (N : Int) (hN : N ≤ 1000) (r : List Int × Bool) : ∀ (n c : Nat) (x : List Int), (c : Int) + n = N → t.f2 ≤ (x.length : Int) → x.length + n ≤ 10000 →
    Ev (fun k => if ((cpy t.f2 n x).length : Int) > 1200 then (some (([] : List Int), false)) else (impl_expandTokens.l0 k (cpy t.f2 n x) ts (ts.length : Int) (wrap64 ((i : Int) + 1)))) r →
    Ev (fun k => impl_expandTokens.l1 k x ts (ts.length : Int) (i : Int) N (c : Int) t.f0 t.f1 t.f2) r := by
  intro n
  induction n with
  | zero =>
    intro c x hc h1 h2 h
    refine Ev.step (fun k => ?_) h
    simp only [impl_expandTokens.l1]
    rw [if_neg (show ¬ (c : Int) < N by omega)]
    rfl
  | succ n ih =>
    intro c x hc h1 h2 h
    have e1 : wrap64 ((x.length : Int) - t.f2) = (x.length : Int) - t.f2 := w64 (by omega) (by omega)
    have e2 := up1 c (by omega)
    refine Ev.step (fun k => ?_) (ih (c + 1) (x ++ [rd x ((x.length : Int) - t.f2)]) (by omega) (by rw [List.length_append]; simp only [List.length_singleton]; omega) (by rw [List.length_append]; simp only [List.length_singleton]; omega) h)
    simp only [impl_expandTokens.l1, e1, e2]
    rw [if_pos (show (c : Int) < N by omega), if_pos (show 0 ≤ (x.length : Int) - t.f2 by omega), if_pos (show (x.length : Int) - t.f2 < (x.length : Int) by omega), if_pos (show x.length < 17592186044416 by omega)]
theorem implExp_loop (ts : List S33) (hn : ts.length ≤ 1500000) : ∀ d i x, i + d = ts.length → x.length ≤ 1200 → Ev (fun k => impl_expandTokens.l0 k x ts (ts.length : Int) (i : Int)) (expT (ts.drop i) x) := by
  intro d
  induction d with
  | zero =>
    intro i x hi hx
    rw [List.drop_of_length_le (by omega)]
    refine Ev.step (f := fun _ => some (x, true)) (fun k => ?_) (Ev.now _)
    simp only [impl_expandTokens.l0]
    rw [if_neg (show ¬ (i : Int) < (ts.length : Int) by omega)]
  | succ d ih =>
    intro i x hi hx
    have hlt : i < ts.length := by omega
    have hi1 := up1 i (by omega)
    rw [drop_tok ts i hlt]
    generalize ht : rd_T33 ts (i : Int) = t
    refine Ev.step (f := fun k => impl_expandTokens.j1 k x ts (ts.length : Int) (i : Int) (decide (lit t)) t.f0 t.f1 t.f2) (fun k => ?_) ?_
    · simp only [impl_expandTokens.l0, ht]
      rw [if_pos (show (i : Int) < (ts.length : Int) by omega), if_pos (Int.natCast_nonneg i), if_pos (show (i : Int) < (ts.length : Int) by omega)]
      exact lit_eq (fun b => impl_expandTokens.j1 k x ts (ts.length : Int) (i : Int) b t.f0 t.f1 t.f2) t
    by_cases hl : lit t
    · rw [decide_eq_true hl]
      have ho : okT (x.length : Int) t := .inl hl
      have ha : adv x t = x ++ [t.f0] := by unfold adv; rw [if_pos hl.1]
      simp only [expT]
      rw [if_pos ho, ha]
      refine Ev.step (f := fun k => if ((x ++ [t.f0]).length : Int) > 1200 then (some (([] : List Int), false)) else (impl_expandTokens.l0 k (x ++ [t.f0]) ts (ts.length : Int) ((i + 1 : Nat) : Int))) (fun k => ?_) ?_
      · simp only [impl_expandTokens.j1, if_true, Option.bind_some, hi1]
        rw [if_pos (show x.length < 17592186044416 by omega)]
      · by_cases g : ((x ++ [t.f0]).length : Int) > 1200
        · rw [if_pos g]
          exact ev_pos g (Ev.now _)
        · rw [if_neg g]
          exact ev_neg g (ih (i + 1) _ (by omega) (by omega))
    · rw [decide_eq_false hl]
      refine Ev.step (f := fun k => impl_expandTokens.j2 k x ts (ts.length : Int) (i : Int) (decide (cop (x.length : Int) t)) t.f0 t.f1 t.f2) (fun k => ?_) ?_
      · simp only [impl_expandTokens.j1, Bool.false_eq_true, if_false]
        exact cop_eq (fun b => impl_expandTokens.j2 k x ts (ts.length : Int) (i : Int) b t.f0 t.f1 t.f2) _ (x.length : Int) t rfl
      by_cases hc : cop (x.length : Int) t
      · rw [decide_eq_true hc]
        have ho : okT (x.length : Int) t := .inr hc
        obtain ⟨c0, c1, c2, c3, c4, c5⟩ := hc
        have ha : adv x t = cpy t.f2 t.f1.toNat x := by unfold adv; rw [if_neg (by omega)]
        simp only [expT]
        rw [if_pos ho, ha]
        refine Ev.step (f := fun k => impl_expandTokens.l1 k x ts (ts.length : Int) (i : Int) t.f1 ((0 : Nat) : Int) t.f0 t.f1 t.f2) (fun k => by simp only [impl_expandTokens.j2, if_true]; rfl) ?_
        refine impl_cpy ts i t c3 t.f1 (by omega) _ t.f1.toNat 0 x (by omega) c5 (by omega) ?_
        rw [hi1]
        by_cases g : ((cpy t.f2 t.f1.toNat x).length : Int) > 1200
        · rw [if_pos g]
          exact ev_pos g (Ev.now _)
        · rw [if_neg g]
          exact ev_neg g (ih (i + 1) _ (by omega) (by omega))
      · rw [decide_eq_false hc]
        have ho : ¬ okT (x.length : Int) t := fun h => h.elim hl hc
        simp only [expT]
        rw [if_neg ho]
        refine Ev.step (f := fun _ => some (([] : List Int), false)) (fun k => ?_) (Ev.now _)
        simp only [impl_expandTokens.j2, Bool.false_eq_true, if_false]
theorem implExp_ev (ts : List S33) (hn : ts.length ≤ 1500000) : Ev (fun k => impl_ExpandTokens.f k ts) (expT ts []) := by
  have := implExp_loop ts hn ts.length 0 [] (by omega) (by simp)
  rw [List.drop_zero] at this
  have hf : Ev (fun k => impl_expandTokens.f k ts) (expT ts []) := by
    unfold impl_expandTokens.f
    exact this
  unfold impl_ExpandTokens.f
  rw [ev_bind_iff hf]
  exact Ev.now _

end Go.Proofs.Ytckndapolgajfaa.B
