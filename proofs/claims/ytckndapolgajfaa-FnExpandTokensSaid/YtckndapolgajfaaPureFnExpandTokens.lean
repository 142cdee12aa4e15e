/- The greedy tokens of what tokens expand to expand to it again, and there are as many bytes as the tokens say; at every code. -/
import Derived.Test.YtckndapolgajfaaLoops
import Derived.Test.YtckndapolgajfaaTokG
import Derived.Test.YtckndapolgajfaaTokF
import Derived.Test.YtckndapolgajfaaTokDrawT
import Derived.Test.YtckndapolgajfaaQ26
namespace Go.Proofs.Ytckndapolgajfaa.Pure
open Go.RowKit Go.Proofs.Ytckndapolgajfaa.Q Go.Proofs.Ytckndapolgajfaa.B Go.Proofs.YtckndapolgajfaaW.PrintWords Go.Proofs.YtckndapolgajfaaW.PrintLast Go.Proofs.YtckndapolgajfaaW.PrintMore
set_option linter.unusedVariables false

theorem spec_DrawExpandTokens_ok (l : List Int) (h : ∀ x ∈ l, (Lit.int .u8 x).wf = true) : ∃ v, Ev (fun k => spec_DrawExpandTokens.f k l) v ∧ v.length ≤ 1200 := by
  obtain ⟨b, hl, hb⟩ := newReader_ok l h
  obtain ⟨v, p', hv, g⟩ := anyTokens_ok b hb
  refine ⟨v, ?_, g⟩
  unfold spec_DrawExpandTokens.f
  rw [hl]
  simp only [Option.bind_some]
  rw [ev_bind_iff hv]
  exact Ev.now _
theorem expT_false : ∀ (ts : List S33) (x : List Int), ¬ (expT ts x).2 = true → (expT ts x).1 = [] := by
  intro ts
  induction ts with
  | nil => intro x h; exact absurd rfl h
  | cons t ts ih =>
    intro x h
    simp only [expT] at h ⊢
    by_cases c : okT (x.length : Int) t
    · rw [if_pos c] at h ⊢
      by_cases g : ((adv x t).length : Int) > 1200
      · rw [if_pos g]
      · rw [if_neg g] at h ⊢
        exact ih _ h
    · rw [if_neg c]
theorem span_le : ∀ (ts : List S33) (x : List Int), (expT ts x).2 = true → x.length ≤ 1200 → (∀ v ∈ x, 0 ≤ v ∧ v ≤ 255) → ∀ i, i ≤ ts.length → span (ts.take i) ≤ 1200 := by
  intro ts x h h1 h2 i hi
  obtain ⟨a1, a2, a3⟩ := exp_ok ts x h h1 h2
  have : span (ts.take i) ≤ span ts := by
    clear h a1 a2 a3 hi
    induction ts generalizing i with
    | nil => simp [span]
    | cons t ts ih =>
      cases i with
      | zero =>
        have := span_nonneg (t :: ts)
        have e : span (List.take 0 (t :: ts)) = 0 := rfl
        rw [e]
        omega
      | succ i =>
        have := ih i
        simp only [List.take_succ_cons, span]
        omega
  omega
theorem span_succ (ts : List S33) (i : Nat) (h : i < ts.length) : span (ts.take (i + 1)) = span (ts.take i) + mx 1 (rd_T33 ts (i : Int)).f1 := by
  rw [rdT_get ts i h]
  induction ts generalizing i with
  | nil => simp at h
  | cons t ts ih =>
    cases i with
    | zero => simp [span]
    | succ i =>
      simp only [List.take_succ_cons, span, List.getElem_cons_succ]
      rw [ih i (by simpa using h)]
      omega
theorem expand_l0 (ts : List S33) (l : List Int) (hn : ts.length ≤ 1200) (hs : ∀ i, i ≤ ts.length → span (ts.take i) ≤ 1200) (r : Bool)
    (hr : Ev (fun k => (impl_GreedyTokens.f k l).bind fun t => (impl_ExpandTokens.f k t).bind fun bt => (if bt.2 = true then ((laws_equalInts.f k bt.1 l).bind fun t => (if t = true then (some ((l.length : Int) == span ts)) else (some false))) else (some false))) r) :
    ∀ d i, i + d = ts.length → Ev (fun k => laws_FnExpandTokens.l0 k ts l (span (ts.take i)) (i : Int)) r := by
  intro d
  induction d with
  | zero =>
    intro i hi
    have hi' : i = ts.length := by omega
    subst hi'
    rw [List.take_of_length_le (Nat.le_refl _)]
    refine Ev.step (fun k => ?_) hr
    simp only [laws_FnExpandTokens.l0]
    rw [if_neg (show ¬ (ts.length : Int) < (ts.length : Int) by omega)]
  | succ d ih =>
    intro i hi
    have h1 := ih (i + 1) (by omega)
    have h2 := hs (i + 1) (by omega)
    have h3 := span_nonneg (ts.take i)
    have h4 : 1 ≤ mx 1 (rd_T33 ts (i : Int)).f1 := by unfold mx; split <;> omega
    rw [span_succ ts i (by omega)] at h1 h2
    have e1 : wrap64 (span (ts.take i) + mx 1 (rd_T33 ts (i : Int)).f1) = span (ts.take i) + mx 1 (rd_T33 ts (i : Int)).f1 := by
      generalize mx 1 (rd_T33 ts (i : Int)).f1 = a at h2 h4
      generalize span (ts.take i) = b at h2 h3
      exact w64 (by omega) (by omega)
    have e2 : wrap64 ((i : Int) + 1) = ((i + 1 : Nat) : Int) := up1 i (by omega)
    refine Ev.step (fun k => ?_) h1
    simp only [laws_FnExpandTokens.l0, e1, e2]
    rw [if_pos (show (i : Int) < (ts.length : Int) by omega), if_pos (Int.natCast_nonneg i)]
theorem FnExpandTokens : laws_FnExpandTokens.Pure := by
  intro l0 _ _ hw
  refine Ev.rounds (g := fun k => laws_FnExpandTokens.f k l0) (r := true) ?_
  unfold laws_FnExpandTokens.f
  by_cases hl : (l0.length : Int) > 1048576
  · exact ev_pos hl (Ev.now _)
  refine ev_neg hl ?_
  obtain ⟨ts, hd, hn⟩ := spec_DrawExpandTokens_ok l0 hw
  have hx1 := implExp_ev ts (by omega)
  have hx2 := specExp_ev ts (by omega)
  have hlen : (expT ts []).1.length ≤ 1200 := by
    by_cases h : (expT ts []).2 = true
    · exact (exp_ok ts [] h (by simp) (by simp)).2.1
    · rw [expT_false ts [] h]
      simp
  rw [ev_bind_iff hd, ev_bind_iff hx1, ev_bind_iff hx2, ev_bind_iff (laws_equalInts_same _ (by omega))]
  refine ev_pos rfl (ev_neg (by simp) ?_)
  by_cases h : (expT ts []).2 = true
  · obtain ⟨a1, a2, a3⟩ := exp_ok ts [] h (by simp) (by simp)
    have hb : okBytes (expT ts []).1 = true := okBytes_of a2 a1
    have hs := span_le ts [] h (by simp) (by simp)
    have eg : greedyP (expT ts []).1 = toks (expT ts []).1 (longest (expT ts []).1) (expT ts []).1.length 0 := if_pos hb
    have hg := greedyP_length (expT ts []).1
    have hx : expT (greedyP (expT ts []).1) [] = ((expT ts []).1, true) := by
      rw [eg]
      exact exp_toks _ (longest _) (fit_g _) a1 a2 _ 0 (by omega) (by omega)
    have hi := implExp_ev (greedyP (expT ts []).1) (by omega)
    rw [hx] at hi
    rw [h]
    generalize (expT ts []).1 = l at *
    refine Ev.step (f := fun k => laws_FnExpandTokens.l0 k ts l (span (ts.take 0)) ((0 : Nat) : Int)) (fun k => by simp only [laws_FnExpandTokens.j0, Bool.not_true, Bool.false_eq_true, if_false]; rfl) ?_
    refine expand_l0 ts l hn hs true ?_ ts.length 0 (by omega)
    rw [ev_bind_iff (implGreedy_ev l), ev_bind_iff hi]
    refine ev_pos rfl ?_
    rw [ev_bind_iff (laws_equalInts_same l (by omega))]
    refine ev_pos rfl (ev_now ?_)
    simp only [List.length_nil, Int.natCast_zero, Int.zero_add] at a3
    simpa using a3
  · have hf := Bool.eq_false_iff.2 h
    rw [hf]
    refine Ev.step (f := fun k => (laws_equalInts.f k (expT ts []).1 (expT ts []).1).bind fun t => (if t = true then (some (false == false)) else (some false))) (fun k => by simp only [laws_FnExpandTokens.j0, Bool.not_false, if_true]) ?_
    rw [ev_bind_iff (laws_equalInts_same _ (by omega))]
    exact ev_pos rfl (Ev.now _)

end Go.Proofs.Ytckndapolgajfaa.Pure
