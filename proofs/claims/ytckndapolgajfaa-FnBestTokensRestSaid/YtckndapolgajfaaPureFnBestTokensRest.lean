/- The cheapest tokens cost what a table of the least costs says; at every code. -/
import Derived.Test.YtckndapolgajfaaLoops
import Derived.Test.YtckndapolgajfaaTokB
import Derived.Test.YtckndapolgajfaaTokC
import Derived.Test.YtckndapolgajfaaTokQ
import Derived.Test.YtckndapolgajfaaTokDraw
import Derived.Test.YtckndapolgajfaaQ19
namespace Go.Proofs.Ytckndapolgajfaa.Pure
open Go.RowKit Go.Proofs.Ytckndapolgajfaa.Q Go.Proofs.Ytckndapolgajfaa.B Go.Proofs.YtckndapolgajfaaW.PrintWords Go.Proofs.YtckndapolgajfaaW.PrintLast Go.Proofs.YtckndapolgajfaaW.PrintMore
set_option linter.unusedVariables false

theorem spec_DrawBestTokens_ok (l : List Int) (h : ∀ x ∈ l, (Lit.int .u8 x).wf = true) : ∃ v, Ev (fun k => spec_DrawBestTokens.f k l) v ∧ v.length ≤ 300 := by
  obtain ⟨b, hl, hb⟩ := newReader_ok l h
  obtain ⟨v, p', hv, g1, g2, g3⟩ := anyBytes_ok b hb
  refine ⟨v, ?_, g3⟩
  unfold spec_DrawBestTokens.f
  rw [hl]
  simp only [Option.bind_some]
  rw [ev_bind_iff hv]
  exact Ev.now _
theorem rest_l1 (l : List Int) (ts : List S33) (hn : l.length ≤ 1200) (j a : Nat) (hj : j < l.length) (ha : a = l.length - 1 - j) (r : Bool)
    (hr : Ev (fun k => laws_FnBestTokensRest.l0 k l ts (costs l (j + 1)) (wrap64 ((a : Int) - 1))) r) :
    ∀ d m, m + d = (longest l a).1 - 2 → Ev (fun k => laws_FnBestTokensRest.l1 k l ts (costs l j) (a : Int) ((longest l a).1 : Int) (opt (tabC l j) a m).1 ((m + 3 : Nat) : Int)) r := by
  have hl := longest_len l a (by omega)
  intro d
  induction d with
  | zero =>
    intro m hm
    have hm' : m = (longest l a).1 - 2 := by omega
    have e1 : (opt (tabC l j) a m).1 = (best l a).1 := by rw [hm', ha, tab_opt l j hj]
    refine Ev.step (fun k => ?_) hr
    simp only [laws_FnBestTokensRest.l1]
    rw [if_neg (show ¬ ((m + 3 : Nat) : Int) ≤ ((longest l a).1 : Int) by omega), if_pos (show 0 ≤ (a : Int) by omega), if_pos (show (a : Int) < ((costs l j).length : Int) by rw [costs_length]; omega), e1, Int.toNat_natCast]
    have e3 := costs_set l j hj
    rw [← ha] at e3
    rw [e3]
  | succ d ih =>
    intro m hm
    have f0 : a + (m + 3) ≤ l.length := by omega
    have f1 : ((m + 3 : Nat) : Int) ≤ ((longest l a).1 : Int) := by omega
    have f4 : l.length ≤ a + (m + 3) + j := by omega
    have f5 : ((a + (m + 3) : Nat) : Int) ≤ (l.length : Int) := by omega
    have ih := ih (m + 1) (by omega)
    clear hm hl
    have e1 : wrap64 ((a : Int) + ((m + 3 : Nat) : Int)) = ((a + (m + 3) : Nat) : Int) := by rw [w64 (by omega) (by omega)]; omega
    have e3 : wrap64 (((m + 3 : Nat) : Int) + 1) = ((m + 1 + 3 : Nat) : Int) := by rw [w64 (by omega) (by omega)]; omega
    have f3 : ((a + (m + 3) : Nat) : Int) < ((costs l j).length : Int) := by rw [costs_length]; omega
    have g0 := costs_get l j (a + (m + 3)) f0
    have hb := tab_bound l j (a + (m + 3)) (by omega) f4 f0
    have e2 : wrap64 (11 + tabC l j (a + (m + 3))) = 11 + tabC l j (a + (m + 3)) := by
      obtain ⟨b0, b1⟩ := hb
      generalize tabC l j (a + (m + 3)) = z at b0 b1
      exact w64 (by omega) (by omega)
    clear hb
    have ho : (opt (tabC l j) a (m + 1)).1 = mn (opt (tabC l j) a m).1 (11 + tabC l j (a + (m + 3))) := by
      have h : opt (tabC l j) a (m + 1) = if 11 + tabC l j (a + (m + 3)) ≤ (opt (tabC l j) a m).1 then (11 + tabC l j (a + (m + 3)), m + 3) else opt (tabC l j) a m := rfl
      rw [h]
      by_cases c : 11 + tabC l j (a + (m + 3)) ≤ (opt (tabC l j) a m).1
      · rw [if_pos c, mn_r c]
      · rw [if_neg c, mn_l (Int.le_of_lt (Int.not_le.1 c))]
    rw [ho] at ih
    refine Ev.step (fun k => ?_) ih
    simp only [laws_FnBestTokensRest.l1, e1, e3]
    rw [if_pos f1, if_pos f5, if_pos (Int.natCast_nonneg (a + (m + 3))), if_pos f3, g0, e2]
theorem rest_l0 (l : List Int) (h : okBytes l = true) (ts : List S33) (r : Bool) (hr : Ev (fun k => (impl_TokenCost.f k ts).bind fun c => some (c == cst l 0)) r) :
    ∀ d j, j + d = l.length → Ev (fun k => laws_FnBestTokensRest.l0 k l ts (costs l j) ((d : Int) - 1)) r := by
  have hn := (okBytes_ok h).1
  intro d
  induction d with
  | zero =>
    intro j hj
    have hj' : j = l.length := by omega
    subst hj'
    refine Ev.step (fun k => ?_) hr
    have e0 : rd (costs l l.length) 0 = cst l 0 := costs_get l l.length 0 (by omega)
    simp only [laws_FnBestTokensRest.l0]
    have p0 : (0 : Int) < ((costs l l.length).length : Int) := by rw [costs_length]; omega
    rw [if_neg (show ¬ ((0 : Nat) : Int) - 1 ≥ 0 by omega), e0]
    simp only [if_pos p0]
  | succ d ih =>
    intro j hj
    have ea : ((d + 1 : Nat) : Int) - 1 = ((l.length - 1 - j : Nat) : Int) := by omega
    have hd : d = l.length - 1 - j := by omega
    rw [ea]
    have hr := ih (j + 1) (by omega)
    rw [← w64 (x := (d : Int) - 1) (by omega) (by omega), hd] at hr
    have e1 : wrap64 (((l.length - 1 - j : Nat) : Int) + 1) = ((l.length - 1 - j + 1 : Nat) : Int) := by rw [w64 (by omega) (by omega)]; omega
    have hb := tab_bound l j (l.length - 1 - j + 1) (by omega) (by omega) (by omega)
    have e2 : wrap64 (9 + tabC l j (l.length - 1 - j + 1)) = 9 + tabC l j (l.length - 1 - j + 1) := w64 (by omega) (by omega)
    refine Ev.step (g := fun k => laws_FnBestTokensRest.l0 k l ts (costs l j) ((l.length - 1 - j : Nat) : Int)) (f := fun k => (impl_LongestMatch.f k l ((l.length - 1 - j : Nat) : Int)).bind fun bt => laws_FnBestTokensRest.l1 k l ts (costs l j) ((l.length - 1 - j : Nat) : Int) bt.1 (9 + tabC l j (l.length - 1 - j + 1)) 3) (fun k => by
      simp only [laws_FnBestTokensRest.l0, e1]
      have p0 : 0 ≤ ((l.length - 1 - j + 1 : Nat) : Int) := by omega
      have p1 : ((l.length - 1 - j + 1 : Nat) : Int) < ((costs l j).length : Int) := by rw [costs_length]; omega
      rw [if_pos (show ((l.length - 1 - j : Nat) : Int) ≥ 0 by omega)]
      simp only [if_pos p0, if_pos p1, costs_get l j (l.length - 1 - j + 1) (by omega), e2]) ?_
    rw [ev_bind_iff (implLM_ev l ((l.length - 1 - j : Nat) : Int))]
    have el : lmP l ((l.length - 1 - j : Nat) : Int) = (((longest l (l.length - 1 - j)).1 : Int), ((longest l (l.length - 1 - j)).2 : Int)) := by
      unfold lmP
      rw [if_pos ⟨h, by omega, by omega⟩, Int.toNat_natCast]
    rw [el]
    exact rest_l1 l ts hn j (l.length - 1 - j) (by omega) rfl _ hr ((longest l (l.length - 1 - j)).1 - 2) 0 (by omega)
theorem FnBestTokensRest : laws_FnBestTokensRest.Pure := by
  intro l0 _ _ hw
  refine Ev.rounds (g := fun k => laws_FnBestTokensRest.f k l0) (r := true) ?_
  unfold laws_FnBestTokensRest.f
  by_cases hl : (l0.length : Int) > 1048576
  · exact ev_pos hl (Ev.now _)
  refine ev_neg hl ?_
  obtain ⟨l, hd, hn⟩ := spec_DrawBestTokens_ok l0 hw
  have hg := bestP_length l
  rw [ev_bind_iff hd, ev_bind_iff (implBest_ev l), ev_bind_iff (specBest_ev l), ev_bind_iff (equalTokens_same (bestP l) (by omega))]
  refine ev_pos rfl ?_
  by_cases h0 : (((bestP l).length : Int) == 0) = true
  · rw [h0]
    refine Ev.step (f := fun k => (spec_BestTokens.f k l).bind fun t => (laws_equalTokens.f k (bestP l) t).bind fun t2 => some t2) (fun k => by simp only [laws_FnBestTokensRest.j0, if_true]) ?_
    rw [ev_bind_iff (specBest_ev l), ev_bind_iff (equalTokens_same (bestP l) (by omega))]
    exact Ev.now _
  · rw [Bool.eq_false_iff.2 h0]
    have hb : okBytes l = true := by
      by_cases c : okBytes l = true
      · exact c
      · exfalso
        apply h0
        unfold bestP
        rw [if_neg c]
        rfl
    have e : bestP l = toks l (bch l) l.length 0 := if_pos hb
    have hc : cost (bestP l) = cst l 0 := by
      rw [e]
      exact cost_best l l.length 0 (by omega)
    have hi := implCost_ev (bestP l) (by omega)
    rw [List.take_of_length_le hg, hc] at hi
    have e0 : wrap64 ((l.length : Int) + 1) = ((l.length + 1 : Nat) : Int) := by rw [w64 (by omega) (by omega)]; omega
    have e3 : wrap64 ((l.length : Int) - 1) = (l.length : Int) - 1 := w64 (by omega) (by omega)
    have e1 : List.replicate (l.length + 1) 0 = costs l 0 := by
      apply List.ext_getElem
      · simp [costs]
      · intro i h1 h2
        simp [costs, tabC]
    have hk := rest_l0 l hb (bestP l) true (by rw [ev_bind_iff hi]; exact ev_now (by simp)) l.length 0 (by omega)
    refine Ev.step (fun k => ?_) hk
    simp only [laws_FnBestTokensRest.j0, e0, e3, Int.toNat_natCast, e1, Bool.false_eq_true, if_false]
    rw [if_pos (by omega), if_pos (by omega)]

end Go.Proofs.Ytckndapolgajfaa.Pure
