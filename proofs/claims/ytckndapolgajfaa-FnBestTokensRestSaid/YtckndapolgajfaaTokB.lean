/- What the cheapest tokens are, in the program and in the reference. No conditions. -/
import Derived.Test.YtckndapolgajfaaTokL
import Derived.Test.YtckndapolgajfaaQ7
import Derived.Test.YtckndapolgajfaaQ8
namespace Go.Proofs.Ytckndapolgajfaa.B
open Go.RowKit Go.Proofs.Ytckndapolgajfaa.Q Go.Proofs.YtckndapolgajfaaW.PrintWords Go.Proofs.YtckndapolgajfaaW.PrintLast Go.Proofs.YtckndapolgajfaaW.PrintMore
set_option linter.unusedVariables false

/-! ### The cheapest -/
def bestP (l : List Int) : List S33 := if okBytes l = true then toks l (bch l) l.length 0 else []
theorem bestP_length (l : List Int) : (bestP l).length ≤ 1200 := by
  unfold bestP
  by_cases h : okBytes l = true
  · rw [if_pos h]
    have := toks_length l (bch l) l.length 0
    have := (okBytes_ok h).1
    omega
  · rw [if_neg h]
    simp
/-- The costs when the last j places are done. -/
def costs (l : List Int) (j : Nat) : List Int := (List.range (l.length + 1)).map (tabC l j)
theorem costs_length (l : List Int) (j : Nat) : (costs l j).length = l.length + 1 := by simp [costs]
theorem costs_get (l : List Int) (j i : Nat) (h : i ≤ l.length) : rd (costs l j) (i : Int) = tabC l j i := by
  rw [rd_get _ _ (by rw [costs_length]; omega)]
  simp [costs]
theorem costs_set (l : List Int) (j : Nat) (h : j < l.length) : (costs l j).set (l.length - 1 - j) (best l (l.length - 1 - j)).1 = costs l (j + 1) := by
  apply List.ext_getElem
  · simp [costs]
  · intro i h1 h2
    rw [List.getElem_set]
    simp only [costs, List.getElem_map, List.getElem_range, tabC]
    by_cases e : l.length - 1 - j = i
    · rw [if_pos e, if_pos e.symm, tab_opt l j h]
    · rw [if_neg e, if_neg (fun x => e x.symm)]
theorem tab_bound (l : List Int) (j i : Nat) (hj : j ≤ l.length) (hi : l.length ≤ i + j) (h : i ≤ l.length) : 0 ≤ tabC l j i ∧ tabC l j i ≤ 9 * (l.length : Int) := by
  rw [tabC_cst l j i hj hi]
  have := cst_le l (l.length - i) i (by omega)
  omega
theorem opt_bound (l : List Int) (j a m : Nat) (hj : j < l.length) (ha : a = l.length - 1 - j) (hm : a + m + 2 ≤ l.length ∨ m = 0) : 0 ≤ (opt (tabC l j) a m).1 ∧ (opt (tabC l j) a m).1 ≤ 9 * (l.length : Int) + 9 := by
  obtain ⟨h1, h2, _⟩ := opt_ok (tabC l j) a m
  have := tab_bound l j (a + 1) (by omega) (by omega) (by omega)
  refine ⟨?_, by omega⟩
  rcases h1 with ⟨_, e⟩ | ⟨g1, g2, e⟩
  · omega
  · have := tab_bound l j (a + (opt (tabC l j) a m).2) (by omega) (by omega) (by omega)
    omega
/-- The token chosen at a place. -/
def tkB (l : List Int) (a : Nat) : S33 := if (best l a).2 = 0 then ⟨rd l a, 0, 0⟩ else ⟨0, ((best l a).2 : Int), ((longest l a).2 : Int)⟩
def tkO (l : List Int) (C : Nat → Int) (a m : Nat) : S33 := if (opt C a m).2 = 0 then ⟨rd l a, 0, 0⟩ else ⟨0, ((opt C a m).2 : Int), ((longest l a).2 : Int)⟩
def tkL (l : List Int) (j : Nat) : List S33 := (List.range l.length).map fun a => if l.length - j ≤ a then tkB l a else z33
theorem tkL_length (l : List Int) (j : Nat) : (tkL l j).length = l.length := by simp [tkL]
theorem tkL_set (l : List Int) (j : Nat) (h : j < l.length) : (tkL l j).set (l.length - 1 - j) (tkB l (l.length - 1 - j)) = tkL l (j + 1) := by
  apply List.ext_getElem
  · simp [tkL]
  · intro i h1 h2
    rw [List.getElem_set]
    simp only [tkL, List.getElem_map, List.getElem_range]
    by_cases e : l.length - 1 - j = i
    · rw [if_pos e, if_pos (by omega), e]
    · rw [if_neg e]
      by_cases g : l.length - j ≤ i
      · rw [if_pos g, if_pos (by omega)]
      · rw [if_neg g, if_neg (by omega)]
theorem tkL_get (l : List Int) (a : Nat) (h : a < l.length) : rd_T33 (tkL l l.length) (a : Int) = tkB l a := by
  rw [rdT_get _ _ (by rw [tkL_length]; exact h)]
  simp [tkL]
theorem tkB_toks (l : List Int) (d a : Nat) (h : a < l.length) : toks l (bch l) (d + 1) a = tkB l a :: toks l (bch l) d (a + (if (best l a).2 = 0 then 1 else (best l a).2)) := by
  simp only [toks]
  rw [if_pos h]
  by_cases c : (best l a).2 = 0
  · have e : bch l a = (0, 0) := by unfold bch; rw [if_pos c]
    rw [e, if_pos rfl, if_pos c]
    unfold tkB
    rw [if_pos c]
  · have e : bch l a = ((best l a).2, (longest l a).2) := by unfold bch; rw [if_neg c]
    rw [e, if_neg c, if_neg c]
    unfold tkB
    rw [if_neg c]
theorem best_len (l : List Int) (a : Nat) (h : a < l.length) : ((best l a).2 = 0 ∨ 3 ≤ (best l a).2) ∧ a + (best l a).2 ≤ l.length := by
  obtain ⟨h1, _⟩ := best_ok l a h
  have := (longest_len l a (by omega)).2.2
  rcases h1 with ⟨e, _⟩ | ⟨g1, g2, _⟩
  · exact ⟨.inl e, by omega⟩
  · exact ⟨.inr g1, by omega⟩
theorem impl_l2 (l : List Int) (hn : l.length ≤ 2000000) : ∀ d a acc, acc.length ≤ a → a ≤ l.length → l.length ≤ a + d → Ev (fun k => impl_bestTokens.l2 k l (tkL l l.length) acc (a : Int)) (acc ++ toks l (bch l) d a) := by
  intro d
  induction d with
  | zero =>
    intro a acc h0 h1 h2
    refine Ev.step (f := fun _ => some acc) (fun k => ?_) (ev_now (by simp [toks]))
    simp only [impl_bestTokens.l2]
    rw [if_neg (show ¬ (a : Int) < (l.length : Int) by omega)]
  | succ d ih =>
    intro a acc h0 h1 h2
    by_cases ha : a < l.length
    · obtain ⟨b1, b2⟩ := best_len l a ha
      have e : wrap64 ((a : Int) + mx (tkB l a).f1 1) = ((a + (if (best l a).2 = 0 then 1 else (best l a).2) : Nat) : Int) := by
        unfold tkB
        by_cases c : (best l a).2 = 0
        · rw [if_pos c, if_pos c]
          simp only
          rw [mx_r (by omega), w64 (by omega) (by omega)]
          omega
        · rw [if_neg c, if_neg c]
          simp only
          rw [mx_l (by omega), w64 (by omega) (by omega)]
          omega
      have := ih (a + (if (best l a).2 = 0 then 1 else (best l a).2)) (acc ++ [tkB l a]) (by simp only [List.length_append, List.length_singleton]; split <;> omega) (by split <;> omega) (by split <;> omega)
      rw [tkB_toks l d a ha]
      rw [List.append_assoc] at this
      refine Ev.step (fun k => ?_) this
      simp only [impl_bestTokens.l2]
      rw [if_pos (show (a : Int) < (l.length : Int) by omega), if_pos (show 0 ≤ (a : Int) by omega), if_pos (show (a : Int) < ((tkL l l.length).length : Int) by rw [tkL_length]; omega), if_pos (show acc.length < 5864062014805 by omega), tkL_get l a ha, e]
    · rw [toks_end l _ _ _ (by omega), List.append_nil]
      refine Ev.step (f := fun _ => some acc) (fun k => ?_) (Ev.now _)
      simp only [impl_bestTokens.l2]
      rw [if_neg (show ¬ (a : Int) < (l.length : Int) by omega)]
/-- The inner loop of the program: the lengths 3 to most. -/
theorem impl_l1 (l : List Int) (hn : l.length ≤ 1200) (j a : Nat) (hj : j < l.length) (ha : a = l.length - 1 - j) (r : List S33)
    (hr : Ev (fun k => impl_bestTokens.l0 k l (costs l (j + 1)) (tkL l (j + 1)) (wrap64 ((a : Int) - 1))) r) :
    ∀ d m, m + d = (longest l a).1 - 2 → Ev (fun k => impl_bestTokens.l1 k l (costs l j) (tkL l j) (a : Int) (opt (tabC l j) a m).1 ((longest l a).1 : Int) ((longest l a).2 : Int) ((m + 3 : Nat) : Int) (tkO l (tabC l j) a m).f0 (tkO l (tabC l j) a m).f1 (tkO l (tabC l j) a m).f2) r := by
  have hl := longest_len l a (by omega)
  intro d
  induction d with
  | zero =>
    intro m hm
    have hm' : m = (longest l a).1 - 2 := by omega
    have e1 : (opt (tabC l j) a m).1 = (best l a).1 := by rw [hm', ha, tab_opt l j hj]
    have e2 : tkO l (tabC l j) a m = tkB l a := by
      unfold tkO tkB
      rw [hm', ha, tab_opt l j hj]
    refine Ev.step (fun k => ?_) hr
    simp only [impl_bestTokens.l1]
    rw [if_neg (show ¬ ((m + 3 : Nat) : Int) ≤ ((longest l a).1 : Int) by omega), if_pos (show 0 ≤ (a : Int) by omega), if_pos (show (a : Int) < ((tkL l j).length : Int) by rw [tkL_length]; omega), if_pos (show (a : Int) < ((costs l j).length : Int) by rw [costs_length]; omega), e1, e2, Int.toNat_natCast]
    have e3 := costs_set l j hj
    have e4 := tkL_set l j hj
    rw [← ha] at e3 e4
    rw [e3, e4]
  | succ d ih =>
    intro m hm
    have f0 : a + (m + 3) ≤ l.length := by omega
    have f1 : ((m + 3 : Nat) : Int) ≤ ((longest l a).1 : Int) := by omega
    have f4 : l.length ≤ a + (m + 3) + j := by omega
    have ih := ih (m + 1) (by omega)
    clear hm hl
    have e1 : wrap64 ((a : Int) + ((m + 3 : Nat) : Int)) = ((a + (m + 3) : Nat) : Int) := by rw [w64 (by omega) (by omega)]; omega
    have e3 : wrap64 (((m + 3 : Nat) : Int) + 1) = ((m + 1 + 3 : Nat) : Int) := by rw [w64 (by omega) (by omega)]; omega
    have f3 : ((a + (m + 3) : Nat) : Int) < ((costs l j).length : Int) := by rw [costs_length]; omega
    have g0 := costs_get l j (a + (m + 3)) f0
    have hb := tab_bound l j (a + (m + 3)) (by omega) f4 f0
    have e2 : wrap64 (11 + tabC l j (a + (m + 3))) = 11 + tabC l j (a + (m + 3)) := by
      obtain ⟨b0, b1⟩ := hb
      generalize tabC l j (a + (m + 3)) = z at b0 b1
      exact w64 (by omega) (by omega)
    clear hb
    refine Ev.step (fun k => ?_) ih
    have ho : opt (tabC l j) a (m + 1) = if 11 + tabC l j (a + (m + 3)) ≤ (opt (tabC l j) a m).1 then (11 + tabC l j (a + (m + 3)), m + 3) else opt (tabC l j) a m := rfl
    simp only [impl_bestTokens.l1, e1, e3]
    rw [if_pos f1, if_pos (Int.natCast_nonneg (a + (m + 3))), if_pos f3, g0, e2]
    by_cases c : 11 + tabC l j (a + (m + 3)) ≤ (opt (tabC l j) a m).1
    · rw [if_pos c] at ho ⊢
      unfold tkO
      rw [ho]
      rfl
    · rw [if_neg c] at ho ⊢
      unfold tkO
      rw [ho]
theorem implBest_ev (l : List Int) : Ev (fun k => impl_BestTokens.f k l) (bestP l) := by
  unfold impl_BestTokens.f bestP
  rw [isByteList_eq]
  simp only [Option.bind_some]
  by_cases h : okBytes l = true
  · have hn := (okBytes_ok h).1
    rw [if_pos h]
    refine ev_pos h ?_
    have key : ∀ d j, j + d = l.length → Ev (fun k => impl_bestTokens.l0 k l (costs l j) (tkL l j) ((d : Int) - 1)) (toks l (bch l) l.length 0) := by
      intro d
      induction d with
      | zero =>
        intro j hj
        have hj' : j = l.length := by omega
        subst hj'
        have := impl_l2 l (by omega) l.length 0 [] (by simp) (by omega) (by omega)
        rw [List.nil_append] at this
        refine Ev.step (fun k => ?_) this
        simp only [impl_bestTokens.l0]
        rw [if_neg (show ¬ ((0 : Nat) : Int) - 1 ≥ 0 by omega)]
        rfl
      | succ d ih =>
        intro j hj
        have ea : ((d + 1 : Nat) : Int) - 1 = ((l.length - 1 - j : Nat) : Int) := by omega
        have hd : d = l.length - 1 - j := by omega
        rw [ea]
        have hr := ih (j + 1) (by omega)
        rw [← w64 (x := (d : Int) - 1) (by omega) (by omega), hd] at hr
        have e1 : wrap64 (((l.length - 1 - j : Nat) : Int) + 1) = ((l.length - 1 - j + 1 : Nat) : Int) := by rw [w64 (by omega) (by omega)]; omega
        have hb := tab_bound l j (l.length - 1 - j + 1) (by omega) (by omega) (by omega)
        have e2 : wrap64 (9 + tabC l j (l.length - 1 - j + 1)) = 9 + tabC l j (l.length - 1 - j + 1) := w64 (by omega) (by omega)
        refine Ev.step (g := fun k => impl_bestTokens.l0 k l (costs l j) (tkL l j) ((l.length - 1 - j : Nat) : Int)) (f := fun k => (impl_longestMatch.f k l ((l.length - 1 - j : Nat) : Int)).bind fun bt => impl_bestTokens.l1 k l (costs l j) (tkL l j) ((l.length - 1 - j : Nat) : Int) (9 + tabC l j (l.length - 1 - j + 1)) bt.1 bt.2 3 (rd l ((l.length - 1 - j : Nat) : Int)) 0 0) (fun k => by
          simp only [impl_bestTokens.l0, e1]
          rw [if_pos (show ((l.length - 1 - j : Nat) : Int) ≥ 0 by omega), if_pos (show 0 ≤ ((l.length - 1 - j : Nat) : Int) by omega), if_pos (show ((l.length - 1 - j : Nat) : Int) < (l.length : Int) by omega), if_pos (show 0 ≤ ((l.length - 1 - j + 1 : Nat) : Int) by omega), if_pos (show ((l.length - 1 - j + 1 : Nat) : Int) < ((costs l j).length : Int) by rw [costs_length]; omega), costs_get l j _ (by omega), e2]) ?_
        rw [ev_bind_iff (implLongest_ev l (l.length - 1 - j) (by omega) (by omega))]
        exact impl_l1 l hn j (l.length - 1 - j) (by omega) rfl _ hr ((longest l (l.length - 1 - j)).1 - 2) 0 (by omega)
    have h0 := key l.length 0 (by omega)
    have hf : Ev (fun k => impl_bestTokens.f k l) (toks l (bch l) l.length 0) := by
      unfold impl_bestTokens.f
      have e0 : wrap64 ((l.length : Int) + 1) = ((l.length + 1 : Nat) : Int) := by rw [w64 (by omega) (by omega)]; omega
      have e3 : wrap64 ((l.length : Int) - 1) = (l.length : Int) - 1 := w64 (by omega) (by omega)
      have e1 : List.replicate (l.length + 1) 0 = costs l 0 := by
        apply List.ext_getElem
        · simp [costs]
        · intro i h1 h2
          simp [costs, tabC]
      have e2 : List.replicate l.length z33 = tkL l 0 := by
        apply List.ext_getElem
        · simp [tkL]
        · intro i h1 h2
          simp only [tkL, List.getElem_replicate, List.getElem_map, List.getElem_range]
          rw [if_neg (by simp at h1; omega)]
      simp only [e0, e3, Int.toNat_natCast, e1, e2]
      exact ev_pos (by omega) (ev_pos (by omega) (ev_pos (by omega) (ev_pos (by omega) h0)))
    rw [ev_bind_iff hf]
    exact Ev.now _
  · rw [if_neg h]
    exact ev_neg h (Ev.now _)

/-! ### The reference's way -/
def lens (l : List Int) (j : Nat) : List Int := (List.range (l.length + 1)).map fun a => if a < l.length ∧ l.length - j ≤ a then ((best l a).2 : Int) else 0
theorem lens_length (l : List Int) (j : Nat) : (lens l j).length = l.length + 1 := by simp [lens]
theorem lens_set (l : List Int) (j : Nat) (h : j < l.length) : (lens l j).set (l.length - 1 - j) ((best l (l.length - 1 - j)).2 : Int) = lens l (j + 1) := by
  apply List.ext_getElem
  · simp [lens]
  · intro i h1 h2
    rw [List.getElem_set]
    simp only [lens, List.getElem_map, List.getElem_range]
    by_cases e : l.length - 1 - j = i
    · rw [if_pos e, if_pos ⟨by omega, by omega⟩, e]
    · rw [if_neg e]
      by_cases g : i < l.length ∧ l.length - j ≤ i
      · rw [if_pos g, if_pos ⟨g.1, by omega⟩]
      · rw [if_neg g, if_neg (fun x => g ⟨x.1, by omega⟩)]
theorem lens_get (l : List Int) (a : Nat) (h : a < l.length) : rd (lens l l.length) (a : Int) = ((best l a).2 : Int) := by
  rw [rd_get _ _ (by rw [lens_length]; omega)]
  simp [lens, h]
theorem set_rd (l : List Int) (i : Nat) (v : Int) (h : i < l.length) : rd (l.set i v) (i : Int) = v := by
  rw [rd_get _ _ (by simpa using h)]
  simp
theorem set_rd_ne (l : List Int) (i j : Nat) (v : Int) (h : j < l.length) (hne : i ≠ j) : rd (l.set i v) (j : Int) = rd l (j : Int) := by
  rw [rd_get _ _ (by simpa using h), rd_get _ _ h, List.getElem_set_ne hne]
theorem spec_l2 (l : List Int) (hn : l.length ≤ 2000000) : ∀ d a acc, acc.length ≤ a → a ≤ l.length → l.length ≤ a + d → Ev (fun k => spec_bestTokens.l2 k l (l.length : Int) (lens l l.length) acc (a : Int)) (acc ++ toks l (bch l) d a) := by
  intro d
  induction d with
  | zero =>
    intro a acc h0 h1 h2
    refine Ev.step (f := fun _ => some acc) (fun k => ?_) (ev_now (by simp [toks]))
    simp only [spec_bestTokens.l2]
    rw [if_neg (show ¬ (a : Int) < (l.length : Int) by omega)]
  | succ d ih =>
    intro a acc h0 h1 h2
    by_cases ha : a < l.length
    · obtain ⟨b1, b2⟩ := best_len l a ha
      rw [tkB_toks l d a ha]
      by_cases c : (best l a).2 = 0
      · have := ih (a + 1) (acc ++ [tkB l a]) (by simp only [List.length_append, List.length_singleton]; omega) (by omega) (by omega)
        rw [if_pos c]
        rw [List.append_assoc] at this
        have e : wrap64 ((a : Int) + 1) = ((a + 1 : Nat) : Int) := by rw [w64 (by omega) (by omega)]; omega
        have et : tkB l a = ⟨rd l (a : Int), 0, 0⟩ := by unfold tkB; rw [if_pos c]
        refine Ev.step (fun k => ?_) this
        simp only [spec_bestTokens.l2]
        rw [if_pos (show (a : Int) < (l.length : Int) by omega), if_pos (show 0 ≤ (a : Int) by omega), if_pos (show (a : Int) < ((lens l l.length).length : Int) by rw [lens_length]; omega), lens_get l a ha, if_pos (show ((best l a).2 : Int) = 0 by omega), if_pos (show (a : Int) < (l.length : Int) by omega), if_pos (show acc.length < 5864062014805 by omega), e, et]
      · have := ih (a + (best l a).2) (acc ++ [tkB l a]) (by simp only [List.length_append, List.length_singleton]; omega) (by omega) (by omega)
        rw [if_neg c]
        rw [List.append_assoc] at this
        have e : wrap64 ((a : Int) + ((best l a).2 : Int)) = ((a + (best l a).2 : Nat) : Int) := by rw [w64 (by omega) (by omega)]; omega
        have et : tkB l a = ⟨0, ((best l a).2 : Int), ((longest l a).2 : Int)⟩ := by unfold tkB; rw [if_neg c]
        refine Ev.step (g := fun k => spec_bestTokens.l2 k l (l.length : Int) (lens l l.length) acc (a : Int)) (f := fun k => (spec_longest.f k l (a : Int)).bind fun bt => (if acc.length < 5864062014805 then (spec_bestTokens.l2 k l (l.length : Int) (lens l l.length) (acc ++ [(⟨0, ((best l a).2 : Int), bt.2⟩ : S33)]) ((a + (best l a).2 : Nat) : Int)) else (none))) (fun k => by
          simp only [spec_bestTokens.l2]
          rw [if_pos (show (a : Int) < (l.length : Int) by omega), if_pos (show 0 ≤ (a : Int) by omega), if_pos (show (a : Int) < ((lens l l.length).length : Int) by rw [lens_length]; omega), lens_get l a ha, if_neg (show ¬ ((best l a).2 : Int) = 0 by omega), e]) ?_
        rw [ev_bind_iff (specLongest_ev l a hn (by omega))]
        refine ev_pos (show acc.length < 5864062014805 by omega) ?_
        rw [et] at this
        rw [et]
        exact this
    · rw [toks_end l _ _ _ (by omega), List.append_nil]
      refine Ev.step (f := fun _ => some acc) (fun k => ?_) (Ev.now _)
      simp only [spec_bestTokens.l2]
      rw [if_neg (show ¬ (a : Int) < (l.length : Int) by omega)]
theorem spec_l1 (l : List Int) (hn : l.length ≤ 1200) (j a : Nat) (hj : j < l.length) (ha : a = l.length - 1 - j) (r : List S33)
    (hr : Ev (fun k => spec_bestTokens.l0 k l (l.length : Int) (costs l (j + 1)) (lens l (j + 1)) (wrap64 ((a : Int) - 1))) r) :
    ∀ d m, m + d = (longest l a).1 - 2 → Ev (fun k => spec_bestTokens.l1 k l (l.length : Int) ((costs l j).set a (opt (tabC l j) a m).1) ((lens l j).set a ((opt (tabC l j) a m).2 : Int)) (a : Int) ((longest l a).1 : Int) ((m + 3 : Nat) : Int)) r := by
  have hl := longest_len l a (by omega)
  intro d
  induction d with
  | zero =>
    intro m hm
    have hm' : m = (longest l a).1 - 2 := by omega
    have e1 : opt (tabC l j) a m = best l a := by rw [hm', ha, tab_opt l j hj]
    have e3 := costs_set l j hj
    have e4 := lens_set l j hj
    rw [← ha] at e3 e4
    rw [e1, e3, e4]
    refine Ev.step (fun k => ?_) hr
    simp only [spec_bestTokens.l1]
    rw [if_neg (show ¬ ((m + 3 : Nat) : Int) ≤ ((longest l a).1 : Int) by omega)]
  | succ d ih =>
    intro m hm
    have f0 : a + (m + 3) ≤ l.length := by omega
    have f1 : ((m + 3 : Nat) : Int) ≤ ((longest l a).1 : Int) := by omega
    have f4 : l.length ≤ a + (m + 3) + j := by omega
    have ih := ih (m + 1) (by omega)
    clear hm hl
    have e1 : wrap64 ((a : Int) + ((m + 3 : Nat) : Int)) = ((a + (m + 3) : Nat) : Int) := by rw [w64 (by omega) (by omega)]; omega
    have e3 : wrap64 (((m + 3 : Nat) : Int) + 1) = ((m + 1 + 3 : Nat) : Int) := by rw [w64 (by omega) (by omega)]; omega
    have hs : ((costs l j).set a (opt (tabC l j) a m).1).length = l.length + 1 := by rw [List.length_set, costs_length]
    have hs2 : ((lens l j).set a ((opt (tabC l j) a m).2 : Int)).length = l.length + 1 := by rw [List.length_set, lens_length]
    have f3 : ((a + (m + 3) : Nat) : Int) < (((costs l j).set a (opt (tabC l j) a m).1).length : Int) := by rw [hs]; omega
    have f5 : (a : Int) < (((costs l j).set a (opt (tabC l j) a m).1).length : Int) := by rw [hs]; omega
    have f6 : (a : Int) < (((lens l j).set a ((opt (tabC l j) a m).2 : Int)).length : Int) := by rw [hs2]; omega
    have g1 : rd ((costs l j).set a (opt (tabC l j) a m).1) ((a + (m + 3) : Nat) : Int) = tabC l j (a + (m + 3)) := by rw [set_rd_ne _ _ _ _ (by rw [costs_length]; omega) (by omega), costs_get l j _ f0]
    have g2 : rd ((costs l j).set a (opt (tabC l j) a m).1) (a : Int) = (opt (tabC l j) a m).1 := set_rd _ _ _ (by rw [costs_length]; omega)
    have g0 := costs_get l j (a + (m + 3)) f0
    have hb := tab_bound l j (a + (m + 3)) (by omega) f4 f0
    have e2 : wrap64 (11 + tabC l j (a + (m + 3))) = 11 + tabC l j (a + (m + 3)) := by
      obtain ⟨b0, b1⟩ := hb
      generalize tabC l j (a + (m + 3)) = z at b0 b1
      exact w64 (by omega) (by omega)
    clear hb
    have ho : opt (tabC l j) a (m + 1) = if 11 + tabC l j (a + (m + 3)) ≤ (opt (tabC l j) a m).1 then (11 + tabC l j (a + (m + 3)), m + 3) else opt (tabC l j) a m := rfl
    refine Ev.step (fun k => ?_) ih
    simp only [spec_bestTokens.l1, e1, e3]
    rw [if_pos f1, if_pos (Int.natCast_nonneg (a + (m + 3))), if_pos f3, if_pos (Int.natCast_nonneg a), if_pos f5, g1, g2, e2]
    by_cases c : 11 + tabC l j (a + (m + 3)) ≤ (opt (tabC l j) a m).1
    · rw [if_pos c] at ho ⊢
      rw [if_pos f6, ho, Int.toNat_natCast, List.set_set, List.set_set]
    · rw [if_neg c] at ho ⊢
      rw [ho]
theorem specBest_ev (l : List Int) : Ev (fun k => spec_BestTokens.f k l) (bestP l) := by
  unfold spec_BestTokens.f bestP
  rw [ev_bind_iff (validBytes_ev l)]
  by_cases h : okBytes l = true
  · have hn := (okBytes_ok h).1
    rw [if_pos h]
    refine ev_pos h ?_
    have key : ∀ d j, j + d = l.length → Ev (fun k => spec_bestTokens.l0 k l (l.length : Int) (costs l j) (lens l j) ((d : Int) - 1)) (toks l (bch l) l.length 0) := by
      intro d
      induction d with
      | zero =>
        intro j hj
        have hj' : j = l.length := by omega
        subst hj'
        have := spec_l2 l (by omega) l.length 0 [] (by simp) (by omega) (by omega)
        rw [List.nil_append] at this
        refine Ev.step (fun k => ?_) this
        simp only [spec_bestTokens.l0]
        rw [if_neg (show ¬ ((0 : Nat) : Int) - 1 ≥ 0 by omega)]
        rfl
      | succ d ih =>
        intro j hj
        have ea : ((d + 1 : Nat) : Int) - 1 = ((l.length - 1 - j : Nat) : Int) := by omega
        have hd : d = l.length - 1 - j := by omega
        rw [ea]
        have hr := ih (j + 1) (by omega)
        rw [← w64 (x := (d : Int) - 1) (by omega) (by omega), hd] at hr
        have e1 : wrap64 (((l.length - 1 - j : Nat) : Int) + 1) = ((l.length - 1 - j + 1 : Nat) : Int) := by rw [w64 (by omega) (by omega)]; omega
        have hb := tab_bound l j (l.length - 1 - j + 1) (by omega) (by omega) (by omega)
        have e2 : wrap64 (9 + tabC l j (l.length - 1 - j + 1)) = 9 + tabC l j (l.length - 1 - j + 1) := w64 (by omega) (by omega)
        refine Ev.step (g := fun k => spec_bestTokens.l0 k l (l.length : Int) (costs l j) (lens l j) ((l.length - 1 - j : Nat) : Int)) (f := fun k => (spec_longest.f k l ((l.length - 1 - j : Nat) : Int)).bind fun bt => spec_bestTokens.l1 k l (l.length : Int) ((costs l j).set (l.length - 1 - j) (9 + tabC l j (l.length - 1 - j + 1))) ((lens l j).set (l.length - 1 - j) 0) ((l.length - 1 - j : Nat) : Int) bt.1 3) (fun k => by
          simp only [spec_bestTokens.l0, e1]
          rw [if_pos (show ((l.length - 1 - j : Nat) : Int) ≥ 0 by omega), if_pos (show 0 ≤ ((l.length - 1 - j + 1 : Nat) : Int) by omega), if_pos (show ((l.length - 1 - j + 1 : Nat) : Int) < ((costs l j).length : Int) by rw [costs_length]; omega), if_pos (show 0 ≤ ((l.length - 1 - j : Nat) : Int) by omega), if_pos (show ((l.length - 1 - j : Nat) : Int) < ((costs l j).length : Int) by rw [costs_length]; omega), if_pos (show ((l.length - 1 - j : Nat) : Int) < ((lens l j).length : Int) by rw [lens_length]; omega), costs_get l j _ (by omega), e2, Int.toNat_natCast]) ?_
        rw [ev_bind_iff (specLongest_ev l (l.length - 1 - j) (by omega) (by omega))]
        exact spec_l1 l hn j (l.length - 1 - j) (by omega) rfl _ hr ((longest l (l.length - 1 - j)).1 - 2) 0 (by omega)
    have h0 := key l.length 0 (by omega)
    have hf : Ev (fun k => spec_bestTokens.f k l) (toks l (bch l) l.length 0) := by
      unfold spec_bestTokens.f
      have e0 : wrap64 ((l.length : Int) + 1) = ((l.length + 1 : Nat) : Int) := by rw [w64 (by omega) (by omega)]; omega
      have e3 : wrap64 ((l.length : Int) - 1) = (l.length : Int) - 1 := w64 (by omega) (by omega)
      have e1 : List.replicate (l.length + 1) 0 = costs l 0 := by
        apply List.ext_getElem
        · simp [costs]
        · intro i h1 h2
          simp [costs, tabC]
      have e2 : costs l 0 = lens l 0 := by
        rw [← e1]
        apply List.ext_getElem
        · simp [lens]
        · intro i h1 h2
          simp only [lens, List.getElem_replicate, List.getElem_map, List.getElem_range]
          rw [if_neg (by omega)]
      simp only [e0, e3, Int.toNat_natCast, e1]
      rw [← e2] at h0
      exact ev_pos (by omega) (ev_pos (by omega) h0)
    rw [ev_bind_iff hf]
    exact Ev.now _
  · rw [if_neg h]
    exact ev_neg h (Ev.now _)

end Go.Proofs.Ytckndapolgajfaa.B
