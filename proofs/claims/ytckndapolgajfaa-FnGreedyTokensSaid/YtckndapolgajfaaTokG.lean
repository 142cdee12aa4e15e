/- What the greedy tokens are, in the program and in the reference. No conditions. -/
import Derived.Test.YtckndapolgajfaaTokL
import Derived.Test.YtckndapolgajfaaQ11
import Derived.Test.YtckndapolgajfaaQ13
namespace Go.Proofs.Ytckndapolgajfaa.B
open Go.RowKit Go.Proofs.Ytckndapolgajfaa.Q Go.Proofs.YtckndapolgajfaaW.PrintWords Go.Proofs.YtckndapolgajfaaW.PrintLast Go.Proofs.YtckndapolgajfaaW.PrintMore
set_option linter.unusedVariables false

/-! ### Greedy -/
def greedyP (l : List Int) : List S33 := if okBytes l = true then toks l (longest l) l.length 0 else []
theorem greedyP_length (l : List Int) : (greedyP l).length ≤ 1200 := by
  unfold greedyP
  by_cases h : okBytes l = true
  · rw [if_pos h]
    have := toks_length l (longest l) l.length 0
    have := (okBytes_ok h).1
    omega
  · rw [if_neg h]
    simp
theorem longest_pos (l : List Int) (a : Nat) (h : a ≤ l.length) : ((longest l a).1 : Int) = 0 ∨ 3 ≤ ((longest l a).1 : Int) := by
  have := (longest_len l a h).1
  omega
theorem impl_GreedyTokens_loop (l : List Int) (hn : l.length ≤ 2000000) : ∀ d a acc, acc.length ≤ a → a ≤ l.length → l.length ≤ a + d → Ev (fun k => impl_GreedyTokens.l0 k l acc (a : Int)) (acc ++ toks l (longest l) d a) := by
  intro d
  induction d with
  | zero =>
    intro a acc h0 h1 h2
    refine Ev.step (f := fun _ => some acc) (fun k => ?_) (ev_now (by simp [toks]))
    simp only [impl_GreedyTokens.l0]
    rw [if_neg (by omega)]
  | succ d ih =>
    intro a acc h0 h1 h2
    by_cases ha : a < l.length
    · have hl := longest_len l a h1
      refine Ev.step (g := fun k => impl_GreedyTokens.l0 k l acc (a : Int)) (f := fun k => (impl_longestMatch.f k l (a : Int)).bind fun bt => (if bt.1 = 0 then (if 0 ≤ (a : Int) then (if acc.length < 5864062014805 then (impl_GreedyTokens.l0 k l (acc ++ [(⟨rd l (a : Int), 0, 0⟩ : S33)]) (wrap64 ((a : Int) + 1))) else (none)) else (none)) else (if acc.length < 5864062014805 then (impl_GreedyTokens.l0 k l (acc ++ [(⟨0, bt.1, bt.2⟩ : S33)]) (wrap64 ((a : Int) + bt.1))) else (none)))) (fun k => by simp only [impl_GreedyTokens.l0]; rw [if_pos (show (a : Int) < (l.length : Int) by omega)]) ?_
      rw [ev_bind_iff (implLongest_ev l a hn h1)]
      by_cases c : (longest l a).1 = 0
      · refine ev_pos (show ((longest l a).1 : Int) = 0 by omega) (ev_pos (by omega) (ev_pos (by omega) ?_))
        have e : wrap64 ((a : Int) + 1) = ((a + 1 : Nat) : Int) := by rw [w64 (by omega) (by omega)]; omega
        simp only [e, toks]
        rw [if_pos ha, if_pos c]
        have := ih (a + 1) (acc ++ [⟨rd l (a : Int), 0, 0⟩]) (by simp; omega) (by omega) (by omega)
        rw [List.append_assoc] at this
        exact this
      · refine ev_neg (show ¬ ((longest l a).1 : Int) = 0 by omega) (ev_pos (by omega) ?_)
        have e : wrap64 ((a : Int) + ((longest l a).1 : Int)) = ((a + (longest l a).1 : Nat) : Int) := by rw [w64 (by omega) (by omega)]; omega
        simp only [e, toks]
        rw [if_pos ha, if_neg c]
        have := ih (a + (longest l a).1) (acc ++ [⟨0, ((longest l a).1 : Int), ((longest l a).2 : Int)⟩]) (by simp; omega) (by omega) (by omega)
        rw [List.append_assoc] at this
        exact this
    · rw [toks_end l _ _ _ (by omega), List.append_nil]
      refine Ev.step (f := fun _ => some acc) (fun k => ?_) (Ev.now _)
      simp only [impl_GreedyTokens.l0]
      rw [if_neg (show ¬ (a : Int) < (l.length : Int) by omega)]
theorem spec_greedy_loop (l : List Int) (hn : l.length ≤ 2000000) : ∀ d a acc, acc.length ≤ a → a ≤ l.length → l.length ≤ a + d → Ev (fun k => spec_greedy.l0 k l acc (a : Int)) (acc ++ toks l (longest l) d a) := by
  intro d
  induction d with
  | zero =>
    intro a acc h0 h1 h2
    refine Ev.step (f := fun _ => some acc) (fun k => ?_) (ev_now (by simp [toks]))
    simp only [spec_greedy.l0]
    rw [if_neg (by omega)]
  | succ d ih =>
    intro a acc h0 h1 h2
    by_cases ha : a < l.length
    · have hl := longest_len l a h1
      refine Ev.step (g := fun k => spec_greedy.l0 k l acc (a : Int)) (f := fun k => (spec_longest.f k l (a : Int)).bind fun bt => (if bt.1 = 0 then (if 0 ≤ (a : Int) then (if acc.length < 5864062014805 then (spec_greedy.l0 k l (acc ++ [(⟨rd l (a : Int), 0, 0⟩ : S33)]) (wrap64 ((a : Int) + 1))) else (none)) else (none)) else (if acc.length < 5864062014805 then (spec_greedy.l0 k l (acc ++ [(⟨0, bt.1, bt.2⟩ : S33)]) (wrap64 ((a : Int) + bt.1))) else (none)))) (fun k => by simp only [spec_greedy.l0]; rw [if_pos (show (a : Int) < (l.length : Int) by omega)]) ?_
      rw [ev_bind_iff (specLongest_ev l a hn h1)]
      by_cases c : (longest l a).1 = 0
      · refine ev_pos (show ((longest l a).1 : Int) = 0 by omega) (ev_pos (by omega) (ev_pos (by omega) ?_))
        have e : wrap64 ((a : Int) + 1) = ((a + 1 : Nat) : Int) := by rw [w64 (by omega) (by omega)]; omega
        simp only [e, toks]
        rw [if_pos ha, if_pos c]
        have := ih (a + 1) (acc ++ [⟨rd l (a : Int), 0, 0⟩]) (by simp; omega) (by omega) (by omega)
        rw [List.append_assoc] at this
        exact this
      · refine ev_neg (show ¬ ((longest l a).1 : Int) = 0 by omega) (ev_pos (by omega) ?_)
        have e : wrap64 ((a : Int) + ((longest l a).1 : Int)) = ((a + (longest l a).1 : Nat) : Int) := by rw [w64 (by omega) (by omega)]; omega
        simp only [e, toks]
        rw [if_pos ha, if_neg c]
        have := ih (a + (longest l a).1) (acc ++ [⟨0, ((longest l a).1 : Int), ((longest l a).2 : Int)⟩]) (by simp; omega) (by omega) (by omega)
        rw [List.append_assoc] at this
        exact this
    · rw [toks_end l _ _ _ (by omega), List.append_nil]
      refine Ev.step (f := fun _ => some acc) (fun k => ?_) (Ev.now _)
      simp only [spec_greedy.l0]
      rw [if_neg (show ¬ (a : Int) < (l.length : Int) by omega)]
theorem implGreedy_ev (l : List Int) : Ev (fun k => impl_GreedyTokens.f k l) (greedyP l) := by
  unfold impl_GreedyTokens.f greedyP
  rw [isByteList_eq]
  simp only [Option.bind_some]
  by_cases h : okBytes l = true
  · rw [if_pos h]
    refine ev_pos h ?_
    have := impl_GreedyTokens_loop l (by have := (okBytes_ok h).1; omega) l.length 0 [] (by simp) (by omega) (by omega)
    simpa using this
  · rw [if_neg h]
    exact ev_neg h (Ev.now _)
theorem specGreedy_ev (l : List Int) : Ev (fun k => spec_GreedyTokens.f k l) (greedyP l) := by
  unfold spec_GreedyTokens.f greedyP
  rw [ev_bind_iff (validBytes_ev l)]
  by_cases h : okBytes l = true
  · rw [if_pos h]
    refine ev_pos h ?_
    have := spec_greedy_loop l (by have := (okBytes_ok h).1; omega) l.length 0 [] (by simp) (by omega) (by omega)
    have h2 : Ev (fun k => spec_greedy.f k l) (toks l (longest l) l.length 0) := by
      unfold spec_greedy.f
      simpa using this
    rw [ev_bind_iff h2]
    exact Ev.now _
  · rw [if_neg h]
    exact ev_neg h (Ev.now _)

end Go.Proofs.Ytckndapolgajfaa.B
