/- No earlier place gives a longer match, and no nearer one gives one as long; at every code. -/
import Derived.Test.YtckndapolgajfaaTokL
import Derived.Test.YtckndapolgajfaaTokDraw
import Derived.Test.YtckndapolgajfaaQ29
namespace Go.Proofs.Ytckndapolgajfaa.Pure
open Go.RowKit Go.Proofs.Ytckndapolgajfaa.Q Go.Proofs.Ytckndapolgajfaa.B Go.Proofs.YtckndapolgajfaaW.PrintWords Go.Proofs.YtckndapolgajfaaW.PrintLast Go.Proofs.YtckndapolgajfaaW.PrintMore
set_option linter.unusedVariables false

theorem drawLM_ok (l : List Int) (h : ∀ x ∈ l, (Lit.int .u8 x).wf = true) : ∃ v a, Ev (fun k => spec_DrawLongestMatch.f k l) (v, a) ∧ v.length ≤ 300 := by
  obtain ⟨b, hl, hb⟩ := newReader_ok l h
  obtain ⟨v, p', hv, g1, g2, g3⟩ := anyBytes_ok b hb
  have hm : 1 ≤ mx (v.length : Int) 1 := by unfold mx; split <;> omega
  obtain ⟨c, hc, c0, c1⟩ := pick_ok b p' (mx (v.length : Int) 1) hb g1 (by omega) hm
  obtain ⟨a, ha, _⟩ := one_ok b (p' + 1) [3, 5, c, 0, -1, (v.length : Int)] hb (by omega) (by omega) (by simp)
  refine ⟨v, a, ?_, g3⟩
  unfold spec_DrawLongestMatch.f
  rw [hl]
  simp only [Option.bind_some]
  rw [ev_bind_iff hv, ev_bind_iff hc, ev_bind_iff ha]
  exact Ev.now _
theorem FnLongestMatchBest : laws_FnLongestMatchBest.Pure := by
  intro l0 _ _ hw
  refine Ev.rounds (g := fun k => laws_FnLongestMatchBest.f k l0) (r := true) ?_
  unfold laws_FnLongestMatchBest.f
  by_cases hl : (l0.length : Int) > 1048576
  · exact ev_pos hl (Ev.now _)
  refine ev_neg hl ?_
  obtain ⟨l, a, hd, hn⟩ := drawLM_ok l0 hw
  rw [ev_bind_iff hd, ev_bind_iff (implLM_ev l a), ev_bind_iff (specLM_ev l a)]
  refine ev_pos rfl (ev_pos rfl ?_)
  by_cases c : okBytes l = true ∧ 0 ≤ a ∧ a < (l.length : Int)
  · have e : lmP l a = (((longest l a.toNat).1 : Int), ((longest l a.toNat).2 : Int)) := if_pos c
    rw [e]
    obtain ⟨n, rfl⟩ := Int.eq_ofNat_of_zero_le c.2.1
    have hlt : n < l.length := by omega
    rw [Int.toNat_natCast]
    dsimp only
    have hbest := (longest_ok l n).2
    generalize longest l n = p at hbest
    obtain ⟨m, d⟩ := p
    dsimp only at hbest ⊢
    have x0 : ¬ (m : Int) < 0 := by omega
    refine Ev.step (f := fun k => laws_FnLongestMatchBest.l0 k l (n : Int) (m : Int) (d : Int) ((0 + 1 : Nat) : Int)) (fun k => ?_) ?_
    · simp only [laws_FnLongestMatchBest.j0, decide_eq_false x0, Bool.false_eq_true, if_false]
      rfl
    have fin : Ev (fun k => laws_FnLongestMatchBest.l0 k l (n : Int) (m : Int) (d : Int) ((min 64 n + 1 : Nat) : Int)) true := by
      refine Ev.step (f := fun k => laws_FnLongestMatchBest.j2 k l (n : Int) (m : Int) (d : Int) ((min 64 n + 1 : Nat) : Int) false) (fun k => ?_) (Ev.step (f := fun _ => some true) (fun k => by simp only [laws_FnLongestMatchBest.j2, Bool.false_eq_true, if_false]) (Ev.now _))
      simp only [laws_FnLongestMatchBest.l0]
      by_cases g : ((min 64 n + 1 : Nat) : Int) ≤ (n : Int)
      · have g2 : ¬ ((min 64 n + 1 : Nat) : Int) ≤ 64 := by omega
        rw [if_pos g, decide_eq_false g2]
      · rw [if_neg g]
    have one : ∀ b : Nat, 1 ≤ b → b ≤ 64 → b ≤ n → Ev (fun k => laws_FnLongestMatchBest.l0 k l (n : Int) (m : Int) (d : Int) ((b + 1 : Nat) : Int)) true → ∀ M, (3 ≤ M → M ≤ m ∧ (M = m → d ≤ b)) → ∀ e (i : Nat), i + e = 18 → M = mgo l n b e i → Ev (fun k => laws_FnLongestMatchBest.l1 k l (n : Int) (m : Int) (d : Int) (b : Int) (i : Int)) true := by
      intro b b1 b2 b3 hr M hM
      have eb : Aside0 (wrap64 ((b : Int) + 1) = ((b + 1 : Nat) : Int)) := ⟨by rw [w64 (by omega) (by omega)]; omega⟩
      have tail : ∀ k, (if (M : Int) ≥ 3 then (if (M : Int) > (m : Int) then (some false) else (if (M : Int) = (m : Int) then (if (b : Int) < (d : Int) then (some false) else (laws_FnLongestMatchBest.l0 k l (n : Int) (m : Int) (d : Int) (wrap64 ((b : Int) + 1)))) else (laws_FnLongestMatchBest.l0 k l (n : Int) (m : Int) (d : Int) (wrap64 ((b : Int) + 1))))) else (laws_FnLongestMatchBest.l0 k l (n : Int) (m : Int) (d : Int) (wrap64 ((b : Int) + 1)))) = laws_FnLongestMatchBest.l0 k l (n : Int) (m : Int) (d : Int) ((b + 1 : Nat) : Int) := by
        intro k
        rw [eb.out]
        by_cases t1 : 3 ≤ M
        · obtain ⟨t2, t3⟩ := hM t1
          rw [if_pos (show (M : Int) ≥ 3 by omega), if_neg (show ¬ (M : Int) > (m : Int) by omega)]
          by_cases t4 : (M : Int) = (m : Int)
          · have := t3 (by omega)
            rw [if_pos t4, if_neg (show ¬ (b : Int) < (d : Int) by omega)]
          · rw [if_neg t4]
        · rw [if_neg (show ¬ (M : Int) ≥ 3 by omega)]
      intro e
      induction e with
      | zero =>
        intro i hi
        have f1 : ¬ (i : Int) < 18 := by omega
        intro hm
        have hm' : M = i := by rw [hm]; rfl
        subst hm'
        refine Ev.step (fun k => ?_) hr
        simp only [laws_FnLongestMatchBest.l1]
        rw [if_neg f1]
        exact tail k
      | succ e ih =>
        intro i hi
        have e1 : Aside0 (wrap64 ((n : Int) + (i : Int)) = ((n + i : Nat) : Int)) := ⟨by rw [w64 (by omega) (by omega)]; omega⟩
        have e2 : Aside0 (wrap64 (((n + i : Nat) : Int) - (b : Int)) = ((n + i - b : Nat) : Int)) := ⟨by rw [w64 (by omega) (by omega)]; omega⟩
        have e3 : Aside0 (wrap64 ((i : Int) + 1) = ((i + 1 : Nat) : Int)) := ⟨by rw [w64 (by omega) (by omega)]; omega⟩
        have f1 : (i : Int) < 18 := by omega
        have f2 : n + i < l.length → ((n + i : Nat) : Int) < (l.length : Int) := fun c => by omega
        have f3 : ¬ n + i < l.length → ¬ ((n + i : Nat) : Int) < (l.length : Int) := fun c => by omega
        have f4 : n + i < l.length → ((n + i - b : Nat) : Int) < (l.length : Int) := fun c => by omega
        have f5 : i + 1 + e = 18 := by omega
        have ih := ih (i + 1) f5
        intro hm
        simp only [mgo] at hm
        by_cases c : n + i < l.length
        · by_cases g : l.getD (n + i) 0 = l.getD (n + i - b) 0
          · rw [if_pos ⟨c, g⟩] at hm
            refine Ev.step (fun k => ?_) (ih hm)
            simp only [laws_FnLongestMatchBest.l1, e1.out, e2.out, e3.out, rd_nat]
            rw [if_pos f1, if_pos (f2 c), if_pos (Int.natCast_nonneg (n + i)), if_pos (Int.natCast_nonneg (n + i - b)), if_pos (f4 c), if_pos g]
          · rw [if_neg (fun h => g h.2)] at hm
            subst hm
            refine Ev.step (fun k => ?_) hr
            simp only [laws_FnLongestMatchBest.l1, e1.out, e2.out, rd_nat]
            rw [if_pos f1, if_pos (f2 c), if_pos (Int.natCast_nonneg (n + M)), if_pos (Int.natCast_nonneg (n + M - b)), if_pos (f4 c), if_neg g]
            exact tail k
        · rw [if_neg (fun h => c h.1)] at hm
          subst hm
          refine Ev.step (fun k => ?_) hr
          simp only [laws_FnLongestMatchBest.l1, e1.out]
          rw [if_pos f1, if_neg (f3 c)]
          exact tail k
    have key : ∀ j b, b + j = min 64 n → Ev (fun k => laws_FnLongestMatchBest.l0 k l (n : Int) (m : Int) (d : Int) ((b + 1 : Nat) : Int)) true := by
      intro j
      induction j with
      | zero =>
        intro b hb
        rw [show b = min 64 n by omega]
        exact fin
      | succ j ih =>
        intro b hb
        have ih := ih (b + 1) (by omega)
        have g1 : ((b + 1 : Nat) : Int) ≤ (n : Int) := by omega
        have g2 : ((b + 1 : Nat) : Int) ≤ 64 := by omega
        refine Ev.step (f := fun k => laws_FnLongestMatchBest.j2 k l (n : Int) (m : Int) (d : Int) ((b + 1 : Nat) : Int) true) (fun k => ?_) (Ev.step (f := fun k => laws_FnLongestMatchBest.l1 k l (n : Int) (m : Int) (d : Int) ((b + 1 : Nat) : Int) ((0 : Nat) : Int)) (fun k => by simp only [laws_FnLongestMatchBest.j2, if_true]; rfl) ?_)
        · simp only [laws_FnLongestMatchBest.l0]
          rw [if_pos g1, decide_eq_true g2]
        · have o1 : 1 ≤ b + 1 := by omega
          have o2 : b + 1 ≤ 64 := by omega
          have o3 : b + 1 ≤ n := by omega
          exact one (b + 1) o1 o2 o3 ih (mlen l n (b + 1)) (fun h3 => hbest (b + 1) o1 o2 o3 h3) 18 0 rfl (mlen_def _ _ _)
    exact key (min 64 n) 0 (by omega)
  · have e : lmP l a = (-1, -1) := if_neg c
    rw [e]
    refine Ev.step (f := fun _ => some true) (fun k => ?_) (Ev.now _)
    simp [laws_FnLongestMatchBest.j0]

end Go.Proofs.Ytckndapolgajfaa.Pure
