/- What LongestMatch finds lies earlier, is equal, and cannot be longer; at every code. -/
import Derived.Test.YtckndapolgajfaaTokL
import Derived.Test.YtckndapolgajfaaTokDraw
import Derived.Test.YtckndapolgajfaaQ28
namespace Go.Proofs.Ytckndapolgajfaa.Pure
open Go.RowKit Go.Proofs.Ytckndapolgajfaa.Q Go.Proofs.Ytckndapolgajfaa.B Go.Proofs.YtckndapolgajfaaW.PrintWords Go.Proofs.YtckndapolgajfaaW.PrintLast Go.Proofs.YtckndapolgajfaaW.PrintMore
set_option linter.unusedVariables false

theorem drawLM_ok (l : List Int) (h : ∀ x ∈ l, (Lit.int .u8 x).wf = true) : ∃ v a, Ev (fun k => spec_DrawLongestMatch.f k l) (v, a) ∧ v.length ≤ 300 := by
  obtain ⟨b, hl, hb⟩ := newReader_ok l h
  obtain ⟨v, p', hv, g1, g2, g3⟩ := anyBytes_ok b hb
  have hm : 1 ≤ mx (v.length : Int) 1 := by unfold mx; split <;> omega
  obtain ⟨c, hc, c0, c1⟩ := pick_ok b p' (mx (v.length : Int) 1) hb g1 (by omega) hm
  obtain ⟨a, ha, _⟩ := one_ok b (p' + 1) [3, 5, c, 0, -1, (v.length : Int)] hb (by omega) (by omega) (by simp)
  refine ⟨v, a, ?_, g3⟩
  unfold spec_DrawLongestMatch.f
  rw [hl]
  simp only [Option.bind_some]
  rw [ev_bind_iff hv, ev_bind_iff hc, ev_bind_iff ha]
  exact Ev.now _
theorem FnLongestMatch : laws_FnLongestMatch.Pure := by
  intro l0 _ _ hw
  refine Ev.rounds (g := fun k => laws_FnLongestMatch.f k l0) (r := true) ?_
  unfold laws_FnLongestMatch.f
  by_cases hl : (l0.length : Int) > 1048576
  · exact ev_pos hl (Ev.now _)
  refine ev_neg hl ?_
  obtain ⟨l, a, hd, hn⟩ := drawLM_ok l0 hw
  rw [ev_bind_iff hd, ev_bind_iff (implLM_ev l a), ev_bind_iff (specLM_ev l a)]
  refine ev_pos rfl (ev_pos rfl ?_)
  by_cases c : okBytes l = true ∧ 0 ≤ a ∧ a < (l.length : Int)
  · have e : lmP l a = (((longest l a.toNat).1 : Int), ((longest l a.toNat).2 : Int)) := if_pos c
    rw [e]
    obtain ⟨n, rfl⟩ := Int.eq_ofNat_of_zero_le c.2.1
    have hlt : n < l.length := by omega
    rw [Int.toNat_natCast]
    dsimp only
    have hok := (longest_ok l n).1
    have hend := (longest_len l n (by omega)).2.2
    generalize hp : longest l n = p at hok hend
    obtain ⟨m, d⟩ := p
    dsimp only at hok hend ⊢
    rcases hok with hz | ⟨g1, g2, g3, g4, g5, g6⟩
    · have hm : m = 0 := congrArg Prod.fst hz
      subst hm
      refine Ev.step (f := fun _ => some true) (fun k => ?_) (Ev.now _)
      simp [laws_FnLongestMatch.j0]
    · have hmm : ∀ i, i < m → n + i < l.length ∧ l.getD (n + i) 0 = l.getD (n + i - d) 0 := fun i hi => mlen_eq l n d i (by rw [← g6]; exact hi)
      have hst : ∀ u : Unit, m = 18 ∨ l.length ≤ n + m ∨ l.getD (n + m) 0 ≠ l.getD (n + m - d) 0 := fun _ => by
        have h := mlen_stop l n d
        rw [← g6] at h
        exact h
      clear g6 hp
      have w1 : Aside0 (wrap64 ((n : Int) + (m : Int)) = ((n + m : Nat) : Int)) := ⟨by rw [w64 (by omega) (by omega)]; omega⟩
      have w2 : Aside0 (wrap64 (((n + m : Nat) : Int) - (d : Int)) = ((n + m - d : Nat) : Int)) := ⟨by rw [w64 (by omega) (by omega)]; omega⟩
      have x1 : ¬ (d : Int) < 1 := by omega
      have x2 : ¬ (d : Int) > (n : Int) := by omega
      have x3 : ¬ ((n + m : Nat) : Int) > (l.length : Int) := by omega
      have x4 : ¬ (m : Int) ≤ 0 := by omega
      refine Ev.step (f := fun k => laws_FnLongestMatch.j1 k l (n : Int) (m : Int) (d : Int) false) (fun k => ?_) ?_
      · simp only [laws_FnLongestMatch.j0, decide_eq_false x4, Bool.false_eq_true, if_false, w1.out]
        rw [if_neg x1, if_neg x2, decide_eq_false x3]
      refine Ev.step (f := fun k => laws_FnLongestMatch.l0 k l (n : Int) (m : Int) (d : Int) ((n : Nat) : Int)) (fun k => by simp only [laws_FnLongestMatch.j1, Bool.false_eq_true, if_false]) ?_
      have fin : Ev (fun k => laws_FnLongestMatch.l0 k l (n : Int) (m : Int) (d : Int) ((n + m : Nat) : Int)) true := by
        refine Ev.step (f := fun _ => some true) (fun k => ?_) (Ev.now _)
        have y1 : ¬ ((n + m : Nat) : Int) < ((n + m : Nat) : Int) := by omega
        simp only [laws_FnLongestMatch.l0, w1.out, w2.out]
        rw [if_neg y1]
        by_cases h18 : (m : Int) = 18
        · rw [if_pos h18]
        rw [if_neg h18]
        by_cases hle : ((n + m : Nat) : Int) = (l.length : Int)
        · rw [if_pos hle]
        rw [if_neg hle]
        have y2 : ((n + m : Nat) : Int) < (l.length : Int) := by omega
        have y3 : ((n + m - d : Nat) : Int) < (l.length : Int) := by omega
        rw [if_pos (Int.natCast_nonneg _), if_pos y2, if_pos (Int.natCast_nonneg _), if_pos y3, rd_nat, rd_nat]
        have y4 : ¬ m = 18 := by omega
        have y5 : ¬ l.length ≤ n + m := by omega
        rcases hst () with h | h | h
        · exact absurd h y4
        · exact absurd h y5
        · congr 1
          simp only [bne_iff_ne, ne_eq]
          exact h
      have key : ∀ j i, i + j = m → Ev (fun k => laws_FnLongestMatch.l0 k l (n : Int) (m : Int) (d : Int) ((n + i : Nat) : Int)) true := by
        intro j
        induction j with
        | zero =>
          intro i hi
          rw [show i = m by omega]
          exact fin
        | succ j ih =>
          intro i hi
          have ih := ih (i + 1) (by omega)
          have z0 : i < m := by omega
          have z1 := (hmm i z0).1
          have v1 : Aside0 (wrap64 (((n + i : Nat) : Int) - (d : Int)) = ((n + i - d : Nat) : Int)) := ⟨by rw [w64 (by omega) (by omega)]; omega⟩
          have v2 : Aside0 (wrap64 (((n + i : Nat) : Int) + 1) = ((n + (i + 1) : Nat) : Int)) := ⟨by rw [w64 (by omega) (by omega)]; omega⟩
          have v3 : ((n + i : Nat) : Int) < ((n + m : Nat) : Int) := by omega
          have v4 : ((n + i : Nat) : Int) < (l.length : Int) := by omega
          have v5 : ((n + i - d : Nat) : Int) < (l.length : Int) := by omega
          have z2 := (hmm i z0).2
          refine Ev.step (fun k => ?_) ih
          simp only [laws_FnLongestMatch.l0, w1.out, v1.out, v2.out]
          rw [if_pos v3, if_pos (Int.natCast_nonneg _), if_pos v4, if_pos (Int.natCast_nonneg _), if_pos v5, rd_nat, rd_nat, if_pos z2]
      exact key m 0 (by omega)
  · have e : lmP l a = (-1, -1) := if_neg c
    rw [e]
    refine Ev.step (f := fun _ => some true) (fun k => ?_) (Ev.now _)
    simp [laws_FnLongestMatch.j0]

end Go.Proofs.Ytckndapolgajfaa.Pure
