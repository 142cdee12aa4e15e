/- What the draw of a byte list gives. No conditions. -/
import Derived.Test.YtckndapolgajfaaDraw
import Derived.Test.YtckndapolgajfaaTok
import Derived.Test.YtckndapolgajfaaQ5
namespace Go.Proofs.Ytckndapolgajfaa.B
open Go.RowKit Go.Proofs.Ytckndapolgajfaa.Q Go.Proofs.YtckndapolgajfaaW.PrintWords Go.Proofs.YtckndapolgajfaaW.PrintLast Go.Proofs.YtckndapolgajfaaW.PrintMore
set_option linter.unusedVariables false

theorem anyBytes_l0 (b : List Int) (hb : Bytes b) : ∀ (n : Nat) (x3 : List Int) (p : Int), n ≤ 30 → x3.length + 8 * n ≤ 1000 → 0 ≤ p → p + 3 * n ≤ 100000 →
    ∃ v p', Ev (fun k => spec_anyBytes.l0 k x3 (n : Int) b p) (v, p') ∧ p ≤ p' ∧ p' ≤ p + 3 * n + 3 ∧ v.length ≤ x3.length + 8 * n + 1 := by
  intro n
  induction n with
  | zero =>
    intro x3 p h0 h1 h2 h3
    obtain ⟨v, p', hv, g1, g2, g3, g4⟩ := spoil_ok b p x3 256 hb h2 (by omega) (by omega)
    refine ⟨v, p', ?_, g1, by omega, by omega⟩
    refine Ev.step (f := fun k => (spec_reader_spoil.f k b p x3 256).bind fun t => some (t.1, t.2)) (fun k => ?_) ?_
    · simp only [spec_anyBytes.l0]
      rw [if_neg (show ¬ ((0 : Nat) : Int) > 0 by omega)]
    · rw [ev_bind_iff hv]
      exact Ev.now _
  | succ n ih =>
    intro x3 p h0 h1 h2 h3
    have e1 : wrap64 (((n + 1 : Nat) : Int) - 1) = (n : Int) := by rw [w64 (by omega) (by omega)]; omega
    have lit_ : ∀ q, p ≤ q → q ≤ p + 1 → ∃ v p', Ev (fun k => spec_anyBytes.j1 k x3 ((n + 1 : Nat) : Int) false b q) (v, p') ∧ p ≤ p' ∧ p' ≤ p + 3 * ((n + 1 : Nat) : Int) + 3 ∧ v.length ≤ x3.length + 8 * (n + 1) + 1 := by
      intro q q0 q1
      obtain ⟨c, hc, c0, c1⟩ := pick_ok b q 4 hb (by omega) (by omega) (by omega)
      obtain ⟨v, p', hv, g1, g2, g3⟩ := ih (x3 ++ [wrap64 (c * 80)]) (q + 1) (by omega) (by rw [List.length_append]; simp only [List.length_singleton]; omega) (by omega) (by omega)
      rw [List.length_append] at g3
      simp only [List.length_singleton] at g3
      refine ⟨v, p', ?_, by omega, by omega, by omega⟩
      refine Ev.step (f := fun k => (spec_reader_pick.f k b q 4).bind fun t => if x3.length < 17592186044416 then (spec_anyBytes.l0 k (x3 ++ [wrap64 (t.1 * 80)]) (wrap64 (((n + 1 : Nat) : Int) - 1)) b t.2) else none) (fun k => by simp only [spec_anyBytes.j1, Bool.false_eq_true, if_false]) ?_
      rw [ev_bind_iff hc]
      refine ev_pos (by omega) ?_
      rw [e1]
      exact hv
    have copy_ : (x3.length : Int) > 3 → ∃ v p', Ev (fun k => spec_anyBytes.j1 k x3 ((n + 1 : Nat) : Int) true b (p + 1)) (v, p') ∧ p ≤ p' ∧ p' ≤ p + 3 * ((n + 1 : Nat) : Int) + 3 ∧ v.length ≤ x3.length + 8 * (n + 1) + 1 := by
      intro hx
      obtain ⟨c, hc, c0, c1⟩ := pick_ok b (p + 1) (x3.length : Int) hb (by omega) (by omega) (by omega)
      obtain ⟨e, he, e0, e9⟩ := pick_ok b (p + 1 + 1) 6 hb (by omega) (by omega) (by omega)
      have k1 : wrap64 (1 + c) = 1 + c := w64 (by omega) (by omega)
      have k2 : wrap64 (3 + e) = ((3 + e.toNat : Nat) : Int) := by rw [w64 (by omega) (by omega)]; omega
      -- the list that the copies give
      let u := cpy (1 + c) (3 + e.toNat) x3
      have hu : u.length = x3.length + (3 + e.toNat) := cpy_length _ _ _
      obtain ⟨v, p', hv, g1, g2, g3⟩ := ih u (p + 1 + 1 + 1) (by omega) (by rw [hu]; omega) (by omega) (by omega)
      refine ⟨v, p', ?_, by omega, by omega, by rw [hu] at g3; omega⟩
      refine Ev.step (f := fun k => (spec_reader_pick.f k b (p + 1) (x3.length : Int)).bind fun t => (spec_reader_pick.f k b t.2 6).bind fun t2 => spec_anyBytes.l1 k x3 ((n + 1 : Nat) : Int) (wrap64 (1 + t.1)) (wrap64 (3 + t2.1)) b t2.2) (fun k => by simp only [spec_anyBytes.j1, if_true]) ?_
      rw [ev_bind_iff hc, ev_bind_iff he]
      simp only [k1, k2]
      have step : ∀ (d : Nat) (x : List Int), x.length + d ≤ 10000 → 1 + c ≤ (x.length : Int) → cpy (1 + c) d x = u → Ev (fun k => spec_anyBytes.l1 k x ((n + 1 : Nat) : Int) (1 + c) (d : Int) b (p + 1 + 1 + 1)) (v, p') := by
        intro d
        induction d with
        | zero =>
          intro x a1 a2 a3
          simp only [cpy] at a3
          subst a3
          refine Ev.step (fun k => ?_) hv
          simp only [spec_anyBytes.l1, e1]
          rw [if_neg (show ¬ ((0 : Nat) : Int) > 0 by omega)]
        | succ d ihd =>
          intro x a1 a2 a3
          have b1 : wrap64 ((x.length : Int) - (1 + c)) = (x.length : Int) - (1 + c) := w64 (by omega) (by omega)
          have b2 : wrap64 (((d + 1 : Nat) : Int) - 1) = (d : Int) := by rw [w64 (by omega) (by omega)]; omega
          refine Ev.step (fun k => ?_) (ihd (x ++ [rd x ((x.length : Int) - (1 + c))]) (by rw [List.length_append]; simp only [List.length_singleton]; omega) (by rw [List.length_append]; simp only [List.length_singleton]; omega) a3)
          simp only [spec_anyBytes.l1, b1, b2]
          rw [if_pos (show ((d + 1 : Nat) : Int) > 0 by omega), if_pos (show 0 ≤ (x.length : Int) - (1 + c) by omega), if_pos (show (x.length : Int) - (1 + c) < (x.length : Int) by omega), if_pos (show x.length < 17592186044416 by omega)]
      exact step (3 + e.toNat) x3 (by omega) (by omega) rfl
    by_cases hx : (x3.length : Int) > 3
    · obtain ⟨c, hc, c0, c1⟩ := pick_ok b p 3 hb h2 (by omega) (by omega)
      have hst : ∀ v p', Ev (fun k => spec_anyBytes.j1 k x3 ((n + 1 : Nat) : Int) (c == 0) b (p + 1)) (v, p') → Ev (fun k => spec_anyBytes.l0 k x3 ((n + 1 : Nat) : Int) b p) (v, p') := by
        intro v p' h
        refine Ev.step (f := fun k => (spec_reader_pick.f k b p 3).bind fun t => spec_anyBytes.j1 k x3 ((n + 1 : Nat) : Int) (t.1 == 0) b t.2) (fun k => ?_) ?_
        · simp only [spec_anyBytes.l0]
          rw [if_pos (show ((n + 1 : Nat) : Int) > 0 by omega), if_pos hx]
        · rw [ev_bind_iff hc]
          exact h
      by_cases g : (c == 0) = true
      · obtain ⟨v, p', hv, g1, g2, g3⟩ := copy_ hx
        exact ⟨v, p', hst v p' (by rw [g]; exact hv), g1, g2, g3⟩
      · obtain ⟨v, p', hv, g1, g2, g3⟩ := lit_ (p + 1) (by omega) (by omega)
        exact ⟨v, p', hst v p' (by rw [Bool.eq_false_iff.2 g]; exact hv), g1, g2, g3⟩
    · obtain ⟨v, p', hv, g1, g2, g3⟩ := lit_ p (by omega) (by omega)
      refine ⟨v, p', ?_, g1, g2, g3⟩
      refine Ev.step (fun k => ?_) hv
      simp only [spec_anyBytes.l0]
      rw [if_pos (show ((n + 1 : Nat) : Int) > 0 by omega), if_neg hx]
theorem anyBytes_ok (b : List Int) (hb : Bytes b) : ∃ v p', Ev (fun k => spec_anyBytes.f k b 0) (v, p') ∧ 0 ≤ p' ∧ p' ≤ 1000 ∧ v.length ≤ 300 := by
  obtain ⟨c, hc, hm⟩ := one_ok b 0 [6, 12, 20, 3, 1, 0, 30] hb (by omega) (by omega) (by simp)
  have c0 : 0 ≤ c ∧ c ≤ 30 := by
    simp at hm
    omega
  obtain ⟨v, p', hv, g1, g2, g3⟩ := anyBytes_l0 b hb c.toNat [] (0 + 1) (by omega) (by simp only [List.length_nil]; omega) (by omega) (by omega)
  refine ⟨v, p', ?_, by omega, by omega, by simp only [List.length_nil] at g3; omega⟩
  unfold spec_anyBytes.f
  rw [ev_bind_iff hc]
  rw [show ((c.toNat : Nat) : Int) = c by omega] at hv
  exact hv

end Go.Proofs.Ytckndapolgajfaa.B
