/- Reduced numbers are the nearest ones and reducing keeps the order; at every code. -/
import Derived.Test.YtikgepiglmnehaaDepth
import Derived.Test.YtikgepiglmnehaaDraw
import Derived.Test.YtikgepiglmnehaaQ2
namespace Go.Proofs.Ytikgepiglmnehaa.Pure
open Go.RowKit Go.Proofs.Ytikgepiglmnehaa.Q Go.Proofs.Ytikgepiglmnehaa.B Go.Proofs.YtikgepiglmnehaaW.PrintWords Go.Proofs.YtikgepiglmnehaaW.PrintLast Go.Proofs.YtikgepiglmnehaaW.PrintMore
set_option linter.unusedVariables false

theorem near_ok (n d : Int) (hd : okD d = true) (h : 0 ≤ n ∧ n ≤ 255) :
    0 ≤ redP n d ∧ redP n d ≤ most d ∧ 0 ≤ expP (redP n d) d ∧ expP (redP n d) d ≤ 255 ∧ 2 * (expP (redP n d) d - n) * most d ≤ 255 ∧ 2 * (n - expP (redP n d) d) * most d ≤ 255 ∧ (n = 255 ∨ redP n d ≤ redP (n + 1) d) := by
  have e1 : redP n d = (2 * n * most d + 255) / 510 := by
    unfold redP
    rw [if_pos ⟨hd, h⟩]
  have e2 : n = 255 ∨ redP (n + 1) d = (2 * (n + 1) * most d + 255) / 510 := by
    rcases Int.lt_or_eq_of_le h.2 with h' | h'
    · right
      unfold redP
      rw [if_pos ⟨hd, by omega, by omega⟩]
    · exact .inl h'
  have b : 0 ≤ (2 * n * most d + 255) / 510 ∧ (2 * n * most d + 255) / 510 ≤ most d := by
    rcases okD_cases hd with rfl | rfl | rfl | rfl
    all_goals
      simp only [most]
      simp
      omega
  have e3 : expP ((2 * n * most d + 255) / 510) d = 255 * ((2 * n * most d + 255) / 510) / most d := by
    unfold expP
    rw [if_pos ⟨hd, b⟩]
  rw [e1, e3]
  clear e1 e3
  generalize redP (n + 1) d = z at e2
  rcases okD_cases hd with rfl | rfl | rfl | rfl
  all_goals
    simp [most] at b e2
    simp [most]
    omega
theorem FnReduceDepth : laws_FnReduceDepth.Pure := by
  intro l _ _ hw
  refine Ev.rounds (g := fun k => laws_FnReduceDepth.f k l) (r := true) ?_
  unfold laws_FnReduceDepth.f
  by_cases hl : (l.length : Int) > 1048576
  · exact ev_pos hl (Ev.now _)
  refine ev_neg hl ?_
  obtain ⟨b, hb, hB⟩ := newReader_ok l hw
  obtain ⟨v, hv, v0, v1⟩ := pick_ok b 0 258 hB (by omega) (by omega) (by omega)
  obtain ⟨d, hd, dm⟩ := one_ok b (0 + 1) [1, 2, 4, 8, 1, 4, 3, 0] hB (by omega) (by omega) (by simp)
  have hD : Ev (fun k => spec_DrawReduceDepth.f k l) (wrap64 (v - 1), d) := by
    unfold spec_DrawReduceDepth.f spec_anyDepth.f
    rw [hb]
    simp only [Option.bind_some]
    rw [ev_bind_iff hv]
    simp only
    rw [ev_bind_iff (a := (d, 0 + 1 + 1)) (by rw [ev_bind_iff hd]; exact Ev.now _)]
    exact Ev.now _
  rw [ev_bind_iff hD]
  simp only
  rw [w64 (by omega) (by omega)]
  generalize hn : v - 1 = n
  rw [implRed_eq, specRed_eq]
  simp only [Option.bind_some, if_true]
  refine Ev.step (f := fun _ => some true) (fun k => ?_) (Ev.now _)
  simp only [laws_FnReduceDepth.j0]
  by_cases hv : okD d = true ∧ 0 ≤ n ∧ n ≤ 255
  · obtain ⟨h1, h2, h3, h4, h5, h6, h7⟩ := near_ok n d hv.1 hv.2
    obtain ⟨f0, _, f2, f3, f4, _⟩ := d_facts hv.1
    rw [if_neg (by simp [h1]), implExp_eq]
    simp only [Option.bind_some]
    generalize expP (redP n d) d = x at h3 h4 h5 h6
    have ha : ∃ t, laws_absolute.f (wrap64 (x - n)) = some t ∧ 0 ≤ t ∧ t ≤ 255 ∧ 2 * t * most d ≤ 255 := by
      rw [w64 (by omega) (by omega)]
      unfold laws_absolute.f
      by_cases c : x - n < 0
      · rw [if_pos c, w64 (by omega) (by omega)]
        refine ⟨_, rfl, by omega, by omega, ?_⟩
        rw [Int.neg_sub]
        exact h6
      · rw [if_neg c]
        exact ⟨_, rfl, by omega, by omega, h5⟩
    obtain ⟨t, ht, t0, t1, t2⟩ := ha
    rw [ht]
    simp only [Option.bind_some]
    rw [if_pos f0, f2, w64 (x := 2 * t) (by omega) (by omega), w64 (x := 2 * t * most d) (by have := Int.mul_nonneg (show 0 ≤ 2 * t by omega) (show 0 ≤ most d by omega); omega) (by omega), if_pos t2]
    by_cases c : n = 255
    · rw [if_pos c]
    · rw [if_neg c, implRed_eq, w64 (by omega) (by omega)]
      simp only [Option.bind_some]
      rcases h7 with h7 | h7
      · exact absurd h7 c
      · simp [h7]
  · have e : redP n d = -1 := by
      unfold redP
      rw [if_neg hv]
    rw [e]
    simp [specRed_eq, e]

end Go.Proofs.Ytikgepiglmnehaa.Pure
