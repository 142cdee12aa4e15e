/- Levels are kept: ReduceDepth of ExpandDepth is the number, 0 stays 0, the greatest number becomes 255; at every code. -/
import Derived.Test.YtikgepiglmnehaaDepth
import Derived.Test.YtikgepiglmnehaaDraw
import Derived.Test.YtikgepiglmnehaaQ2
namespace Go.Proofs.Ytikgepiglmnehaa.Pure
open Go.RowKit Go.Proofs.Ytikgepiglmnehaa.Q Go.Proofs.Ytikgepiglmnehaa.B Go.Proofs.YtikgepiglmnehaaW.PrintWords Go.Proofs.YtikgepiglmnehaaW.PrintLast Go.Proofs.YtikgepiglmnehaaW.PrintMore
set_option linter.unusedVariables false

theorem back_ok (n d : Int) (hd : okD d = true) (h : 0 ≤ n ∧ n ≤ most d) : redP (expP n d) d = n ∧ expP 0 d = 0 ∧ expP (most d) d = 255 ∧ 0 ≤ expP n d := by
  rcases okD_cases hd with rfl | rfl | rfl | rfl
  all_goals
    simp [most] at h
    simp [redP, expP, okD, most, h]
    omega
theorem shl_most (d : Int) (hd : okD d = true) : wrap64 (shl .i64 1 d - 1) = most d := (d_facts hd).2.2.1
theorem FnExpandDepth : laws_FnExpandDepth.Pure := by
  intro l _ _ hw
  refine Ev.rounds (g := fun k => laws_FnExpandDepth.f k l) (r := true) ?_
  unfold laws_FnExpandDepth.f
  by_cases hl : (l.length : Int) > 1048576
  · exact ev_pos hl (Ev.now _)
  refine ev_neg hl ?_
  obtain ⟨b, hb, hB⟩ := newReader_ok l hw
  obtain ⟨d, hd, dm⟩ := one_ok b 0 [1, 2, 4, 8, 1, 4, 3, 0] hB (by omega) (by omega) (by simp)
  have hd1 : 0 ≤ d ∧ d ≤ 8 := by
    simp at dm
    omega
  have hs : 1 ≤ wrap64 (shl .i64 1 (mx d 0) + 2) := by
    rw [mx_l hd1.1]
    have hb : 0 ≤ shl .i64 1 d ∧ shl .i64 1 d ≤ 256 := by
      simp at dm
      rcases dm with rfl | rfl | rfl | rfl | rfl | rfl | rfl | rfl <;> decide
    rw [w64 (by omega) (by omega)]
    omega
  obtain ⟨v, hv, v0, v1⟩ := pick_ok b (0 + 1) (wrap64 (shl .i64 1 (mx d 0) + 2)) hB (by omega) (by omega) hs
  have hD : Ev (fun k => spec_DrawExpandDepth.f k l) (wrap64 (v - 1), d) := by
    unfold spec_DrawExpandDepth.f spec_anyDepth.f
    rw [hb]
    simp only [Option.bind_some]
    rw [ev_bind_iff (a := (d, 0 + 1)) (by rw [ev_bind_iff hd]; exact Ev.now _)]
    simp only
    rw [ev_bind_iff hv]
    exact Ev.now _
  rw [ev_bind_iff hD]
  simp only
  generalize wrap64 (v - 1) = n
  rw [implExp_eq, specExp_eq]
  simp only [Option.bind_some, if_true]
  refine Ev.step (f := fun _ => some true) (fun k => ?_) (Ev.now _)
  simp only [laws_FnExpandDepth.j0]
  by_cases hn : okD d = true ∧ 0 ≤ n ∧ n ≤ most d
  · obtain ⟨h1, h2, h3, h4⟩ := back_ok n d hn.1 hn.2
    rw [if_neg (by simp [h4]), implRed_eq]
    simp only [Option.bind_some]
    rw [if_pos h1, implExp_eq]
    simp only [Option.bind_some]
    rw [if_pos h2, if_pos hd1.1, shl_most d hn.1, implExp_eq]
    simp [h3]
  · have e : expP n d = -1 := by
      unfold expP
      rw [if_neg hn]
    rw [e]
    simp [specExp_eq, e]

end Go.Proofs.Ytikgepiglmnehaa.Pure
