/- What the functions on depths answer, in plain numbers. No conditions. -/
import Derived.Test.YtikgepiglmnehaaLoops
import Derived.Test.YtikgepiglmnehaaQ1
namespace Go.Proofs.Ytikgepiglmnehaa.B
open Go.RowKit Go.Proofs.Ytikgepiglmnehaa.Q Go.Proofs.YtikgepiglmnehaaW.PrintWords Go.Proofs.YtikgepiglmnehaaW.PrintLast Go.Proofs.YtikgepiglmnehaaW.PrintMore
set_option linter.unusedVariables false

def okD (d : Int) : Bool := decide (d = 1 ∨ d = 2 ∨ d = 4 ∨ d = 8)
theorem okD_cases {d : Int} (h : okD d = true) : d = 1 ∨ d = 2 ∨ d = 4 ∨ d = 8 := by simpa [okD] using h
theorem isD_chain (d : Int) : (if d = 1 then some true else if d = 2 then some true else if d = 4 then some true else some (d == 8)) = some (okD d) := by
  by_cases h1 : d = 1
  · simp [h1, okD]
  · by_cases h2 : d = 2
    · simp [h2, okD]
    · by_cases h4 : d = 4
      · simp [h4, okD]
      · rw [if_neg h1, if_neg h2, if_neg h4]
        by_cases h8 : d = 8
        · simp [h8, okD]
        · have : (d == 8) = false := by rw [beq_eq_false_iff_ne]; exact h8
          simp [okD, h1, h2, h4, h8]
theorem validDepth_eq (d : Int) : spec_validDepth.f d = some (okD d) := by
  unfold spec_validDepth.f
  exact isD_chain d
theorem isDepth_eq (d : Int) : impl_isDepth.f d = some (okD d) := by
  unfold impl_isDepth.f
  exact isD_chain d
/-- The greatest number of a depth. -/
def most (d : Int) : Int := if d = 1 then 1 else if d = 2 then 3 else if d = 4 then 15 else 255
theorem d_facts {d : Int} (h : okD d = true) : 0 ≤ d ∧ shl .i64 1 d = most d + 1 ∧ wrap64 (shl .i64 1 d - 1) = most d ∧ 1 ≤ most d ∧ most d ≤ 255 ∧ d ≤ 8 := by
  have e : shl .i64 1 d = most d + 1 := by rcases okD_cases h with rfl | rfl | rfl | rfl <;> decide
  have h1 : 1 ≤ most d ∧ most d ≤ 255 := by rcases okD_cases h with rfl | rfl | rfl | rfl <;> decide
  refine ⟨by have := okD_cases h; omega, e, ?_, h1.1, h1.2, by have := okD_cases h; omega⟩
  rw [e, w64 (by omega) (by omega)]
  omega
def expP (n d : Int) : Int := if okD d ∧ 0 ≤ n ∧ n ≤ most d then 255 * n / most d else -1
def redP (n d : Int) : Int := if okD d ∧ 0 ≤ n ∧ n ≤ 255 then (2 * n * most d + 255) / 510 else -1
theorem exp_wrap (n m : Int) (h0 : 0 ≤ n) (h1 : n ≤ m) (h2 : 1 ≤ m) (h3 : m ≤ 255) : wrap64 (Int.tdiv (wrap64 (255 * n)) m) = 255 * n / m := by
  rw [w64 (x := 255 * n) (by omega) (by omega), tdivp (by omega)]
  have d1 : 0 ≤ 255 * n / m := Int.ediv_nonneg (by omega) (by omega)
  have d2 : 255 * n / m ≤ 255 * n := Int.ediv_le_self _ (by omega)
  exact w64 (by omega) (by omega)
theorem red_wrap (n m : Int) (h0 : 0 ≤ n) (h1 : n ≤ 255) (h2 : 1 ≤ m) (h3 : m ≤ 255) : wrap64 (Int.tdiv (wrap64 (wrap64 (wrap64 (2 * n) * m) + 255)) 510) = (2 * n * m + 255) / 510 := by
  rw [w64 (x := 2 * n) (by omega) (by omega)]
  have p0 : 0 ≤ 2 * n * m := Int.mul_nonneg (by omega) (by omega)
  have p1 : 2 * n * m ≤ 510 * 255 := Int.mul_le_mul (by omega) h3 (by omega) (by omega)
  generalize 2 * n * m = q at p0 p1
  rw [w64 (x := q) (by omega) (by omega), w64 (x := q + 255) (by omega) (by omega), tdivp (by omega)]
  exact w64 (by omega) (by omega)
theorem specExp_eq (n d : Int) : spec_ExpandDepth.f n d = some (expP n d) := by
  unfold spec_ExpandDepth.f
  rw [validDepth_eq]
  simp only [Option.bind_some]
  by_cases h : okD d = true
  · obtain ⟨f0, _, f2, f3, f4, _⟩ := d_facts h
    rw [if_pos h, if_pos f0, f2, inRange_eq]
    simp only [Option.bind_some]
    by_cases hn : 0 ≤ n ∧ n ≤ most d
    · rw [if_pos (by simpa using hn), if_neg (by omega), exp_wrap n _ hn.1 hn.2 f3 f4]
      simp [expP, h, hn]
    · rw [if_neg (by simpa using hn)]
      simp [expP, hn]
  · rw [if_neg h]
    simp [expP, h]
theorem implExp_eq (n d : Int) : impl_ExpandDepth.f n d = some (expP n d) := by
  unfold impl_ExpandDepth.f
  rw [isDepth_eq]
  simp only [Option.bind_some]
  by_cases h : okD d = true
  · obtain ⟨f0, f1, f2, f3, f4, _⟩ := d_facts h
    rw [if_pos h]
    by_cases h0 : n < 0
    · rw [if_pos h0]
      simp [expP, show ¬ 0 ≤ n by omega]
    · rw [if_neg h0, if_pos f0, f2, f1]
      by_cases h1 : n ≤ most d
      · rw [if_neg (by omega), if_neg (by omega), exp_wrap n _ (by omega) h1 f3 f4]
        simp [expP, h, h1, show 0 ≤ n by omega]
      · rw [if_pos (by omega)]
        simp [expP, h1]
  · rw [if_neg h]
    simp [expP, h]
theorem implRed_eq (n d : Int) : impl_ReduceDepth.f n d = some (redP n d) := by
  unfold impl_ReduceDepth.f
  by_cases h0 : n < 0
  · rw [if_pos h0]
    simp [redP, show ¬ 0 ≤ n by omega]
  · rw [if_neg h0]
    by_cases h1 : n > 255
    · rw [if_pos h1]
      simp [redP, show ¬ n ≤ 255 by omega]
    · rw [if_neg h1, isDepth_eq]
      simp only [Option.bind_some]
      by_cases h : okD d = true
      · obtain ⟨f0, _, f2, f3, f4, _⟩ := d_facts h
        rw [if_pos h, if_pos f0, f2, red_wrap n _ (by omega) (by omega) f3 f4]
        simp [redP, h, show 0 ≤ n by omega, show n ≤ 255 by omega]
      · rw [if_neg h]
        simp [redP, h]
theorem specRed_eq (n d : Int) : spec_ReduceDepth.f n d = some (redP n d) := by
  unfold spec_ReduceDepth.f
  rw [validDepth_eq]
  simp only [Option.bind_some]
  by_cases h : okD d = true
  · obtain ⟨f0, _, f2, f3, f4, _⟩ := d_facts h
    rw [if_pos h, inRange_eq]
    simp only [Option.bind_some]
    by_cases hn : 0 ≤ n ∧ n ≤ 255
    · rw [if_pos (by simpa using hn)]
      unfold spec_reduce.f
      rw [if_pos f0, f2, red_wrap n _ hn.1 hn.2 f3 f4]
      simp [redP, h, hn]
    · rw [if_neg (by simpa using hn)]
      simp [redP, hn]
  · rw [if_neg h]
    simp [redP, h]

end Go.Proofs.Ytikgepiglmnehaa.B
