/- Pairs of numbers are numbers of twice the depth: PackRow of the pairs is PackRow of the row; at every code. -/
import Derived.Test.YtikgepiglmnehaaPackLaws
import Derived.Test.YtikgepiglmnehaaPackDraw
import Derived.Test.YtikgepiglmnehaaQ10
namespace Go.Proofs.Ytikgepiglmnehaa.Pure
open Go.RowKit Go.Proofs.Ytikgepiglmnehaa.Q Go.Proofs.Ytikgepiglmnehaa.B Go.Proofs.YtikgepiglmnehaaW.PrintWords Go.Proofs.YtikgepiglmnehaaW.PrintLast Go.Proofs.YtikgepiglmnehaaW.PrintMore
set_option linter.unusedVariables false

theorem pairs_loop (u bytes : List Int) (d : Int) (h : okD d = true) (h8 : d ≠ 8) (hu : small u d.toNat) (hl : u.length ≤ 64) (n : Nat) (hn : u.length = 2 * n) (hp : packP (pairs u d.toNat n) (2 * d) = bytes) (hb : bytes.length ≤ 1000) :
    Ev (fun k => laws_FnPackRowDouble.l0 k u d bytes [] 0) true := by
  obtain ⟨n1, n2, n3⟩ := okD_nat h
  obtain ⟨f0, _, _, f3, f4, f5⟩ := d_facts h
  have hpos := okN_pos n1
  refine ev_for (fun k (s : List Int) i => laws_FnPackRowDouble.l0 k u d bytes s (2 * (i : Int))) n (fun i => pairs u d.toNat i) (fun i hi r hr => ?_) _ ?_
  · refine Ev.step (fun k => ?_) hr
    have a1 := small_get hu (2 * i)
    have a2 := small_get hu (2 * i + 1)
    have hx2 : (2 : Int) ^ d.toNat ≤ 16 := by
      rw [n3]
      rcases okD_cases h with rfl | rfl | rfl | rfl
      · decide
      · decide
      · decide
      · exact absurd rfl h8
    simp only [laws_FnPackRowDouble.l0]
    have e1 : wrap64 (2 * (i : Int) + 1) = ((2 * i + 1 : Nat) : Int) := by rw [w64 (by omega) (by omega)]; omega
    have e2 : wrap64 (2 * (i : Int) + 2) = 2 * ((i + 1 : Nat) : Int) := by rw [w64 (by omega) (by omega)]; omega
    have e3 : (2 * (i : Int)) = ((2 * i : Nat) : Int) := by omega
    have e4 : shl .i64 (rd u ((2 * i : Nat) : Int)) d = u.getD (2 * i) 0 * 2 ^ d.toNat := by
      rw [rd_nat, ← n2]
      exact shl_ok _ _ (by omega) a1.1 (by omega)
    have hm : u.getD (2 * i) 0 * 2 ^ d.toNat ≤ 16 * 16 := Int.mul_le_mul (by omega) hx2 (by omega) (by omega)
    have hm0 : 0 ≤ u.getD (2 * i) 0 * 2 ^ d.toNat := Int.mul_nonneg a1.1 (by omega)
    rw [e1, e2, e3, e4, rd_nat, if_pos (by omega), if_pos (by omega), if_pos (by omega), if_pos f0, if_pos (by omega), if_pos (by rw [pairs_length]; omega), w64 (by omega) (by omega), ← pairs_succ]
  · refine Ev.step (f := fun k => (impl_PackRow.f k (pairs u d.toNat n) (2 * d)).bind fun t => (laws_equalInts.f k t bytes).bind fun z => some z) (fun k => ?_) ?_
    · simp only [laws_FnPackRowDouble.l0]
      rw [if_neg (by rw [w64 (by omega) (by omega)]; omega), w64 (x := 2 * d) (by omega) (by omega)]
    · have := implPackRow_ev (pairs u d.toNat n) (2 * d)
      rw [hp] at this
      rw [ev_bind_iff this, ev_bind_iff (laws_equalInts_same bytes (by omega))]
      exact Ev.now _
theorem FnPackRowDouble : laws_FnPackRowDouble.Pure := by
  intro l _ _ hw
  refine Ev.rounds (g := fun k => laws_FnPackRowDouble.f k l) (r := true) ?_
  unfold laws_FnPackRowDouble.f
  by_cases hl : (l.length : Int) > 1048576
  · exact ev_pos hl (Ev.now _)
  refine ev_neg hl ?_
  obtain ⟨u, d, hu, hul⟩ := drawPack_ok l hw
  have hp := packP_length u d
  rw [ev_bind_iff hu, ev_bind_iff (implPackRow_ev u d), ev_bind_iff (specPackRow_ev u d (by omega)), ev_bind_iff (laws_equalInts_same (packP u d) (by omega))]
  dsimp only
  have hj : Ev (fun k => laws_FnPackRowDouble.j0 k u d (packP u d) true) true := by
    refine Ev.step (f := fun k => (spec_PackRow.f k u d).bind fun t => (laws_equalInts.f k (packP u d) t).bind fun z => some z) (fun k => ?_) ?_
    · simp only [laws_FnPackRowDouble.j0, if_true]
    · rw [ev_bind_iff (specPackRow_ev u d (by omega)), ev_bind_iff (laws_equalInts_same (packP u d) (by omega))]
      exact Ev.now _
  refine ev_pos rfl ?_
  by_cases h0 : ((packP u d).length : Int) = 0
  · exact ev_pos h0 hj
  refine ev_neg h0 ?_
  by_cases h8 : d = 8
  · exact ev_pos h8 hj
  refine ev_neg h8 ?_
  have hr : okRow u d = true := by
    cases e : okRow u d with
    | true => rfl
    | false =>
      exfalso
      apply h0
      unfold packP
      rw [if_neg (by rw [e]; simp)]
      rfl
  obtain ⟨h1, h2, h3⟩ := okRow_small hr
  obtain ⟨n1, n2, n3⟩ := okD_nat h1
  by_cases he : u.length % 2 = 1
  · rw [show ((u.length : Int) % 2 == 1) = true by rw [beq_iff_eq]; omega]
    exact hj
  · rw [show ((u.length : Int) % 2 == 1) = false by rw [beq_eq_false_iff_ne]; omega]
    refine Ev.step (f := fun k => laws_FnPackRowDouble.l0 k u d (packP u d) [] 0) (fun k => ?_) ?_
    · simp only [laws_FnPackRowDouble.j0]
      rw [if_neg (by decide)]
    · have hd2 : okD (2 * d) = true ∧ okN (2 * d.toNat) ∧ (2 * d).toNat = 2 * d.toNat := by
        rcases okD_cases h1 with rfl | rfl | rfl | rfl
        · exact ⟨by decide, by unfold okN; decide, by decide⟩
        · exact ⟨by decide, by unfold okN; decide, by decide⟩
        · exact ⟨by decide, by unfold okN; decide, by decide⟩
        · exact absurd rfl h8
      refine pairs_loop u _ d h1 h8 h3 h2 (u.length / 2) (by omega) ?_ (by omega)
      have e : packP u d = pk u d.toNat := by
        unfold packP
        rw [if_pos hr]
      rw [e, ← pk_double n1 hd2.2.1 u (u.length / 2) (by omega), ← hd2.2.2]
      unfold packP
      rw [if_pos]
      unfold okRow
      have hs := pairs_small (n := u.length / 2) n1 h3
      obtain ⟨_, _, m3⟩ := okD_nat hd2.1
      rw [hd2.2.2] at m3
      rw [hd2.1, pairs_length, decide_eq_true (show u.length / 2 ≤ 64 by omega)]
      simp only [Bool.true_and, List.all_eq_true, Bool.and_eq_true, decide_eq_true_eq]
      intro x hx
      have := hs x hx
      omega

end Go.Proofs.Ytikgepiglmnehaa.Pure
