/- No filter is better: the sum over FilterRow with BestFilter is least; at every code. -/
import Derived.Test.YtjenogaceloiiaaBest
import Derived.Test.YtjenogaceloiiaaFilterDraw
import Derived.Test.YtjenogaceloiiaaQ14
namespace Go.Proofs.Ytjenogaceloiiaa.Pure
open Go.RowKit Go.Proofs.Ytjenogaceloiiaa.Q Go.Proofs.Ytjenogaceloiiaa.B Go.Proofs.YtjenogaceloiiaaW.PrintWords Go.Proofs.YtjenogaceloiiaaW.PrintLast Go.Proofs.YtjenogaceloiiaaW.PrintMore
set_option linter.unusedVariables false

theorem law_sum (l before : List Int) (s best kind : Int) (costs t : List Int) (ht : byt t) (hn : t.length ≤ 64) (r : Bool)
    (hr : Ev (fun k => laws_FnBestFilter.l1 k l before s best costs kind t (costTo t t.length) (t.length : Int)) r) : Ev (fun k => laws_FnBestFilter.l1 k l before s best costs kind t 0 0) r := by
  refine ev_for (fun k (z : Int) i => laws_FnBestFilter.l1 k l before s best costs kind t z (i : Int)) t.length (fun i => costTo t i) (fun i hi r hr => ?_) _ hr
  refine Ev.step (fun k => ?_) hr
  have h1 := costTo_bounds ht i
  have h2 := mn_byte _ (ht i)
  have h3 := ht i
  simp only [laws_FnBestFilter.l1]
  rw [if_pos (by omega), if_pos (by omega), rd_nat, w64 (x := 256 - t.getD i 0) (by omega) (by omega), w64 (x := costTo t i + mn (t.getD i 0) (256 - t.getD i 0)) (by omega) (by omega), w64 (x := (i : Int) + 1) (by omega) (by omega)]
  rfl
theorem law_round {l before : List Int} {s : Int} (h : okRows l before s = true) (best kind : Int) (costs : List Int) (h0 : 0 ≤ kind) (h4 : kind ≤ 4) (hl : costs.length ≤ 10) (r : Bool)
    (hr : Ev (fun k => laws_FnBestFilter.l0 k l before s best (costs ++ [cK l before s.toNat kind]) (kind + 1)) r) : Ev (fun k => laws_FnBestFilter.l0 k l before s best costs kind) r := by
  obtain ⟨hR, hs⟩ := okRows_rows h
  have hlen := hR.len
  refine Ev.step (f := fun k => (impl_FilterRow.f k kind l before s).bind fun t => laws_FnBestFilter.l1 k l before s best costs kind t 0 0) (fun k => ?_) ?_
  · simp only [laws_FnBestFilter.l0]
    rw [if_pos h4]
  have e : filtP kind l before s = filt kind l before s.toNat l.length := by
    unfold filtP
    rw [if_pos]
    refine ⟨?_, h⟩
    unfold okKind
    rw [decide_eq_true h0, decide_eq_true h4]
    rfl
  have hf := implFilter_ev kind l before s
  rw [e] at hf
  rw [ev_bind_iff hf]
  refine law_sum l before s best kind costs _ (byt_mem (filt_byt _ _ _ _ _)) (by rw [filt_length]; exact hlen) r ?_
  rw [filt_length]
  refine Ev.step (fun k => ?_) hr
  simp only [laws_FnBestFilter.l1]
  rw [if_neg (by rw [filt_length]; omega), if_pos (by omega), w64 (by omega) (by omega)]
  rfl
theorem law_check (costs : List Int) (best : Int) (h0 : 0 ≤ best) (h4 : best < (costs.length : Int)) (hl : costs.length ≤ 10)
    (h : ∀ i : Nat, i < costs.length → rd costs best ≤ rd costs (i : Int) ∧ (rd costs (i : Int) = rd costs best → best ≤ (i : Int))) : Ev (fun k => laws_FnBestFilter.l2 k best costs 0) true := by
  refine ev_for (fun k (_ : Unit) i => laws_FnBestFilter.l2 k best costs (i : Int)) costs.length (fun _ => ()) (fun i hi r hr => ?_) _ ?_
  · obtain ⟨g1, g2⟩ := h i hi
    refine Ev.step (fun k => ?_) hr
    simp only [laws_FnBestFilter.l2]
    rw [if_pos (by omega), if_neg (by omega), if_pos (by omega), if_pos h0, if_pos h4, if_neg (by omega), w64 (x := (i : Int) + 1) (by omega) (by omega)]
    by_cases c : rd costs (i : Int) = rd costs best
    · rw [if_pos c, if_neg (by have := g2 c; omega)]
      rfl
    · rw [if_neg c]
      rfl
  · refine Ev.step (f := fun _ => some true) (fun k => ?_) (Ev.now _)
    simp only [laws_FnBestFilter.l2]
    rw [if_neg (by omega)]
theorem FnBestFilter : laws_FnBestFilter.Pure := by
  intro l _ _ hw
  refine Ev.rounds (g := fun k => laws_FnBestFilter.f k l) (r := true) ?_
  unfold laws_FnBestFilter.f
  by_cases hl : (l.length : Int) > 1048576
  · exact ev_pos hl (Ev.now _)
  refine ev_neg hl ?_
  obtain ⟨u, z, s, hu, h1, h2⟩ := drawBest_ok l hw
  rw [ev_bind_iff hu, ev_bind_iff (implBestFilter_ev u z s), ev_bind_iff (specBestFilter_ev u z s (by omega) (by omega))]
  refine ev_pos rfl ?_
  by_cases hc : okRows u z s = true
  · have e : bestFP u z s = bestP (cK u z s.toNat) := by
      unfold bestFP
      rw [if_pos hc]
    obtain ⟨b0, b4, bl⟩ := bestP_least (cK u z s.toNat)
    dsimp only
    rw [e, decide_eq_false (show ¬ bestP (cK u z s.toNat) < 0 by omega)]
    refine Ev.step (f := fun k => laws_FnBestFilter.l0 k u z s (bestP (cK u z s.toNat)) [] 0) (fun k => ?_) ?_
    · simp only [laws_FnBestFilter.j0]
      rw [if_neg (by decide)]
    refine law_round hc _ 0 _ (by omega) (by omega) (by simp) _ ?_
    refine law_round hc _ (0 + 1) _ (by omega) (by omega) (by simp) _ ?_
    refine law_round hc _ (0 + 1 + 1) _ (by omega) (by omega) (by simp) _ ?_
    refine law_round hc _ (0 + 1 + 1 + 1) _ (by omega) (by omega) (by simp) _ ?_
    refine law_round hc _ (0 + 1 + 1 + 1 + 1) _ (by omega) (by omega) (by simp) _ ?_
    refine Ev.step (f := fun k => laws_FnBestFilter.l2 k (bestP (cK u z s.toNat)) [cK u z s.toNat 0, cK u z s.toNat 1, cK u z s.toNat 2, cK u z s.toNat 3, cK u z s.toNat 4] 0) (fun k => ?_) ?_
    · simp only [laws_FnBestFilter.l0]
      rw [if_neg (by decide)]
      rfl
    · have hrd : ∀ j : Int, 0 ≤ j → j ≤ 4 → rd [cK u z s.toNat 0, cK u z s.toNat 1, cK u z s.toNat 2, cK u z s.toNat 3, cK u z s.toNat 4] j = cK u z s.toNat j := by
        intro j j0 j4
        obtain rfl | rfl | rfl | rfl | rfl : j = 0 ∨ j = 1 ∨ j = 2 ∨ j = 3 ∨ j = 4 := by omega
        all_goals rfl
      refine law_check _ _ b0 (by simp; omega) (by simp) fun i hi => ?_
      simp at hi
      rw [hrd _ b0 b4, hrd _ (by omega) (by omega)]
      exact bl (i : Int) (by omega) (by omega)
  · have e : bestFP u z s = -1 := by
      unfold bestFP
      rw [if_neg hc]
    dsimp only
    rw [e]
    refine Ev.step (f := fun k => (spec_BestFilter.f k u z s).bind fun t => some ((-1 : Int) == t)) (fun k => ?_) ?_
    · simp only [laws_FnBestFilter.j0]
      rw [if_pos (by decide)]
    · have := specBestFilter_ev u z s (by omega) (by omega)
      rw [e] at this
      rw [ev_bind_iff this]
      exact Ev.now _

end Go.Proofs.Ytjenogaceloiiaa.Pure
