/- Five equal bytes or more cost less than single bytes; at every code. -/
import Derived.Test.YtckndapolgajfaaTokB
import Derived.Test.YtckndapolgajfaaTokC
import Derived.Test.YtckndapolgajfaaTokQ
import Derived.Test.YtckndapolgajfaaTokDraw
import Derived.Test.YtckndapolgajfaaQ31
namespace Go.Proofs.Ytckndapolgajfaa.Pure
open Go.RowKit Go.Proofs.Ytckndapolgajfaa.Q Go.Proofs.Ytckndapolgajfaa.B Go.Proofs.YtckndapolgajfaaW.PrintWords Go.Proofs.YtckndapolgajfaaW.PrintLast Go.Proofs.YtckndapolgajfaaW.PrintMore
set_option linter.unusedVariables false

theorem spec_DrawBestTokens_ok (l : List Int) (h : ∀ x ∈ l, (Lit.int .u8 x).wf = true) : ∃ v, Ev (fun k => spec_DrawBestTokens.f k l) v ∧ v.length ≤ 300 := by
  obtain ⟨b, hl, hb⟩ := newReader_ok l h
  obtain ⟨v, p', hv, g1, g2, g3⟩ := anyBytes_ok b hb
  refine ⟨v, ?_, g3⟩
  unfold spec_DrawBestTokens.f
  rw [hl]
  simp only [Option.bind_some]
  rw [ev_bind_iff hv]
  exact Ev.now _
/-- A list of one byte, repeated. -/
theorem equal_cost (c : Int) (n : Nat) (h : 5 ≤ n) : cst (List.replicate n c) 0 < 9 * (n : Int) := by
  have hlen : (List.replicate n c).length = n := List.length_replicate
  obtain ⟨_, h2, _⟩ := best_ok (List.replicate n c) 0 (by rw [hlen]; omega)
  obtain ⟨_, _, k3⟩ := best_ok (List.replicate n c) 1 (by rw [hlen]; omega)
  have hl := longest_len (List.replicate n c) 1 (by rw [hlen]; omega)
  have hm : 4 ≤ mlen (List.replicate n c) 1 1 := by
    rcases mlen_stop (List.replicate n c) 1 1 with g | g | g
    · omega
    · rw [hlen] at g; omega
    · by_cases q : 1 + mlen (List.replicate n c) 1 1 < n
      · exfalso
        apply g
        rw [getD_lt _ _ (by rw [hlen]; exact q), getD_lt _ _ (by rw [hlen]; omega), List.getElem_replicate, List.getElem_replicate]
      · omega
  have hM := ((longest_ok (List.replicate n c) 1).2 1 (by omega) (by omega) (by omega) (by omega)).1
  have h3 := k3 (longest (List.replicate n c) 1).1 (by omega) (Nat.le_refl _)
  have h4 := (cst_le (List.replicate n c) (n - (1 + (longest (List.replicate n c) 1).1)) (1 + (longest (List.replicate n c) 1).1) (by rw [hlen] at hl ⊢; omega)).1
  rw [hlen] at hl
  rw [Nat.zero_add] at h2
  omega
theorem FnTokensOfEqualBytes : laws_FnTokensOfEqualBytes.Pure := by
  intro l0 _ _ hw
  refine Ev.rounds (g := fun k => laws_FnTokensOfEqualBytes.f k l0) (r := true) ?_
  unfold laws_FnTokensOfEqualBytes.f
  by_cases hl : (l0.length : Int) > 1048576
  · exact ev_pos hl (Ev.now _)
  refine ev_neg hl ?_
  obtain ⟨l, hd, hn⟩ := spec_DrawBestTokens_ok l0 hw
  have hg := bestP_length l
  rw [ev_bind_iff hd, ev_bind_iff (implBest_ev l), ev_bind_iff (specBest_ev l), ev_bind_iff (equalTokens_same (bestP l) (by omega))]
  refine ev_pos rfl ?_
  refine Ev.step (f := fun k => if (((bestP l).length : Int) == 0) = true then ((spec_BestTokens.f k l).bind fun t => (laws_equalTokens.f k (bestP l) t).bind fun t2 => some t2) else (if wrap64 (4 + (l.length : Int)) > 1200 then some true else laws_FnTokensOfEqualBytes.l0 k l (wrap64 (4 + (l.length : Int))) [] 0)) (fun k => by simp only [laws_FnTokensOfEqualBytes.j0]) ?_
  by_cases h0 : (((bestP l).length : Int) == 0) = true
  · refine ev_pos h0 ?_
    rw [ev_bind_iff (specBest_ev l), ev_bind_iff (equalTokens_same (bestP l) (by omega))]
    exact Ev.now _
  · refine ev_neg h0 ?_
    have hb : okBytes l = true := by
      by_cases c : okBytes l = true
      · exact c
      · exfalso
        apply h0
        unfold bestP
        rw [if_neg c]
        rfl
    obtain ⟨b1, b2⟩ := okBytes_ok hb
    have hpos : 0 < l.length := by
      rcases Nat.eq_zero_or_pos l.length with z | z
      · exfalso
        apply h0
        have : l = [] := List.length_eq_zero_iff.1 z
        subst this
        rfl
      · exact z
    have e4 : wrap64 (4 + (l.length : Int)) = ((l.length + 4 : Nat) : Int) := by rw [w64 (by omega) (by omega)]; omega
    rw [e4]
    by_cases hb2 : ((l.length + 4 : Nat) : Int) > 1200
    · exact ev_pos hb2 (Ev.now _)
    refine ev_neg hb2 ?_
    clear e4
    generalize hN : l.length + 4 = N at hb2 ⊢
    have hc0 : 0 ≤ rd l 0 ∧ rd l 0 ≤ 255 := rd_bytes b2 0 (by omega) (by omega)
    generalize hc : rd l 0 = c at hc0
    have fin : Ev (fun k => laws_FnTokensOfEqualBytes.l0 k l (N : Int) (List.replicate N c) (N : Int)) true := by
      have hok : okBytes (List.replicate N c) = true := okBytes_of (by rw [List.length_replicate]; omega) (fun x hx => by rw [List.eq_of_mem_replicate hx]; exact hc0)
      have hg2 := bestP_length (List.replicate N c)
      have e : bestP (List.replicate N c) = toks (List.replicate N c) (bch (List.replicate N c)) (List.replicate N c).length 0 := if_pos hok
      have hi := implCost_ev (bestP (List.replicate N c)) (by omega)
      rw [List.take_of_length_le hg2] at hi
      have hcc : cost (bestP (List.replicate N c)) = cst (List.replicate N c) 0 := by
        rw [e]
        exact cost_best _ _ 0 (by omega)
      rw [hcc] at hi
      have hlt := equal_cost c N (by omega)
      refine Ev.step (f := fun k => (impl_BestTokens.f k (List.replicate N c)).bind fun t => (impl_TokenCost.f k t).bind fun q => some (decide (q < wrap64 (9 * (N : Int))))) (fun k => ?_) ?_
      · simp only [laws_FnTokensOfEqualBytes.l0]
        rw [if_neg (show ¬ (N : Int) < (N : Int) by omega)]
      · rw [ev_bind_iff (implBest_ev _), ev_bind_iff hi, w64 (by omega) (by omega)]
        exact ev_now (decide_eq_true hlt)
    have key : ∀ d i, i + d = N → Ev (fun k => laws_FnTokensOfEqualBytes.l0 k l (N : Int) (List.replicate i c) (i : Int)) true := by
      intro d
      induction d with
      | zero =>
        intro i hi
        rw [show i = N by omega]
        exact fin
      | succ d ih =>
        intro i hi
        have ih := ih (i + 1) (by omega)
        have s1 : (i : Int) < (N : Int) := by omega
        have s2 : 0 < (l.length : Int) := by omega
        have s3 : (List.replicate i c).length < 17592186044416 := by rw [List.length_replicate]; omega
        refine Ev.step (fun k => ?_) ih
        simp only [laws_FnTokensOfEqualBytes.l0, hc, up1 i (by omega)]
        rw [if_pos s1, if_pos s2, if_pos s3, ← List.replicate_succ']
    exact key N 0 (by omega)

end Go.Proofs.Ytckndapolgajfaa.Pure
