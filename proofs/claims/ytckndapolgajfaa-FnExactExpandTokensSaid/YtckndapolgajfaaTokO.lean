/- Slices of tokens that come in: counted, taken over. No conditions. -/
import Derived.Test.YtckndapolgajfaaTok
import Derived.Test.YtckndapolgajfaaQ0
import Derived.Test.YtckndapolgajfaaQ14
namespace Go.Proofs.Ytckndapolgajfaa.B
open Go.RowKit Go.Proofs.Ytckndapolgajfaa.Q Go.Proofs.YtckndapolgajfaaW.PrintWords Go.Proofs.YtckndapolgajfaaW.PrintLast Go.Proofs.YtckndapolgajfaaW.PrintMore
set_option linter.unusedVariables false

def tokO (x : S56) : S33 := ⟨x.f0, x.f1, x.f2⟩
theorem fill_setO (l : List S33) (i : Nat) (hi : i < l.length) : (l.take i ++ List.replicate (l.length - i) z33).set i l[i] = l.take (i + 1) ++ List.replicate (l.length - (i + 1)) z33 := by
  have hl : (l.take i).length = i := by rw [List.length_take]; omega
  rw [List.set_append_right _ _ (by omega), hl, Nat.sub_self, show l.length - i = l.length - (i + 1) + 1 by omega, List.replicate_succ, List.set_cons_zero, List.take_succ_eq_append_getElem hi, List.append_assoc]
  rfl
theorem szTokenS_eq (l : List S56) (hm : l.length ≤ 9223372036854775807) : ∃ s : Int, laws_szTokenS.f l 1048576 = some s ∧ (s < 0 ∨ l.length ≤ 1048576) := by
  unfold laws_szTokenS.f
  have e : wrap64 (1048576 - (l.length : Int)) = 1048576 - (l.length : Int) := w64 (by omega) (by omega)
  rw [e]
  by_cases c : (1048576 : Int) - (l.length : Int) < 0
  · exact ⟨-1, by rw [if_pos c], .inl (by omega)⟩
  · exact ⟨_, by rw [if_neg c], .inr (by omega)⟩
theorem toTokenS_ev (l : List S56) (hn : l.length ≤ 2000000) : Ev (fun k => laws_toTokenS.f k l) (l.map tokO) := by
  unfold laws_toTokenS.f
  refine ev_pos (by omega) (ev_pos (by omega) ?_)
  simp only [Int.toNat_natCast]
  have hl : (l.map tokO).length = l.length := by simp
  have := ev_for (fun k (s : List S33) i => laws_toTokenS.l0 k l s (i : Int)) l.length (fun i => (l.map tokO).take i ++ List.replicate ((l.map tokO).length - i) z33) (fun i hi r h => ?_) (l.map tokO) ?_
  · simpa using this
  · have hg : tokO (rd_T56 l (i : Int)) = (l.map tokO)[i]'(by rw [hl]; exact hi) := by simp [rd_T56, hi]
    have hs := fill_setO (l.map tokO) i (by rw [hl]; exact hi)
    refine Ev.step (fun k => ?_) h
    simp only [laws_toTokenS.l0, laws_toToken.f, Option.bind_some]
    have e1 : wrap64 ((i : Int) + 1) = ((i + 1 : Nat) : Int) := by rw [w64 (by omega) (by omega)]; omega
    rw [if_pos (by omega), if_pos (by omega), if_pos (by rw [List.length_append, List.length_take, List.length_replicate, hl]; omega), e1, Int.toNat_natCast]
    have e2 : ((l.map tokO).take i ++ List.replicate ((l.map tokO).length - i) z33).set i ⟨(rd_T56 l (i : Int)).f0, (rd_T56 l (i : Int)).f1, (rd_T56 l (i : Int)).f2⟩ = (l.map tokO).take (i + 1) ++ List.replicate ((l.map tokO).length - (i + 1)) z33 := by
      rw [← hs, ← hg]
      rfl
    rw [e2]
  · refine Ev.step (f := fun _ => some (l.map tokO)) (fun k => ?_) (Ev.now _)
    simp only [laws_toTokenS.l0]
    rw [if_neg (by omega), hl]
    simp
    exact List.take_of_length_le (by omega)
theorem expT_length : ∀ (ts : List S33) (x : List Int), x.length ≤ 1200 → (expT ts x).1.length ≤ 1200
  | [], x, h => h
  | t :: ts, x, h => by
    unfold expT
    by_cases c1 : okT (x.length : Int) t
    · rw [if_pos c1]
      by_cases c2 : ((adv x t).length : Int) > 1200
      · rw [if_pos c2]
        simp
      · rw [if_neg c2]
        exact expT_length ts (adv x t) (by omega)
    · rw [if_neg c1]
      simp

end Go.Proofs.Ytckndapolgajfaa.B
