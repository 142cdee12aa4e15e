/- Tokens that the laws compare and mark. No conditions. -/
import Derived.Test.YtckndapolgajfaaTokL
import Derived.Test.YtckndapolgajfaaQ12
import Derived.Test.YtckndapolgajfaaQ13
import Derived.Test.YtckndapolgajfaaQ14
namespace Go.Proofs.Ytckndapolgajfaa.B
open Go.RowKit Go.Proofs.Ytckndapolgajfaa.Q Go.Proofs.YtckndapolgajfaaW.PrintWords Go.Proofs.YtckndapolgajfaaW.PrintLast Go.Proofs.YtckndapolgajfaaW.PrintMore
set_option linter.unusedVariables false

theorem eqTokenS_same (ts : List S33) (hn : ts.length ≤ 2000000) : Ev (fun k => laws_eqTokenS.f k ts ts) true := by
  have key : ∀ d i, i + d = ts.length → Ev (fun k => laws_eqTokenS.l0 k ts ts (i : Int)) true := by
    intro d
    induction d with
    | zero =>
      intro i hi
      refine Ev.step (f := fun _ => some true) (fun k => ?_) (Ev.now _)
      simp only [laws_eqTokenS.l0]
      rw [if_neg (show ¬ (i : Int) < (ts.length : Int) by omega)]
    | succ d ih =>
      intro i hi
      refine Ev.step (fun k => ?_) (ih (i + 1) (by omega))
      simp only [laws_eqTokenS.l0, up1 i (by omega)]
      rw [if_pos (show (i : Int) < (ts.length : Int) by omega), if_pos (Int.natCast_nonneg i), if_pos (show (i : Int) < (ts.length : Int) by omega)]
      simp [laws_eqToken.f]
  unfold laws_eqTokenS.f
  exact ev_pos rfl (key ts.length 0 (by omega))

/-! ### Marks -/
/-- n tokens, numbered from m on. -/
def seqT (m : Int) (n : Nat) : List S33 := (List.range n).map fun (j : Nat) => ⟨m + 3 * (j : Int), m + 3 * (j : Int) + 1, m + 3 * (j : Int) + 2⟩
theorem seqT_length (m : Int) (n : Nat) : (seqT m n).length = n := by simp [seqT]
theorem seqT_get (m : Int) (n i : Nat) (h : i < n) : rd_T33 (seqT m n) (i : Int) = ⟨m + 3 * (i : Int), m + 3 * (i : Int) + 1, m + 3 * (i : Int) + 2⟩ := by
  rw [rdT_get _ _ (by rw [seqT_length]; exact h)]
  simp [seqT]
theorem seqT_set (ts : List S33) (m : Int) (i : Nat) (hi : i < ts.length) : (seqT m i ++ ts.drop i).set i ⟨m + 3 * (i : Int), m + 3 * (i : Int) + 1, m + 3 * (i : Int) + 2⟩ = seqT m (i + 1) ++ ts.drop (i + 1) := by
  have hl : (seqT m i).length = i := seqT_length m i
  rw [List.set_append_right _ _ (by omega), hl, Nat.sub_self, List.drop_eq_getElem_cons hi, List.set_cons_zero]
  have e : seqT m (i + 1) = seqT m i ++ [⟨m + 3 * (i : Int), m + 3 * (i : Int) + 1, m + 3 * (i : Int) + 2⟩] := by simp [seqT, List.range_succ]
  rw [e, List.append_assoc]
  rfl
theorem rdT_set (ts : List S33) (i : Nat) (t : S33) (h : i < ts.length) : rd_T33 (ts.set i t) (i : Int) = t := by
  rw [rdT_get _ _ (by simpa using h)]
  simp
theorem markTokenS_ev (ts : List S33) (m : Int) (hn : ts.length ≤ 2000000) (h0 : 0 ≤ m) (h1 : m ≤ 1000000000) : Ev (fun k => laws_markTokenS.f k ts m) (m + 3 * (ts.length : Int), seqT m ts.length) := by
  have key : ∀ d i, i + d = ts.length → Ev (fun k => laws_markTokenS.l0 k (seqT m i ++ ts.drop i) (m + 3 * (i : Int)) (i : Int)) (m + 3 * (ts.length : Int), seqT m ts.length) := by
    intro d
    induction d with
    | zero =>
      intro i hi
      have hi' : i = ts.length := by omega
      subst hi'
      refine Ev.step (f := fun _ => some (m + 3 * (ts.length : Int), seqT m ts.length)) (fun k => ?_) (Ev.now _)
      simp only [laws_markTokenS.l0]
      rw [List.drop_of_length_le (by omega), List.append_nil, seqT_length, if_neg (by omega)]
    | succ d ih =>
      intro i hi
      have hlt : i < ts.length := by omega
      have hl : (seqT m i ++ ts.drop i).length = ts.length := by rw [List.length_append, seqT_length, List.length_drop]; omega
      have w1 : wrap64 (m + 3 * (i : Int) + 1) = m + 3 * (i : Int) + 1 := w64 (by omega) (by omega)
      have w2 : wrap64 (m + 3 * (i : Int) + 1 + 1) = m + 3 * (i : Int) + 2 := by rw [w64 (by omega) (by omega)]; omega
      have w3 : wrap64 (m + 3 * (i : Int) + 2 + 1) = m + 3 * ((i + 1 : Nat) : Int) := by rw [w64 (by omega) (by omega)]; omega
      refine Ev.step (fun k => ?_) (ih (i + 1) (by omega))
      simp only [laws_markTokenS.l0, up1 i (by omega), Option.bind_some, Int.toNat_natCast, w1, w2, w3]
      rw [if_pos (show (i : Int) < ((seqT m i ++ ts.drop i).length : Int) by rw [hl]; omega), if_pos (Int.natCast_nonneg i)]
      rw [rdT_set _ _ _ (by simp only [hl, hlt]), rdT_set _ _ _ (by simp only [List.length_set, hl, hlt]), List.set_set, List.set_set]
      simp only
      rw [seqT_set ts m i hlt]
  have := key ts.length 0 (by omega)
  unfold laws_markTokenS.f
  simpa [seqT] using this
theorem heldTokenS_ev (m : Int) (n : Nat) (hn : n ≤ 2000000) (h0 : 0 ≤ m) (h1 : m ≤ 1000000000) : Ev (fun k => laws_heldTokenS.f k (seqT m n) m) (m + 3 * (n : Int)) := by
  have key : ∀ d i, i + d = n → Ev (fun k => laws_heldTokenS.l0 k (seqT m n) (m + 3 * (i : Int)) (i : Int)) (m + 3 * (n : Int)) := by
    intro d
    induction d with
    | zero =>
      intro i hi
      have hi' : i = n := by omega
      subst hi'
      refine Ev.step (f := fun _ => some (m + 3 * (i : Int))) (fun k => ?_) (Ev.now _)
      simp only [laws_heldTokenS.l0]
      rw [seqT_length, if_neg (by omega)]
    | succ d ih =>
      intro i hi
      have w1 : wrap64 (m + 3 * (i : Int) + 1) = m + 3 * (i : Int) + 1 := w64 (by omega) (by omega)
      have w2 : wrap64 (m + 3 * (i : Int) + 1 + 1) = m + 3 * (i : Int) + 2 := by rw [w64 (by omega) (by omega)]; omega
      have w3 : wrap64 (m + 3 * (i : Int) + 2 + 1) = m + 3 * ((i + 1 : Nat) : Int) := by rw [w64 (by omega) (by omega)]; omega
      refine Ev.step (fun k => ?_) (ih (i + 1) (by omega))
      simp only [laws_heldTokenS.l0, up1 i (by omega), w1, w2, w3, seqT_length]
      rw [seqT_get m n i (by omega), if_pos (show (i : Int) < (n : Int) by omega), if_pos (Int.natCast_nonneg i), if_pos rfl, if_pos rfl, if_pos rfl]
  have := key n 0 (by omega)
  unfold laws_heldTokenS.f
  simpa using this

end Go.Proofs.Ytckndapolgajfaa.B
