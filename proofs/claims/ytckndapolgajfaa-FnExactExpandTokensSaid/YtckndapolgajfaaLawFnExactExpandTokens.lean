/- The program's row of the law FnExactExpandTokens, from its plain statement. No conditions. -/
import Derived.Test.YtckndapolgajfaaRows
import Derived.Test.YtckndapolgajfaaQ22
import Derived.Test.YtckndapolgajfaaPureFnExactExpandTokens
import Derived.WalkKit
import Derived.ProofKit
import Derived.OpenShut
import Derived.ShutString
import Derived.ChangeOld
import Derived.Below
import Derived.SizedLaws
import Derived.Lib.SmallJoins
import Derived.Deep.Slices
import Derived.Deep.Fields
import Derived.ChangeSame
import Derived.Deep.Matrix
namespace Go.Proofs.Ytckndapolgajfaa.fnExactExpandTokens
open Go.ChangeShapes Go.WideShapes Go.ChangeAt Go.RowKit Go.Joins Go.Deep
open Go.Proofs.Ytckndapolgajfaa.Q Go.Proofs.YtckndapolgajfaaW.PrintWords Go.Proofs.YtckndapolgajfaaW.PrintLast Go.Proofs.YtckndapolgajfaaW.PrintMore
set_option linter.unusedVariables false
theorem own : ownKnob Try.prog.godebug = none := by kernel_rfl
theorem laidOut : laidOutB Try.prog = true := by kernel_rfl
def IsRow (k : IntKind) (w : World) (a : Option Addr) (len cap : Nat) (zs : List Int) : Prop :=
  (a = none ∧ len = 0 ∧ cap = 0 ∧ zs = []) ∨
  ∃ x, a = some x ∧ len ≤ cap ∧ cap ≤ maxLen ∧ zs.length = cap ∧ (∀ i, i < zs.length → w.cell? (x.add i) = some (.int k (zs.getD i 0))) ∧ ∀ n ∈ zs, (Lit.int k n).wf = true
open Go.Deep in
theorem open_els36 {H : Type} {enc : TypeId × Value → H} {W : World} {g : Nat} {b : Option Addr} {n c : Nat} {x : DataW H × List MemPlace} (h : DataW.trod enc Try.prog W 0 (fun _ => true) true g 36 [.slice b n c] = some x) : ∃ l : List S56, n = l.length ∧ Kd.C k56 W b l.length l ∧ l.length ≤ c ∧ l.length ≤ maxLen := by
  rcases open_slice Try.underlying36 h with ⟨hcs, _⟩ | ⟨a, len, cap, m, n1, D, Pl, hcs, _, hl, hm, hmm, _, hi⟩
  · simp only [List.cons.injEq, and_true, Value.slice.injEq] at hcs
    obtain ⟨rfl, rfl, rfl⟩ := hcs
    exact ⟨[], rfl, ⟨rfl, Nat.zero_le _, fun h => absurd h (Nat.lt_irrefl 0)⟩, Nat.zero_le _, Nat.zero_le _⟩
  · simp only [List.cons.injEq, and_true, Value.slice.injEq] at hcs
    obtain ⟨rfl, rfl, rfl⟩ := hcs
    have hml : m = c := by simpa using hmm
    have key : ∀ i, ∃ x : S56, i < n → W.cell? (a.add (i * 3 + 0)) = some (.int .i64 x.f0) ∧ W.cell? (a.add (i * 3 + 1)) = some (.int .i64 x.f1) ∧ W.cell? (a.add (i * 3 + 2)) = some (.int .i64 x.f2) := by
      intro i
      by_cases hil : i < n
      · obtain ⟨cs, hc, ht⟩ := hi i (by omega)
        have hC : Try.prog.cellsOf 56 = 3 := by kernel_rfl
        rw [hC] at hc
        obtain ⟨ys, n2, _, _, _, hyl, hf⟩ := DataW.trod_struct Try.underlying56 ht
        obtain ⟨_, hcl, hat⟩ := World.cells?_some hc
        obtain ⟨v0, v1, v2, rfl⟩ : ∃ v0 v1 v2, cs = [v0, v1, v2] := by
          match cs, hcl with
          | [q0, q1, q2], _ => exact ⟨q0, q1, q2, rfl⟩
        replace hyl : ys.length = 3 := hyl
        have c0 : Try.prog.cellsOf 3 = 1 := by kernel_rfl
        have q0 : DataW.trod enc Try.prog W 0 (fun _ => true) true n2 3 (([v0, v1, v2].drop 0).take (Try.prog.cellsOf 3)) = ys[0]? := hf 0 _ rfl
        rw [c0] at q0
        have r0 : DataW.trod enc Try.prog W 0 (fun _ => true) true n2 3 [v0] = some (ys[0]'(by omega)) := q0.trans (List.getElem?_eq_getElem (by omega))
        have c1 : Try.prog.cellsOf 3 = 1 := by kernel_rfl
        have q1 : DataW.trod enc Try.prog W 0 (fun _ => true) true n2 3 (([v0, v1, v2].drop 1).take (Try.prog.cellsOf 3)) = ys[1]? := hf 1 _ rfl
        rw [c1] at q1
        have r1 : DataW.trod enc Try.prog W 0 (fun _ => true) true n2 3 [v1] = some (ys[1]'(by omega)) := q1.trans (List.getElem?_eq_getElem (by omega))
        have c2 : Try.prog.cellsOf 3 = 1 := by kernel_rfl
        have q2 : DataW.trod enc Try.prog W 0 (fun _ => true) true n2 3 (([v0, v1, v2].drop 2).take (Try.prog.cellsOf 3)) = ys[2]? := hf 2 _ rfl
        rw [c2] at q2
        have r2 : DataW.trod enc Try.prog W 0 (fun _ => true) true n2 3 [v2] = some (ys[2]'(by omega)) := q2.trans (List.getElem?_eq_getElem (by omega))
        obtain ⟨a0, e0, _, _⟩ := DataW.trod_int Try.underlying3 r0
        simp only [List.cons.injEq, and_true] at e0
        obtain ⟨a1, e1, _, _⟩ := DataW.trod_int Try.underlying3 r1
        simp only [List.cons.injEq, and_true] at e1
        obtain ⟨a2, e2, _, _⟩ := DataW.trod_int Try.underlying3 r2
        simp only [List.cons.injEq, and_true] at e2
        subst e0
        subst e1
        subst e2
        refine ⟨⟨a0, a1, a2⟩, fun _ => ⟨?_, ?_, ?_⟩⟩
        · have := hat 0 (by omega)
          rw [Go.Deep.add_add] at this
          exact this
        · have := hat 1 (by omega)
          rw [Go.Deep.add_add] at this
          exact this
        · have := hat 2 (by omega)
          rw [Go.Deep.add_add] at this
          exact this
      · exact ⟨⟨0, 0, 0⟩, fun h => absurd h hil⟩
    obtain ⟨f, hf⟩ := Classical.axiomOfChoice key
    have hlen : ((List.range n).map f).length = n := by simp
    refine ⟨(List.range n).map f, hlen.symm, ?_, by rw [hlen]; exact hl, by rw [hlen]; exact Nat.le_trans hl hm⟩
    rw [hlen]
    refine ⟨hlen, Nat.le_trans hl hm, fun _ => ⟨a, rfl, fun j p hj => ?_⟩⟩
    obtain ⟨hlt, rfl⟩ := List.getElem?_eq_some_iff.1 hj
    have hjn : j < n := by rw [hlen] at hlt; exact hlt
    have e : ((List.range n).map f)[j] = f j := by simp
    rw [e]
    obtain ⟨k0_, k1_, k2_⟩ := hf j hjn
    refine ⟨_, rfl, k56_mk W (f j), fun i u hu => ?_⟩
    match i, hu with
    | 0, hu => cases hu; exact k0_
    | 1, hu => cases hu; exact k1_
    | 2, hu => cases hu; exact k2_
    | i + 3, hu => simp at hu
set_option maxRecDepth 100000 in
theorem lifted (os : Os) (started : os.Started) (H : Type) (enc : TypeId × Value → H) :
    ReturnsInHanded {} Try.checked os 8 .any (Rows.fnExactExpandTokensSpec.pre6 enc Try.prog Try.f8 Rows.fnExactExpandTokensRow.domain false) (Rows.fnExactExpandTokensSpec.post enc Try.prog Try.f8 false true false false) := by
  refine returnsInHanded_of_change_sized (C := Try.checked) own started (by kernel_rfl) Try.func8
    (ChangeSpec.witness6 (enc := enc) (C := Try.checked) false ⟨#[], #[.slice none 0 0], []⟩ 8 (by kernel_rfl) (by kernel_rfl) (by kernel_rfl) (by kernel_rfl)) ?_
  intro W base args ds gs before hval0 hW hcnd hsz0 _
  have hval : ∀ (j : Nat) t v, Try.f8.params[j]? = some t → args[j]? = some v → Value.okWide Try.prog W .any base t v := hval0
  have hW' := hW
  obtain ⟨p, q, hA0, hV, rfl, hfz, hnd⟩ := hW
  have hA : DataW.TrodAll enc Try.prog W 0 (fun _ => true) true Try.f8.params.toList args.toList ds p := hA0
  rw [Try.params8] at hA hval
  obtain ⟨v0, vs0, d0, ds0, p0, q0, hargs, rfl, rfl, h0, r0⟩ := trodAll_cons hA
  obtain ⟨rfl, rfl, rfl⟩ := trodAll_nil r0
  obtain rfl : args = #[v0] := by cases args; simp_all
  obtain ⟨rfl, rfl⟩ := trodVars_none hV
  have k0 := h0
  have lt0 : ∀ x ∈ p0, x.block < W.heap.size := by obtain ⟨m, hm⟩ := k0; exact DataW.trod_lt m _ _ _ hm
  obtain ⟨b0, len0, cap0, rfl⟩ := okWide_slice Try.underlying36 (hval 0 36 v0 rfl rfl)
  obtain ⟨g0, hg0⟩ := h0
  have hg0' : DataW.trod enc Try.prog W 0 (fun _ => true) true g0 36 [.slice b0 len0 cap0] = some (d0, p0) := hg0
  obtain ⟨l0, rfl, hC0, hl0, hm0⟩ := open_els36 hg0'
  clear hA0 hval0 hsz0
  obtain ⟨k, h⟩ := Pure.FnExactExpandTokens l0 hm0
  refine (laws_FnExactExpandTokens.calls k _ _ l0 true W hC0 hl0 h ⟨rfl⟩).mono fun e W' ⟨he, bel0⟩ => ?_
  have bel : Below W.heap.size W W' := bel0
  subst he
  exact ⟨_, rfl, _, _, _, [], _, [], hW', trodAll_mk1 (shut_bool Try.underlying4 _), (trodAll_cons_mk (Below.trod laidOut (by kernel_rfl) (of_decide_eq_true (by kernel_rfl)) k0 bel lt0) trodAll_mk0), rfl, bel.frame _, fun h => by cases h⟩
theorem over : Rows.fnExactExpandTokensRow.holds Try.pinned (OpenSpec.ofChange Rows.fnExactExpandTokensSpec) :=
  OpenClaim.holds_of_wide 8 Try.f8 rfl rfl rfl rfl rfl rfl rfl ⟨rfl, rfl, rfl, rfl, rfl⟩ rfl rfl rfl rfl rfl (by kernel_rfl) Try.func8 (by kernel_rfl)
    (of_decide_eq_true (by kernel_rfl)) (by unfold Func.isWrapper; first | (rw [if_pos (by decide +kernel)]; kernel_rfl) | (rw [if_neg (by decide +kernel)]; exact ⟨rfl, rfl⟩))
    (fun os started H enc _ => lifted os started H enc)
theorem proved : Rows.FnExactExpandTokensSaid := over
#print axioms proved
end Go.Proofs.Ytckndapolgajfaa.fnExactExpandTokens
namespace Go.Proofs.Ytckndapolgajfaa
/-- The row, under a short name, for the claim. -/
theorem fnExactExpandTokens_holds : Rows.FnExactExpandTokensSaid := fnExactExpandTokens.proved
end Go.Proofs.Ytckndapolgajfaa
