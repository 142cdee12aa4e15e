/- The program's row of the law FnExactJoinPasses, from its plain statement. No conditions. -/
import Derived.Test.YtpadegboplcapaaRows
import Derived.Test.YtpadegboplcapaaQ5
import Derived.Test.YtpadegboplcapaaPureFnExactJoinPasses
import Derived.WalkKit
import Derived.ProofKit
import Derived.OpenShut
import Derived.ShutString
import Derived.ChangeOld
import Derived.Below
import Derived.SizedLaws
import Derived.Lib.SmallJoins
import Derived.Deep.Slices
import Derived.Deep.Fields
import Derived.ChangeSame
import Derived.Deep.Matrix
namespace Go.Proofs.Ytpadegboplcapaa.fnExactJoinPasses
open Go.ChangeShapes Go.WideShapes Go.ChangeAt Go.RowKit Go.Joins Go.Deep
open Go.Proofs.Ytpadegboplcapaa.Q Go.Proofs.YtpadegboplcapaaW.PrintWords Go.Proofs.YtpadegboplcapaaW.PrintLast Go.Proofs.YtpadegboplcapaaW.PrintMore
set_option linter.unusedVariables false
theorem own : ownKnob Try.prog.godebug = none := by kernel_rfl
theorem laidOut : laidOutB Try.prog = true := by kernel_rfl
def IsRow (k : IntKind) (w : World) (a : Option Addr) (len cap : Nat) (zs : List Int) : Prop :=
  (a = none ∧ len = 0 ∧ cap = 0 ∧ zs = []) ∨
  ∃ x, a = some x ∧ len ≤ cap ∧ cap ≤ maxLen ∧ zs.length = cap ∧ (∀ i, i < zs.length → w.cell? (x.add i) = some (.int k (zs.getD i 0))) ∧ ∀ n ∈ zs, (Lit.int k n).wf = true
theorem one_row29 {W : World} {A : Option Addr} {n c : Nat} {z : List Int} (h : IsRow .i64 W A n c z) : ∃ l : List Int, n = l.length ∧ ReadsInt W .i64 A l.length l ∧ l.length ≤ maxLen ∧ l.length ≤ c := by
  obtain ⟨l, e, hr, hm, _, hc⟩ := ReadsInt.ofRowC h
  subst e
  exact ⟨l, rfl, hr, hm, hc⟩
open Go.Deep in
theorem open_rows29 {H : Type} {enc : TypeId × Value → H} {W : World} {g : Nat} {b : Option Addr} {n c : Nat} {x : DataW H × List MemPlace} (h : DataW.trod enc Try.prog W 0 (fun _ => true) true g 29 [.slice b n c] = some x) : ∃ l : List (List Int), n = l.length ∧ Kd.C (Kd.slice 3 (Kd.int .i64)) W b l.length l ∧ l.length ≤ c ∧ l.length ≤ maxLen ∧ ∀ y ∈ l, y.length ≤ maxLen := by
  rcases open_int_rows Try.underlying29 Try.underlying32 Try.underlying3 (by kernel_rfl) (by kernel_rfl) h with ⟨hcs, _⟩ | ⟨a, len, cap, AA, L, C, Z, hcs, _, hl, hm, _, hi⟩
  · simp only [List.cons.injEq, and_true, Value.slice.injEq] at hcs
    obtain ⟨rfl, rfl, rfl⟩ := hcs
    exact ⟨[], rfl, ⟨rfl, Nat.zero_le _, fun h => absurd h (Nat.lt_irrefl 0)⟩, Nat.zero_le _, Nat.zero_le _, fun y hy => by cases hy⟩
  · simp only [List.cons.injEq, and_true, Value.slice.injEq] at hcs
    obtain ⟨rfl, rfl, rfl⟩ := hcs
    have key : ∀ r, ∃ l : List Int, r < n → L r = l.length ∧ ReadsInt W .i64 (AA r) l.length l ∧ l.length ≤ maxLen ∧ l.length ≤ C r := by
      intro r
      by_cases hr : r < n
      · obtain ⟨_, h1, h2, h3, h4, h5, h6⟩ := hi r (by omega)
        have row : IsRow .i64 W (AA r) (L r) (C r) (Z r) := by
          cases ea : AA r with
          | none =>
            have hc := h5 ea
            refine .inl ⟨rfl, by omega, hc, List.length_eq_zero_iff.1 (by omega)⟩
          | some a' => exact .inr ⟨a', rfl, h1, h2, h3, fun i hi2 => (h6 a' ea).2 i (by omega), h4⟩
        obtain ⟨l, e1, e2, e3, e4⟩ := one_row29 row
        exact ⟨l, fun _ => ⟨e1, e2, e3, e4⟩⟩
      · exact ⟨[], fun h => absurd h hr⟩
    obtain ⟨f, hf⟩ := Classical.axiomOfChoice key
    have hlen : ((List.range n).map f).length = n := by simp
    refine ⟨(List.range n).map f, hlen.symm, ?_, by rw [hlen]; exact hl, by rw [hlen]; exact Nat.le_trans hl hm, fun y hy => ?_⟩
    · rw [hlen]
      refine ⟨hlen, Nat.le_trans hl hm, fun _ => ⟨a, rfl, fun j p hj => ?_⟩⟩
      obtain ⟨hlt, rfl⟩ := List.getElem?_eq_some_iff.1 hj
      have hjn : j < n := by rw [hlen] at hlt; exact hlt
      have e : ((List.range n).map f)[j] = f j := by simp
      rw [e]
      obtain ⟨e1, e2, _, e4⟩ := hf j hjn
      have hc := (hi j (by omega)).1
      refine ⟨_, rfl, ⟨AA j, C j, rfl, e4, Kd.C_of_reads (d := (0 : Int)) (h1 := fun _ => rfl) e2⟩, fun i u hu => ?_⟩
      match i, hu with
      | 0, hu =>
        cases hu
        rw [e1] at hc
        simpa [Kd.slice] using hc
      | i + 1, hu => simp at hu
    · obtain ⟨j, hj, rfl⟩ := List.mem_map.1 hy
      exact (hf j (List.mem_range.1 hj)).2.2.1
set_option maxRecDepth 100000 in
theorem lifted (os : Os) (started : os.Started) (H : Type) (enc : TypeId × Value → H) :
    ReturnsInHanded {} Try.checked os 9 .any (Rows.fnExactJoinPassesSpec.pre6 enc Try.prog Try.f9 Rows.fnExactJoinPassesRow.domain false) (Rows.fnExactJoinPassesSpec.post enc Try.prog Try.f9 false true false false) := by
  refine returnsInHanded_of_change_sized (C := Try.checked) own started (by kernel_rfl) Try.func9
    (ChangeSpec.witness6 (enc := enc) (C := Try.checked) false ⟨#[], #[.int .i64 0, .int .i64 0, .int .i64 0, .slice none 0 0], []⟩ 8 (by kernel_rfl) (by kernel_rfl) (by kernel_rfl) (by kernel_rfl)) ?_
  intro W base args ds gs before hval0 hW hcnd hsz0 _
  have hval : ∀ (j : Nat) t v, Try.f9.params[j]? = some t → args[j]? = some v → Value.okWide Try.prog W .any base t v := hval0
  have hW' := hW
  obtain ⟨p, q, hA0, hV, rfl, hfz, hnd⟩ := hW
  have hA : DataW.TrodAll enc Try.prog W 0 (fun _ => true) true Try.f9.params.toList args.toList ds p := hA0
  rw [Try.params9] at hA hval
  obtain ⟨v0, vs0, d0, ds0, p0, q0, hargs, rfl, rfl, h0, r0⟩ := trodAll_cons hA
  obtain ⟨v1, vs1, d1, ds1, p1, q1, rfl, rfl, rfl, h1, r1⟩ := trodAll_cons r0
  obtain ⟨v2, vs2, d2, ds2, p2, q2, rfl, rfl, rfl, h2, r2⟩ := trodAll_cons r1
  obtain ⟨v3, vs3, d3, ds3, p3, q3, rfl, rfl, rfl, h3, r3⟩ := trodAll_cons r2
  obtain ⟨rfl, rfl, rfl⟩ := trodAll_nil r3
  obtain rfl : args = #[v0, v1, v2, v3] := by cases args; simp_all
  obtain ⟨rfl, rfl⟩ := trodVars_none hV
  obtain ⟨a0, rfl, rfl, rfl, w0⟩ := open_int Try.underlying3 (hval 0 3 v0 rfl rfl) h0
  obtain ⟨a1, rfl, rfl, rfl, w1⟩ := open_int Try.underlying3 (hval 1 3 v1 rfl rfl) h1
  obtain ⟨a2, rfl, rfl, rfl, w2⟩ := open_int Try.underlying3 (hval 2 3 v2 rfl rfl) h2
  have k3 := h3
  have lt3 : ∀ x ∈ p3, x.block < W.heap.size := by obtain ⟨m, hm⟩ := k3; exact DataW.trod_lt m _ _ _ hm
  obtain ⟨b3, len3, cap3, rfl⟩ := okWide_slice Try.underlying29 (hval 3 29 v3 rfl rfl)
  obtain ⟨g3, hg3⟩ := h3
  have hg3' : DataW.trod enc Try.prog W 0 (fun _ => true) true g3 29 [.slice b3 len3 cap3] = some (d3, p3) := hg3
  obtain ⟨l3, rfl, hC3, hl3, hm3, hx3⟩ := open_rows29 hg3'
  clear hA0 hval0 hsz0
  obtain ⟨k, h⟩ := Pure.FnExactJoinPasses a0 w0 a1 w1 a2 w2 l3 hm3 hx3
  refine (laws_FnExactJoinPasses.calls k a0 a1 a2 _ _ l3 true W hC3 hl3 h ⟨rfl⟩).mono fun e W' ⟨he, bel0⟩ => ?_
  have bel : Below W.heap.size W W' := bel0
  subst he
  exact ⟨_, rfl, _, _, _, [], _, [], hW', trodAll_mk1 (shut_bool Try.underlying4 _), (trodAll_cons_mk (shut_int Try.underlying3 w0) (trodAll_cons_mk (shut_int Try.underlying3 w1) (trodAll_cons_mk (shut_int Try.underlying3 w2) (trodAll_cons_mk (Below.trod laidOut (by kernel_rfl) (of_decide_eq_true (by kernel_rfl)) k3 bel lt3) trodAll_mk0)))), rfl, bel.frame _, fun h => by cases h⟩
theorem over : Rows.fnExactJoinPassesRow.holds Try.pinned (OpenSpec.ofChange Rows.fnExactJoinPassesSpec) :=
  OpenClaim.holds_of_wide 9 Try.f9 rfl rfl rfl rfl rfl rfl rfl ⟨rfl, rfl, rfl, rfl, rfl⟩ rfl rfl rfl rfl rfl (by kernel_rfl) Try.func9 (by kernel_rfl)
    (of_decide_eq_true (by kernel_rfl)) (by unfold Func.isWrapper; first | (rw [if_pos (by decide +kernel)]; kernel_rfl) | (rw [if_neg (by decide +kernel)]; exact ⟨rfl, rfl⟩))
    (fun os started H enc _ => lifted os started H enc)
theorem proved : Rows.FnExactJoinPassesSaid := over
#print axioms proved
end Go.Proofs.Ytpadegboplcapaa.fnExactJoinPasses
namespace Go.Proofs.Ytpadegboplcapaa
/-- The row, under a short name, for the claim. -/
theorem fnExactJoinPasses_holds : Rows.FnExactJoinPassesSaid := fnExactJoinPasses.proved
end Go.Proofs.Ytpadegboplcapaa
