-- Written by a program of this session (the kit's printer, with hand-proved contracts for the functions that it does not take).
import Derived.Test.YtpadegboplcapaaQ0
import Derived.Test.YtpadegboplcapaaQ4
import Derived.Test.YtpadegboplcapaaQ9
namespace Go.Proofs.Ytpadegboplcapaa.Q
open Go.RowKit Go.Proofs.YtpadegboplcapaaW.PrintWords Go.Proofs.YtpadegboplcapaaW.PrintLast Go.Proofs.YtpadegboplcapaaW.PrintMore
attribute [local go_sem] max2_int min2_int max_two min_two max_three min_three max_four min_four   -- for this text's walks alone
set_option linter.unusedVariables false
set_option linter.unusedSimpArgs false

/-! ### laws_FnExactPassSize: function 3 -/
def laws_FnExactPassSize.f (k : Nat) (a0 : Int) (a1 : Int) (a2 : Int) : Option (Bool) := (spec_PassSize.f a0 a1 a2).bind fun bt168 => ((impl_PassSize.f k a0 a1 a2).bind fun bt170 => (if bt170.1 = bt168.1 then (if bt170.2 = bt168.2 then (some true) else (some false)) else (some false)))
theorem laws_FnExactPassSize.mono : ∀ a0 a1 a2 k, LeO (laws_FnExactPassSize.f k a0 a1 a2) (laws_FnExactPassSize.f (k + 1) a0 a1 a2) := by
  intro a0 a1 a2 k
  unfold laws_FnExactPassSize.f
  repeat' first
      | (with_reducible exact impl_PassSize.mono _ _ _ _)
      | (with_reducible exact LeO.refl _)
      | (with_reducible exact LeO.none _)
      | (with_reducible refine LeO.ite ?_ ?_)
      | (with_reducible refine LeO.bind ?_ (fun _ => ?_))
      | exact impl_PassSize.mono _ _ _ _
      | exact LeO.none _
      | refine LeO.ite ?_ ?_
      | refine LeO.bind ?_ (fun _ => ?_)
set_option maxHeartbeats 8000000 in
set_option maxRecDepth 100000 in
theorem laws_FnExactPassSize.calls (k : Nat) (a0 : Int) (a1 : Int) (a2 : Int) (r : Bool) (w : World) (h : laws_FnExactPassSize.f k a0 a1 a2 = some r) (ht_ : Aside0 (r = true)) :
    Calls Try.prog 3 #[.int .i64 a0, .int .i64 a1, .int .i64 a2] w fun e w' => e = .returned (.bool r) ∧ Below w.heap.size w w' := by
  have HB := Aside0.mk (Below.refl w.heap.size w)
  have H : ((spec_PassSize.f a0 a1 a2).bind fun bt168 => ((impl_PassSize.f k a0 a1 a2).bind fun bt170 => (if bt170.1 = bt168.1 then (if bt170.2 = bt168.2 then (some true) else (some false)) else (some false)))) = some r := h
  clear h
  replace H := Option.bind_eq_some_iff.mp H
  obtain ⟨⟨t168, t169⟩, A40, H⟩ := H
  replace H : ((impl_PassSize.f k a0 a1 a2).bind fun bt170 => (if bt170.1 = t168 then (if bt170.2 = t169 then (some true) else (some false)) else (some false))) = some r := H
  have A4 := Aside0.mk A40
  clear A40
  replace H := Option.bind_eq_some_iff.mp H
  obtain ⟨⟨t170, t171⟩, A50, H⟩ := H
  replace H : (if t170 = t168 then (if t171 = t169 then (some true) else (some false)) else (some false)) = some r := H
  have A5 := Aside0.mk A50
  clear A50
  by_cases c6 : t170 = t168
  · rw [if_pos c6] at H
    have c6b0 : (t170 == t168) = true := beq_iff_eq.mpr c6
    have c6b1 : (t170 != t168) = false := bne_eq_false_iff_eq.mpr c6
    clear c6
    by_cases c7 : t171 = t169
    · rw [if_pos c7] at H
      have c7b0 : (t171 == t169) = true := beq_iff_eq.mpr c7
      have c7b1 : (t171 != t169) = false := bne_eq_false_iff_eq.mpr c7
      clear c7
      obtain rfl := Option.some.inj H
      simp only [Option.some.injEq, Prod.mk.injEq] at H
      obtain ⟨rfl⟩ := H
      go_enter Try.func3, Try.ntmps3
      go_wp2_with (first | ((with_reducible refine gate_callee (f := 10) rfl ?_); refine goesL_ (some 15) rfl rfl Try.func10 (by kernel_rfl) rfl #[.int .i64 a0, .int .i64 a1, .int .i64 a2] rfl B.am ?_; (with_reducible refine (spec_PassSize.calls a0 a1 a2 t168 t169 _ A4.out).mono ?_); rintro e w8 ⟨rfl, hb⟩; refine ⟨_, rfl, ?_⟩; have n0_ := Aside0.mk (below_step (B.bl HB) hb); clear HB; have HB := n0_; clear n0_; (try clear hb); (try clear hb2); (try clear hk); (try clear hi)) | ((with_reducible refine gate_callee (f := 11) rfl ?_); refine goesL_ (some 22) rfl rfl Try.func11 (by kernel_rfl) rfl #[.int .i64 a0, .int .i64 a1, .int .i64 a2] rfl B.am ?_; (with_reducible refine (impl_PassSize.calls k a0 a1 a2 t170 t171 _ A5.out).mono ?_); rintro e w9 ⟨rfl, hb⟩; refine ⟨_, rfl, ?_⟩; have n0_ := Aside0.mk (below_step (B.bl HB) hb); clear HB; have HB := n0_; clear n0_; (try clear hb); (try clear hb2); (try clear hk); (try clear hi)))
      go_ret
      exact ⟨by first | rfl | (simp [errW_none, errW_some] <;> rfl) | (simp [*, errW_none, errW_some] <;> rfl), B.bl HB⟩
    rw [if_neg c7] at H
    have c7b0 : (t171 == t169) = false := beq_eq_false_iff_ne.mpr c7
    have c7b1 : (t171 != t169) = true := bne_iff_ne.mpr c7
    obtain rfl := Option.some.inj H
    exact absurd ht_.out (by decide)
  rw [if_neg c6] at H
  have c6b0 : (t170 == t168) = false := beq_eq_false_iff_ne.mpr c6
  have c6b1 : (t170 != t168) = true := bne_iff_ne.mpr c6
  obtain rfl := Option.some.inj H
  exact absurd ht_.out (by decide)

/-- THE ONE PURE STATEMENT of laws_FnExactPassSize: yours. -/
def laws_FnExactPassSize.Pure : Prop := ∀ (a0 : Int) (a1 : Int) (a2 : Int), (Lit.int .i64 a0).wf = true → (Lit.int .i64 a1).wf = true → (Lit.int .i64 a2).wf = true → ∃ k, laws_FnExactPassSize.f k a0 a1 a2 = some true
theorem laws_FnExactPassSize.walk (P : laws_FnExactPassSize.Pure) (a0 : Int) (a1 : Int) (a2 : Int) (w : World) (w0 : (Lit.int .i64 a0).wf = true) (w1 : (Lit.int .i64 a1).wf = true) (w2 : (Lit.int .i64 a2).wf = true) :
    Calls Try.prog 3 #[.int .i64 a0, .int .i64 a1, .int .i64 a2] w fun e w' => e = .returned (.bool true) ∧ Below w.heap.size w w' := by
  obtain ⟨k, h⟩ := P a0 a1 a2 w0 w1 w2
  refine (laws_FnExactPassSize.calls k a0 a1 a2 true w h ⟨rfl⟩).mono ?_
  rintro e w' ⟨rfl, hd⟩
  exact ⟨rfl, hd⟩

end Go.Proofs.Ytpadegboplcapaa.Q
