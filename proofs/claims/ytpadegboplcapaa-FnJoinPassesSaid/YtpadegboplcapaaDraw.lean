/- What the drawing functions of the reference answer: that they answer, and within which bounds. No conditions. -/
import Derived.Test.YtpadegboplcapaaBase
import Derived.Test.YtpadegboplcapaaQ1
import Derived.Test.YtpadegboplcapaaQ2
import Derived.Test.YtpadegboplcapaaQ4
namespace Go.Proofs.Ytpadegboplcapaa.B
open Go.RowKit Go.Proofs.Ytpadegboplcapaa.Q Go.Proofs.YtpadegboplcapaaW.PrintWords Go.Proofs.YtpadegboplcapaaW.PrintLast Go.Proofs.YtpadegboplcapaaW.PrintMore
set_option linter.unusedVariables false

/-- What a reader reads: at most 2000 bytes. -/
def Bytes (b : List Int) : Prop := (∀ x ∈ b, 0 ≤ x ∧ x ≤ 255) ∧ b.length ≤ 2000
theorem newReader_ok (l : List Int) (h : ∀ x ∈ l, (Lit.int .u8 x).wf = true) : ∃ b, spec_newReader.f l = some (b, 0) ∧ Bytes b := by
  unfold spec_newReader.f
  by_cases c : (l.length : Int) > 2000
  · rw [if_pos c, if_pos (by omega)]
    exact ⟨_, rfl, fun x hx => wf8 (h x (List.mem_of_mem_take hx)), by rw [List.length_take]; omega⟩
  · rw [if_neg c]
    exact ⟨_, rfl, fun x hx => wf8 (h x hx), by omega⟩
theorem pick_ok (b : List Int) (p n : Int) (hb : Bytes b) (h0 : 0 ≤ p) (h1 : p ≤ 1000000000) (hn : 1 ≤ n) : ∃ v, Ev (fun k => spec_reader_pick.f k b p n) (v, p + 1) ∧ 0 ≤ v ∧ v < n := by
  have e1 : wrap64 (p + 1) = p + 1 := w64 (by omega) (by omega)
  have e2 : wrap64 (p + 1 - 1) = p := by rw [w64 (by omega) (by omega)]; omega
  have hu : ∀ k, spec_reader_pick.f k b p n = spec_reader_pick.j0 k n ((b.length : Int) == 0) b (p + 1) := fun k => by
    unfold spec_reader_pick.f
    rw [if_neg (by omega), e1]
  by_cases hl : b.length = 0
  · refine ⟨0, Ev.congr hu (Ev.step (f := fun _ => some (0, p + 1)) (fun k => ?_) (Ev.now _)), by omega, by omega⟩
    simp only [spec_reader_pick.j0]
    rw [if_pos (by simp [hl])]
  · have hfl : ((b.length : Int) == 0) = false := by rw [beq_eq_false_iff_ne]; omega
    by_cases hp : p < (b.length : Int)
    · have hr := rd_bytes hb.1 p h0 hp
      refine ⟨Int.tmod (rd b p) n, Ev.congr hu (Ev.step (f := fun _ => some (Int.tmod (rd b p) n, p + 1)) (fun k => ?_) (Ev.now _)), ?_, ?_⟩
      · simp only [spec_reader_pick.j0, hfl, e2]
        rw [if_neg (by decide), if_pos hp, if_pos h0, if_neg (by omega), w64 (by omega) (by omega)]
      · rw [tmodp (by omega)]
        exact Int.emod_nonneg _ (by omega)
      · rw [tmodp (by omega)]
        exact Int.emod_lt_of_pos _ (by omega)
    · have hL : (0 : Int) < (b.length : Int) := by omega
      have hL2 : (b.length : Int) ≤ 2000 := by have := hb.2; omega
      have q1 : wrap64 (p * 7) = p * 7 := w64 (by omega) (by omega)
      have q2 : wrap64 (p * 7 + 3) = p * 7 + 3 := w64 (by omega) (by omega)
      have m1 : Int.tmod p (b.length : Int) = p % (b.length : Int) := tmodp h0
      have m2 : Int.tmod (p * 7 + 3) (b.length : Int) = (p * 7 + 3) % (b.length : Int) := tmodp (by omega)
      have n1 := Int.emod_nonneg p (show (b.length : Int) ≠ 0 by omega)
      have n2 := Int.emod_lt_of_pos p hL
      have n3 := Int.emod_nonneg (p * 7 + 3) (show (b.length : Int) ≠ 0 by omega)
      have n4 := Int.emod_lt_of_pos (p * 7 + 3) hL
      have ra := rd_bytes hb.1 _ n1 n2
      have rc := rd_bytes hb.1 _ n3 n4
      have t1 : Int.tdiv p (b.length : Int) = p / (b.length : Int) := tdivp h0
      have d1 : 0 ≤ p / (b.length : Int) := Int.ediv_nonneg h0 (by omega)
      have d2 : p / (b.length : Int) ≤ p := Int.ediv_le_self _ h0
      generalize hA : rd b (p % (b.length : Int)) = A at ra
      generalize hC : rd b ((p * 7 + 3) % (b.length : Int)) = C at rc
      generalize hD : p / (b.length : Int) = D at d1 d2
      have x1 : wrap64 A = A := w64 (by omega) (by omega)
      have x2 : wrap64 C = C := w64 (by omega) (by omega)
      have x3 : wrap64 (A * 131) = A * 131 := w64 (by omega) (by omega)
      have x4 : wrap64 (C * 1117) = C * 1117 := w64 (by omega) (by omega)
      have x5 : wrap64 (A * 131 + C * 1117) = A * 131 + C * 1117 := w64 (by omega) (by omega)
      have x6 : wrap64 (p * 29) = p * 29 := w64 (by omega) (by omega)
      have x7 : wrap64 (A * 131 + C * 1117 + p * 29) = A * 131 + C * 1117 + p * 29 := w64 (by omega) (by omega)
      have x8 : wrap64 D = D := w64 (by omega) (by omega)
      have x9 : wrap64 (D * 53) = D * 53 := w64 (by omega) (by omega)
      have x10 : wrap64 (A * 131 + C * 1117 + p * 29 + D * 53) = A * 131 + C * 1117 + p * 29 + D * 53 := w64 (by omega) (by omega)
      generalize hX : A * 131 + C * 1117 + p * 29 + D * 53 = X at x10
      have hX0 : 0 ≤ X ∧ X < 2 ^ 60 := by omega
      have x11 : Int.tdiv X 64 = X / 64 := tdivp hX0.1
      have x12 : wrap64 (X / 64) = X / 64 := w64 (by omega) (by omega)
      have hz := xor_ok X (X / 64) hX0.1 (by omega) (by omega) (by omega)
      generalize hZ : Go.bits .xor .i64 X (X / 64) = Z at hz
      refine ⟨Int.tmod Z n, Ev.congr hu (Ev.step (f := fun _ => some (Int.tmod Z n, p + 1)) (fun k => ?_) (Ev.now _)), ?_, ?_⟩
      · simp only [spec_reader_pick.j0, hfl, e2]
        rw [if_neg (by decide), if_neg hp, if_neg (by omega), q1, q2, m1, m2, if_pos n1, if_pos n2, if_pos n3, if_pos n4, if_neg (by omega), hA, hC, t1, hD, x1, x2, x3, x4, x5, x6, x7, x8, x9, hX, x10, x11, x12, hZ]
      · rw [tmodp (by omega)]
        exact Int.emod_nonneg _ (by omega)
      · rw [tmodp (by omega)]
        exact Int.emod_lt_of_pos _ (by omega)
theorem one_ok (b : List Int) (p : Int) (l : List Int) (hb : Bytes b) (h0 : 0 ≤ p) (h1 : p ≤ 1000000000) (hl : 1 ≤ l.length) : ∃ v, Ev (fun k => spec_reader_one.f k b p l) (v, p + 1) ∧ v ∈ l := by
  obtain ⟨v, hv, v0, v1⟩ := pick_ok b p (l.length : Int) hb h0 h1 (by omega)
  refine ⟨rd l v, ?_, rd_mem l v v0 v1⟩
  unfold spec_reader_one.f
  rw [ev_bind_iff hv]
  simp only
  rw [if_pos v0, if_pos v1]
  exact Ev.now _
theorem copyInts_eq (l : List Int) (h : l.length < 17592186044416) : spec_copyInts.f l = some l := by
  unfold spec_copyInts.f
  simp only [Option.bind_some, List.length_nil, List.nil_append]
  rw [if_pos (by omega)]
theorem spoil_ok (b : List Int) (p : Int) (l : List Int) (n : Int) (hb : Bytes b) (h0 : 0 ≤ p) (h1 : p ≤ 999999000) (hl : l.length ≤ 1000000000) :
    ∃ v p', Ev (fun k => spec_reader_spoil.f k b p l n) (v, p') ∧ p ≤ p' ∧ p' ≤ p + 3 ∧ v.length ≤ l.length + 1 ∧ ∀ x ∈ v, x ∈ l ∨ x = n ∨ x = -1 ∨ x = 0 ∨ x = 1 := by
  obtain ⟨c, hc, c0, c1⟩ := pick_ok b p 20 hb h0 (by omega) (by omega)
  unfold spec_reader_spoil.f
  rw [copyInts_eq l (by omega)]
  simp only [Option.bind_some]
  by_cases k0 : c = 0
  · refine ⟨l ++ [n], p + 1, ?_, by omega, by omega, by simp, ?_⟩
    · rw [ev_bind_iff hc]
      simp only
      simp only [if_pos k0, if_pos (show l.length < 17592186044416 by omega)]
      exact Ev.now _
    · intro x hx
      rcases List.mem_append.1 hx with h | h
      · exact .inl h
      · exact .inr (.inl (by simpa using h))
  · by_cases k1 : c = 1
    · by_cases g : (l.length : Int) > 0
      · refine ⟨l.drop (1 : Int).toNat, p + 1, ?_, by omega, by omega, by rw [List.length_drop]; omega, fun x hx => .inl (List.mem_of_mem_drop hx)⟩
        rw [ev_bind_iff hc]
        simp only
        simp only [if_neg k0, if_pos k1, if_pos g, if_pos (show 1 ≤ (l.length : Int) by omega)]
        exact Ev.now _
      · refine ⟨l, p + 1, ?_, by omega, by omega, by omega, fun x hx => .inl hx⟩
        rw [ev_bind_iff hc]
        simp only
        simp only [if_neg k0, if_pos k1, if_neg g]
        exact Ev.now _
    · by_cases k2 : c = 2
      · by_cases g : (l.length : Int) > 0
        · obtain ⟨v, hv, v0, v1⟩ := pick_ok b (p + 1) (l.length : Int) hb (by omega) (by omega) (by omega)
          obtain ⟨u, hu, hm⟩ := one_ok b (p + 1 + 1) [(-1), n, 0, 1] hb (by omega) (by omega) (by simp)
          refine ⟨l.set v.toNat u, p + 1 + 1 + 1, ?_, by omega, by omega, by simp, ?_⟩
          · rw [ev_bind_iff hc]
            simp only
            simp only [if_neg k0, if_neg k1, if_pos k2, if_pos g]
            rw [ev_bind_iff hv]
            simp only
            rw [ev_bind_iff hu]
            simp only
            rw [if_pos v0, if_pos v1]
            exact Ev.now _
          · intro x hx
            rcases List.mem_or_eq_of_mem_set hx with h | h
            · exact .inl h
            · subst h
              simp at hm
              rcases hm with h | h | h | h
              · exact .inr (.inr (.inl h))
              · exact .inr (.inl h)
              · exact .inr (.inr (.inr (.inl h)))
              · exact .inr (.inr (.inr (.inr h)))
        · refine ⟨l, p + 1, ?_, by omega, by omega, by omega, fun x hx => .inl hx⟩
          rw [ev_bind_iff hc]
          simp only
          simp only [if_neg k0, if_neg k1, if_pos k2, if_neg g]
          exact Ev.now _
      · refine ⟨l, p + 1, ?_, by omega, by omega, by omega, fun x hx => .inl hx⟩
        rw [ev_bind_iff hc]
        simp only
        simp only [if_neg k0, if_neg k1, if_neg k2]
        exact Ev.now _

end Go.Proofs.Ytpadegboplcapaa.B
