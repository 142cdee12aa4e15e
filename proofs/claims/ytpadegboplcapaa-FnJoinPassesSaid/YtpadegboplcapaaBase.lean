/- Plain lemmas about numbers, lists and loops that end: no program in sight. No conditions. -/
import Derived.Test.YtpadegboplcapaaWMore
import Derived.Laws.BitsLemmas
namespace Go.Proofs.Ytpadegboplcapaa.B
open Go.RowKit Go.Proofs.YtpadegboplcapaaW.PrintWords Go.Proofs.YtpadegboplcapaaW.PrintLast Go.Proofs.YtpadegboplcapaaW.PrintMore
set_option linter.unusedVariables false

/-! ### Numbers -/
theorem w64 {x : Int} (h1 : -9223372036854775808 ≤ x) (h2 : x ≤ 9223372036854775807) : wrap64 x = x := by
  unfold wrap64
  omega
theorem tdivp {a b : Int} (h : 0 ≤ a) : Int.tdiv a b = a / b := Int.tdiv_eq_ediv_of_nonneg h
theorem tmodp {a b : Int} (h : 0 ≤ a) : Int.tmod a b = a % b := Int.tmod_eq_emod_of_nonneg h
theorem wf64 {x : Int} (h : (Lit.int .i64 x).wf = true) : -9223372036854775808 ≤ x ∧ x ≤ 9223372036854775807 := by
  simp only [Lit.wf, IntKind.min, IntKind.max, IntKind.signed, IntKind.bits, Bool.and_eq_true, decide_eq_true_eq, if_true] at h
  omega
theorem wf8 {x : Int} (h : (Lit.int .u8 x).wf = true) : 0 ≤ x ∧ x ≤ 255 := by
  simp [Lit.wf, IntKind.min, IntKind.max, IntKind.signed, IntKind.bits] at h
  omega
theorem mx_l {a b : Int} (h : b ≤ a) : mx a b = a := by unfold mx; rw [if_neg (by omega)]
theorem mx_r {a b : Int} (h : a ≤ b) : mx a b = b := by
  unfold mx
  split <;> omega
theorem mn_l {a b : Int} (h : a ≤ b) : mn a b = a := by unfold mn; rw [if_neg (by omega)]
theorem mn_r {a b : Int} (h : b ≤ a) : mn a b = b := by
  unfold mn
  split <;> omega
theorem xor_ok (a b : Int) (h0 : 0 ≤ a) (h1 : a < 2 ^ 62) (h2 : 0 ≤ b) (h3 : b < 2 ^ 62) : 0 ≤ Go.bits .xor .i64 a b ∧ Go.bits .xor .i64 a b < 2 ^ 62 := by
  obtain ⟨x, rfl⟩ := Int.eq_ofNat_of_zero_le h0
  obtain ⟨y, rfl⟩ := Int.eq_ofNat_of_zero_le h2
  have hx : x < 2 ^ 62 := by exact_mod_cast h1
  have hy : y < 2 ^ 62 := by exact_mod_cast h3
  have hz : x ^^^ y < 2 ^ 62 := Nat.xor_lt_two_pow hx hy
  have e : Go.bits .xor .i64 (x : Int) (y : Int) = ((x ^^^ y : Nat) : Int) := by
    have p1 : x % 2 ^ IntKind.i64.bits = x := Nat.mod_eq_of_lt (Nat.lt_trans hx (by decide))
    have p2 : y % 2 ^ IntKind.i64.bits = y := Nat.mod_eq_of_lt (Nat.lt_trans hy (by decide))
    simp only [Go.bits, BitVec.ofInt_natCast, BitVec.toNat_xor, BitVec.toNat_ofNat, p1, p2]
    rw [IntKind.wrap_i64]
    omega
  rw [e]
  exact ⟨Int.natCast_nonneg _, by exact_mod_cast hz⟩

/-! ### Answers that come with enough rounds -/
theorem ev_bind_iff {α β : Type} {g : Nat → Option α} {f : Nat → α → Option β} {a : α} {r : β} (h : Ev g a) : Ev (fun n => (g n).bind (f n)) r ↔ Ev (fun n => f n a) r := by
  constructor
  · rintro ⟨K, k⟩
    obtain ⟨K', h⟩ := h
    refine ⟨max K K', fun n hn => ?_⟩
    have h1 := h n (by omega)
    have h2 := k n (by omega)
    simp only [h1, Option.bind_some] at h2
    exact h2
  · exact fun k => Ev.bind h k
theorem ev_some_iff {α : Type} {a r : α} : Ev (fun _ => some a) r ↔ a = r := by
  constructor
  · rintro ⟨K, h⟩
    exact Option.some.inj (h K (Nat.le_refl _))
  · rintro rfl
    exact Ev.now _
theorem ev_now {α : Type} {a r : α} (h : a = r) : Ev (fun _ => some a) r := ev_some_iff.2 h
theorem ev_unique {α : Type} {g : Nat → Option α} {a b : α} (h : Ev g a) (k : Ev g b) : a = b := by
  obtain ⟨K, h⟩ := h
  obtain ⟨K', k⟩ := k
  have h1 := h (max K K') (by omega)
  have h2 := k (max K K') (by omega)
  rw [h1] at h2
  exact Option.some.inj h2
theorem ev_pos {α : Type} {c : Prop} [Decidable c] {g f : Nat → Option α} {r : α} (h : c) (k : Ev g r) : Ev (fun n => if c then g n else f n) r := by
  simp only [if_pos h]
  exact k
theorem ev_neg {α : Type} {c : Prop} [Decidable c] {g f : Nat → Option α} {r : α} (h : ¬ c) (k : Ev f r) : Ev (fun n => if c then g n else f n) r := by
  simp only [if_neg h]
  exact k
theorem ev_pure {α β : Type} {g : Option α} {f : Nat → α → Option β} {a : α} {r : β} (h : g = some a) (k : Ev (fun n => f n a) r) : Ev (fun n => g.bind (f n)) r := by
  subst h
  exact k
/-- A loop counted from i to n with a state that is known at each round. -/
theorem ev_for {σ ρ : Type} (l : Nat → σ → Nat → Option ρ) (n : Nat) (st : Nat → σ)
    (step : ∀ i, i < n → ∀ r, Ev (fun k => l k (st (i + 1)) (i + 1)) r → Ev (fun k => l k (st i) i) r) (r : ρ) (h : Ev (fun k => l k (st n) n) r) : Ev (fun k => l k (st 0) 0) r := by
  have key : ∀ d, d ≤ n → Ev (fun k => l k (st (n - d)) (n - d)) r := by
    intro d
    induction d with
    | zero => intro _; exact h
    | succ d ih =>
      intro hd
      have h1 := ih (by omega)
      have e : n - (d + 1) + 1 = n - d := by omega
      refine step (n - (d + 1)) (by omega) r ?_
      rw [e]
      exact h1
  have := key n (Nat.le_refl _)
  simpa using this
/-- The same with an invariant. -/
theorem ev_inv {σ ρ : Type} (l : Nat → σ → Nat → Option ρ) (n : Nat) (Inv : Nat → σ → Prop)
    (step : ∀ i s, i < n → Inv i s → ∃ s', Inv (i + 1) s' ∧ ∀ r, Ev (fun k => l k s' (i + 1)) r → Ev (fun k => l k s i) r)
    (s : σ) (h0 : Inv 0 s) : ∃ s', Inv n s' ∧ ∀ r, Ev (fun k => l k s' n) r → Ev (fun k => l k s 0) r := by
  have key : ∀ d, d ≤ n → ∃ s', Inv d s' ∧ ∀ r, Ev (fun k => l k s' d) r → Ev (fun k => l k s 0) r := by
    intro d
    induction d with
    | zero => intro _; exact ⟨s, h0, fun _ h => h⟩
    | succ d ih =>
      intro hd
      obtain ⟨s1, h1, k1⟩ := ih (by omega)
      obtain ⟨s2, h2, k2⟩ := step d s1 (by omega) h1
      exact ⟨s2, h2, fun r h => k1 r (k2 r h)⟩
  exact key n (Nat.le_refl _)

/-! ### Lists -/
theorem rd_nat (xs : List Int) (i : Nat) : rd xs (i : Int) = xs.getD i 0 := by simp [rd]
theorem rd_get (xs : List Int) (i : Nat) (h : i < xs.length) : rd xs (i : Int) = xs[i] := by simp [rd, h]
theorem rd_mem (xs : List Int) (i : Int) (h0 : 0 ≤ i) (h : i < (xs.length : Int)) : rd xs i ∈ xs := by
  obtain ⟨n, rfl⟩ := Int.eq_ofNat_of_zero_le h0
  rw [rd_get xs n (by omega)]
  exact List.getElem_mem _
theorem rd_bytes {xs : List Int} (hb : ∀ x ∈ xs, 0 ≤ x ∧ x ≤ 255) (i : Int) (h0 : 0 ≤ i) (h : i < (xs.length : Int)) : 0 ≤ rd xs i ∧ rd xs i ≤ 255 := hb _ (rd_mem xs i h0 h)
theorem set_take_succ {α : Type} (y x : List α) (i : Nat) (hl : y.length = x.length) (hi : i < x.length) (hy : y.take i = x.take i) : (y.set i x[i]).take (i + 1) = x.take (i + 1) := by
  apply List.ext_getElem
  · simp [hl]
  · intro j h1 h2
    simp only [List.getElem_take, List.getElem_set]
    split
    · subst_vars; rfl
    · rename_i h
      have hj : j < i := by simp at h2; omega
      have e := congrArg (fun l => l[j]?) hy
      simp only [List.getElem?_take, hj, if_true] at e
      rw [List.getElem?_eq_getElem (by omega), List.getElem?_eq_getElem (by omega)] at e
      exact Option.some.inj e

end Go.Proofs.Ytpadegboplcapaa.B
