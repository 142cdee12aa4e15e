/- What packing and unpacking rows answer, in plain numbers. No conditions. -/
import Derived.Test.YtikgepiglmnehaaDepth
import Derived.Test.YtikgepiglmnehaaLoops
import Derived.Test.YtikgepiglmnehaaQ3
import Derived.Test.YtikgepiglmnehaaQ4
namespace Go.Proofs.Ytikgepiglmnehaa.B
open Go.RowKit Go.Proofs.Ytikgepiglmnehaa.Q Go.Proofs.YtikgepiglmnehaaW.PrintWords Go.Proofs.YtikgepiglmnehaaW.PrintLast Go.Proofs.YtikgepiglmnehaaW.PrintMore
set_option linter.unusedVariables false

/-- Byte b after i numbers of depth d. -/
def pkC (l : List Int) (d : Nat) : Nat → Nat → Int
  | 0, _ => 0
  | i + 1, b => pkC l d i b + (if b = i * d / 8 then l.getD i 0 * 2 ^ (8 - d - i * d % 8) else 0)
def pkL (l : List Int) (d i n : Nat) : List Int := (List.range n).map (pkC l d i)
def pk (l : List Int) (d : Nat) : List Int := pkL l d l.length ((l.length * d + 7) / 8)
def okN (d : Nat) : Prop := d = 1 ∨ d = 2 ∨ d = 4 ∨ d = 8
/-- The shifts that occur. -/
def okS (d s : Nat) : Prop := okN d ∧ s + d ≤ 8 ∧ s % d = 0
theorem okS_of {d : Nat} (i : Nat) (h : okN d) : i * d % 8 + d ≤ 8 ∧ okS d (8 - d - i * d % 8) := by
  unfold okS okN at *
  rcases h with rfl | rfl | rfl | rfl <;> omega
theorem okS_cases {d s : Nat} (h : okS d s) : (d = 1 ∧ (s = 0 ∨ s = 1 ∨ s = 2 ∨ s = 3 ∨ s = 4 ∨ s = 5 ∨ s = 6 ∨ s = 7)) ∨ (d = 2 ∧ (s = 0 ∨ s = 2 ∨ s = 4 ∨ s = 6)) ∨ (d = 4 ∧ (s = 0 ∨ s = 4)) ∨ (d = 8 ∧ s = 0) := by
  obtain ⟨h, h1, h2⟩ := h
  unfold okN at h
  rcases h with rfl | rfl | rfl | rfl <;> omega
/-- One number more in a byte. -/
theorem pk_step {d s : Nat} (h : okS d s) (C x : Int) (hC : C % 2 ^ (s + d) = 0) (h0 : 0 ≤ C) (h1 : C < 256) (x0 : 0 ≤ x) (x1 : x < 2 ^ d) :
    (C + x * 2 ^ s) % 2 ^ s = 0 ∧ 0 ≤ C + x * 2 ^ s ∧ C + x * 2 ^ s < 256 ∧ (C + x * 2 ^ s) / 2 ^ s % 2 ^ d = x ∧ 0 ≤ x * 2 ^ s ∧ x * 2 ^ s < 2 ^ (s + d) := by
  rcases okS_cases h with ⟨rfl, rfl | rfl | rfl | rfl | rfl | rfl | rfl | rfl⟩ | ⟨rfl, rfl | rfl | rfl | rfl⟩ | ⟨rfl, rfl | rfl⟩ | ⟨rfl, rfl⟩
  all_goals
    simp at hC x1 ⊢
    omega
/-- The numbers before it stay. -/
theorem pk_keep {d s t : Nat} (h : okS d s) (ht : okS d t) (hst : s + d ≤ t) (C x : Int) (hC : C % 2 ^ (s + d) = 0) (h0 : 0 ≤ C) (h1 : C < 256) (x0 : 0 ≤ x) (x1 : x < 2 ^ d) :
    (C + x * 2 ^ s) / 2 ^ t = C / 2 ^ t := by
  rcases okS_cases h with ⟨rfl, rfl | rfl | rfl | rfl | rfl | rfl | rfl | rfl⟩ | ⟨rfl, rfl | rfl | rfl | rfl⟩ | ⟨rfl, rfl | rfl⟩ | ⟨rfl, rfl⟩
  all_goals
    rcases okS_cases ht with ⟨h2, rfl | rfl | rfl | rfl | rfl | rfl | rfl | rfl⟩ | ⟨h2, rfl | rfl | rfl | rfl⟩ | ⟨h2, rfl | rfl⟩ | ⟨h2, rfl⟩
    all_goals first
      | (exfalso; omega)
      | (simp at hC x1 ⊢
         omega)
theorem next_bit (q d : Nat) (hd : q % 8 + d ≤ 8) (h1 : 1 ≤ d) : ((q + d) / 8 = q / 8 ∧ (q + d) % 8 = q % 8 + d ∧ q % 8 + d < 8) ∨ ((q + d) / 8 = q / 8 + 1 ∧ (q + d) % 8 = 0 ∧ q % 8 + d = 8) := by omega
theorem okN_pos {d : Nat} (h : okN d) : 1 ≤ d ∧ d ≤ 8 := by
  unfold okN at h
  omega
def small (l : List Int) (d : Nat) : Prop := ∀ x ∈ l, 0 ≤ x ∧ x < 2 ^ d
theorem small_get {l : List Int} {d : Nat} (h : small l d) (i : Nat) : 0 ≤ l.getD i 0 ∧ l.getD i 0 < 2 ^ d := by
  by_cases hi : i < l.length
  · have e : l.getD i 0 = l[i] := by simp [hi]
    rw [e]
    exact h _ (List.getElem_mem _)
  · have e : l.getD i 0 = 0 := by simp [List.getD_eq_getElem?_getD, List.getElem?_eq_none (show l.length ≤ i by omega)]
    rw [e]
    exact ⟨Int.le_refl _, Int.pow_pos (by decide)⟩
theorem pkC_ok {l : List Int} {d : Nat} (hd : okN d) (hl : small l d) (i : Nat) : ∀ b, (i * d / 8 < b → pkC l d i b = 0) ∧ (b = i * d / 8 → pkC l d i b % 2 ^ (8 - i * d % 8) = 0) ∧ 0 ≤ pkC l d i b ∧ pkC l d i b < 256 := by
  induction i with
  | zero =>
    intro b
    simp [pkC]
  | succ i ih =>
    intro b
    obtain ⟨h1, h2, h3, h4⟩ := ih b
    obtain ⟨g1, g2⟩ := okS_of i hd
    have hx := small_get hl i
    have hp := okN_pos hd
    have e0 : (i + 1) * d = i * d + d := Nat.succ_mul i d
    have es : 8 - i * d % 8 = 8 - d - i * d % 8 + d := by omega
    rw [es] at h2
    rw [e0]
    simp only [pkC]
    by_cases hb : b = i * d / 8
    · rw [if_pos hb]
      obtain ⟨p1, p2, p3, _⟩ := pk_step g2 _ _ (h2 hb) h3 h4 hx.1 hx.2
      rcases next_bit (i * d) d g1 hp.1 with ⟨n1, n2, n3⟩ | ⟨n1, n2, n3⟩
      · refine ⟨fun h => by omega, fun _ => ?_, p2, p3⟩
        rw [n2, show 8 - (i * d % 8 + d) = 8 - d - i * d % 8 by omega]
        exact p1
      · exact ⟨fun h => by omega, fun h => by omega, p2, p3⟩
    · rw [if_neg hb, Int.add_zero]
      refine ⟨fun h => ?_, fun h => ?_, h3, h4⟩
      · rcases next_bit (i * d) d g1 hp.1 with ⟨n1, n2, n3⟩ | ⟨n1, n2, n3⟩ <;> exact h1 (by omega)
      · rcases next_bit (i * d) d g1 hp.1 with ⟨n1, n2, n3⟩ | ⟨n1, n2, n3⟩
        · omega
        · rw [h1 (by omega)]
          simp
theorem pkC_get {l : List Int} {d : Nat} (hd : okN d) (hl : small l d) (i : Nat) : ∀ j, j < i → pkC l d i (j * d / 8) / 2 ^ (8 - d - j * d % 8) % 2 ^ d = l.getD j 0 := by
  induction i with
  | zero => intro j hj; omega
  | succ i ih =>
    intro j hj
    have hx := small_get hl i
    have hp := okN_pos hd
    obtain ⟨g1, g2⟩ := okS_of i hd
    obtain ⟨g3, g4⟩ := okS_of j hd
    obtain ⟨h1, h2, h3, h4⟩ := pkC_ok hd hl i (i * d / 8)
    have es : 8 - i * d % 8 = 8 - d - i * d % 8 + d := by omega
    rw [es] at h2
    simp only [pkC]
    by_cases e : j = i
    · subst e
      rw [if_pos rfl]
      exact (pk_step g2 _ _ (h2 rfl) h3 h4 hx.1 hx.2).2.2.2.1
    · have hlt : j < i := by omega
      by_cases hb : j * d / 8 = i * d / 8
      · rw [if_pos hb]
        have hm : (j + 1) * d ≤ i * d := Nat.mul_le_mul_right d (by omega)
        rw [Nat.succ_mul] at hm
        have := ih j hlt
        rw [hb] at this ⊢
        rw [pk_keep g2 g4 (by omega) _ _ (h2 rfl) h3 h4 hx.1 hx.2]
        exact this
      · rw [if_neg hb, Int.add_zero]
        exact ih j hlt
theorem pkL_length (l : List Int) (d i n : Nat) : (pkL l d i n).length = n := by simp [pkL]
theorem pkL_get (l : List Int) (d i n b : Nat) (h : b < n) : (pkL l d i n).getD b 0 = pkC l d i b := by simp [pkL, h]
theorem pkL_zero (l : List Int) (d n : Nat) : pkL l d 0 n = List.replicate n 0 := by
  apply List.ext_getElem
  · simp [pkL]
  · intro j h1 h2
    simp [pkL, pkC]
theorem pkL_set (l : List Int) (d i n : Nat) (v : Int) (hv : v = pkC l d i (i * d / 8) + l.getD i 0 * 2 ^ (8 - d - i * d % 8)) : (pkL l d i n).set (i * d / 8) v = pkL l d (i + 1) n := by
  apply List.ext_getElem
  · simp [pkL]
  · intro b h1 h2
    rw [List.getElem_set]
    by_cases e : i * d / 8 = b
    · rw [if_pos e]
      simp only [pkL, List.getElem_map, List.getElem_range, pkC]
      rw [if_pos e.symm, hv, e]
    · rw [if_neg e]
      simp only [pkL, List.getElem_map, List.getElem_range, pkC]
      rw [if_neg (fun h => e h.symm), Int.add_zero]
theorem byte_lt {d : Nat} (hd : okN d) {i n : Nat} (hi : i < n) : i * d / 8 < (n * d + 7) / 8 := by
  unfold okN at hd
  rcases hd with rfl | rfl | rfl | rfl <;> omega

/-! ### The shifts and bits of the program -/
theorem shl_ok (v : Int) (s : Nat) (hs : s ≤ 8) (h0 : 0 ≤ v) (h1 : v < 256) : shl .i64 v (s : Int) = v * 2 ^ s := by
  unfold shl
  rw [show ((s : Int).toNat) = s from by omega, Nat.min_eq_left (by simp [IntKind.bits]; omega), IntKind.wrap_i64]
  have hp : (2 : Int) ^ s ≤ 256 ∧ 0 < (2 : Int) ^ s := by
    have : s = 0 ∨ s = 1 ∨ s = 2 ∨ s = 3 ∨ s = 4 ∨ s = 5 ∨ s = 6 ∨ s = 7 ∨ s = 8 := by omega
    rcases this with rfl | rfl | rfl | rfl | rfl | rfl | rfl | rfl | rfl <;> decide
  have q0 : 0 ≤ v * 2 ^ s := Int.mul_nonneg h0 (by omega)
  have q1 : v * 2 ^ s ≤ 256 * 256 := Int.mul_le_mul (by omega) hp.1 (by omega) (by omega)
  omega
theorem or_ok {d s : Nat} (h : okS d s) (C y : Int) (hC : C % 2 ^ (s + d) = 0) (h0 : 0 ≤ C) (h1 : C < 256) (y0 : 0 ≤ y) (y1 : y < 2 ^ (s + d)) : Go.bits .or .i64 C y = C + y := by
  have hk : ∀ n : Int, 0 ≤ n → n < 2 ^ 62 → IntKind.i64.wrap n = n := fun n a b => by rw [IntKind.wrap_i64]; omega
  have hp : (2 : Int) ^ (s + d) ≤ 256 := by
    rcases okS_cases h with ⟨rfl, rfl | rfl | rfl | rfl | rfl | rfl | rfl | rfl⟩ | ⟨rfl, rfl | rfl | rfl | rfl⟩ | ⟨rfl, rfl | rfl⟩ | ⟨rfl, rfl⟩ <;> decide
  exact bits_join .i64 62 (by decide) hk (s + d) C y h0 hC (by omega) y0 y1 (by omega)
theorem and_ok {d : Nat} (h : okN d) (x : Int) (h0 : 0 ≤ x) (h1 : x < 256) : Go.bits .and .i64 x (2 ^ d - 1) = x % 2 ^ d := by
  have hk : ∀ n : Int, 0 ≤ n → n < 2 ^ 62 → IntKind.i64.wrap n = n := fun n a b => by rw [IntKind.wrap_i64]; omega
  exact bits_mask .i64 62 (by decide) hk d (by have := okN_pos h; omega) x h0 (by omega)
/-- The computed place and shift. -/
theorem place {d : Nat} (hd : okN d) (i : Nat) (hi : i ≤ 100000) :
    wrap64 ((i : Int) * (d : Int)) = ((i * d : Nat) : Int) ∧ wrap64 (Int.tdiv ((i * d : Nat) : Int) 8) = ((i * d / 8 : Nat) : Int) ∧ wrap64 (wrap64 (8 - (d : Int)) - Int.tmod ((i * d : Nat) : Int) 8) = ((8 - d - i * d % 8 : Nat) : Int) := by
  have hp := okN_pos hd
  have hg := (okS_of i hd).1
  have hm : i * d ≤ 100000 * 8 := Nat.mul_le_mul hi hp.2
  refine ⟨?_, ?_, ?_⟩
  · rw [← Int.natCast_mul, w64 (by omega) (by omega)]
  · rw [tdivp (by omega), w64 (by omega) (by omega)]
    omega
  · rw [tmodp (by omega), w64 (x := 8 - (d : Int)) (by omega) (by omega), w64 (by omega) (by omega)]
    omega
theorem specPack_ev (l : List Int) (d : Nat) (hd : okN d) (hl : small l d) (hn : l.length ≤ 100000) : Ev (fun k => spec_packRow.f k l (d : Int)) (pk l d) := by
  have hp := okN_pos hd
  have e1 : wrap64 (Int.tdiv (wrap64 (wrap64 ((l.length : Int) * (d : Int)) + 7)) 8) = (((l.length * d + 7) / 8 : Nat) : Int) := by
    have hm : l.length * d ≤ 100000 * 8 := Nat.mul_le_mul hn hp.2
    rw [(place hd l.length hn).1, w64 (x := ((l.length * d : Nat) : Int) + 7) (by omega) (by omega), tdivp (by omega), w64 (by omega) (by omega)]
    omega
  have hb : (l.length * d + 7) / 8 ≤ 100001 := by
    have hm : l.length * d ≤ 100000 * 8 := Nat.mul_le_mul hn hp.2
    omega
  unfold spec_packRow.f
  rw [e1]
  simp only [Int.toNat_natCast]
  refine ev_pos (by omega) (ev_pos (by omega) ?_)
  rw [← pkL_zero l d]
  refine ev_for (fun k (s : List Int) i => spec_packRow.l0 k l (d : Int) s (i : Int)) l.length (fun i => pkL l d i ((l.length * d + 7) / 8)) (fun i hi r h => ?_) _ ?_
  · refine Ev.step (fun k => ?_) h
    obtain ⟨q1, q2, q3⟩ := place hd i (by omega)
    have hlt := byte_lt hd hi
    have hx := small_get hl i
    obtain ⟨g1, g2⟩ := okS_of i hd
    obtain ⟨c1, c2, c3, c4⟩ := pkC_ok hd hl i (i * d / 8)
    have es : 8 - i * d % 8 = 8 - d - i * d % 8 + d := by omega
    rw [es] at c2
    obtain ⟨p1, p2, p3, _⟩ := pk_step g2 _ _ (c2 rfl) c3 c4 hx.1 hx.2
    have hx2 : l.getD i 0 < 256 := by
      have := hx.2
      have h8 : (2 : Int) ^ d ≤ 256 := by
        unfold okN at hd
        rcases hd with rfl | rfl | rfl | rfl <;> decide
      omega
    simp only [spec_packRow.l0, q1, q2, q3]
    rw [if_pos (by omega), if_pos (by omega), if_pos (by rw [pkL_length]; omega), if_pos (by omega), if_pos (by omega), w64 (x := (i : Int) + 1) (by omega) (by omega)]
    simp only [rd_nat, Int.toNat_natCast]
    rw [pkL_get _ _ _ _ _ hlt, shl_ok _ _ (by omega) hx.1 hx2, w64 (by omega) (by omega), pkL_set l d i _ _ rfl]
    rfl
  · refine Ev.step (f := fun _ => some (pk l d)) (fun k => ?_) (Ev.now _)
    simp only [spec_packRow.l0]
    rw [if_neg (by omega)]
    rfl
theorem implPack_ev (l : List Int) (d : Nat) (hd : okN d) (hl : small l d) (hn : l.length ≤ 100000) : Ev (fun k => impl_packed.f k l (d : Int)) (pk l d) := by
  have hp := okN_pos hd
  have e1 : wrap64 (Int.tdiv (wrap64 (wrap64 ((l.length : Int) * (d : Int)) + 7)) 8) = (((l.length * d + 7) / 8 : Nat) : Int) := by
    have hm : l.length * d ≤ 100000 * 8 := Nat.mul_le_mul hn hp.2
    rw [(place hd l.length hn).1, w64 (x := ((l.length * d : Nat) : Int) + 7) (by omega) (by omega), tdivp (by omega), w64 (by omega) (by omega)]
    omega
  have hb : (l.length * d + 7) / 8 ≤ 100001 := by
    have hm : l.length * d ≤ 100000 * 8 := Nat.mul_le_mul hn hp.2
    omega
  unfold impl_packed.f
  rw [e1]
  simp only [Int.toNat_natCast]
  refine ev_pos (by omega) (ev_pos (by omega) ?_)
  rw [← pkL_zero l d]
  refine ev_for (fun k (s : List Int) i => impl_packed.l0 k (d : Int) s l (l.length : Int) (i : Int)) l.length (fun i => pkL l d i ((l.length * d + 7) / 8)) (fun i hi r h => ?_) _ ?_
  · refine Ev.step (fun k => ?_) h
    obtain ⟨q1, q2, q3⟩ := place hd i (by omega)
    have hlt := byte_lt hd hi
    have hx := small_get hl i
    obtain ⟨g1, g2⟩ := okS_of i hd
    obtain ⟨c1, c2, c3, c4⟩ := pkC_ok hd hl i (i * d / 8)
    have es : 8 - i * d % 8 = 8 - d - i * d % 8 + d := by omega
    rw [es] at c2
    obtain ⟨p1, p2, p3, p4, p5, p6⟩ := pk_step g2 _ _ (c2 rfl) c3 c4 hx.1 hx.2
    have hx2 : l.getD i 0 < 256 := by
      have := hx.2
      have h8 : (2 : Int) ^ d ≤ 256 := by
        unfold okN at hd
        rcases hd with rfl | rfl | rfl | rfl <;> decide
      omega
    simp only [impl_packed.l0, q1, q2, q3]
    rw [if_pos (by omega), if_pos (by omega), if_pos (by omega), if_pos (by omega), if_pos (by rw [pkL_length]; omega), if_pos (by omega), w64 (x := (i : Int) + 1) (by omega) (by omega)]
    simp only [rd_nat, Int.toNat_natCast]
    rw [pkL_get _ _ _ _ _ hlt, shl_ok _ _ (by omega) hx.1 hx2, or_ok g2 _ _ (c2 rfl) c3 c4 p5 p6, pkL_set l d i _ _ rfl]
    rfl
  · refine Ev.step (f := fun _ => some (pk l d)) (fun k => ?_) (Ev.now _)
    simp only [impl_packed.l0]
    rw [if_neg (by omega)]
    rfl

/-! ### PackRow -/
def okRow (l : List Int) (d : Int) : Bool := okD d && decide (l.length ≤ 64) && l.all fun x => decide (0 ≤ x) && decide (x ≤ most d)
def packP (l : List Int) (d : Int) : List Int := if okRow l d = true then pk l d.toNat else []
theorem packP_length (l : List Int) (d : Int) : (packP l d).length ≤ 64 := by
  unfold packP
  split
  · rename_i h
    unfold okRow at h
    simp only [Bool.and_eq_true, decide_eq_true_eq] at h
    unfold pk
    rw [pkL_length]
    have hd : d.toNat ≤ 8 := by
      have := okD_cases h.1.1
      omega
    have hm : l.length * d.toNat ≤ 64 * 8 := Nat.mul_le_mul h.1.2 hd
    omega
  · simp
theorem okD_nat {d : Int} (h : okD d = true) : okN d.toNat ∧ ((d.toNat : Nat) : Int) = d ∧ (2 : Int) ^ d.toNat = most d + 1 := by
  rcases okD_cases h with rfl | rfl | rfl | rfl <;> exact ⟨by unfold okN; decide, by decide, by decide⟩
theorem okRow_small {l : List Int} {d : Int} (h : okRow l d = true) : okD d = true ∧ l.length ≤ 64 ∧ small l d.toNat := by
  unfold okRow at h
  simp only [Bool.and_eq_true, decide_eq_true_eq, List.all_eq_true] at h
  refine ⟨h.1.1, h.1.2, fun x hx => ?_⟩
  have := h.2 x hx
  rw [(okD_nat h.1.1).2.2]
  omega
theorem specPackRow_ev (l : List Int) (d : Int) (hn : l.length ≤ 2000000) : Ev (fun k => spec_PackRow.f k l d) (packP l d) := by
  unfold spec_PackRow.f
  rw [validDepth_eq]
  simp only [Option.bind_some]
  by_cases h : okD d = true
  · obtain ⟨f0, f1, f2, f3, f4, _⟩ := d_facts h
    refine ev_pos h ?_
    by_cases hl : (l.length : Int) > 64
    · refine ev_pos hl (ev_now ?_)
      unfold packP
      rw [if_neg]
      unfold okRow
      simp
      omega
    · refine ev_neg hl (ev_pos f0 ?_)
      rw [f2, ev_bind_iff (allIn_ev l 0 (most d) hn)]
      by_cases ha : (l.all fun x => decide (0 ≤ x) && decide (x ≤ most d)) = true
      · have hr : okRow l d = true := by
          unfold okRow
          rw [h, ha]
          simp
          omega
        obtain ⟨_, h2, h3⟩ := okRow_small hr
        obtain ⟨n1, n2, _⟩ := okD_nat h
        refine ev_pos ha ?_
        have := specPack_ev l d.toNat n1 h3 (by omega)
        rw [n2] at this
        rw [ev_bind_iff this]
        refine ev_now ?_
        unfold packP
        rw [if_pos hr]
      · refine ev_neg ha (ev_now ?_)
        unfold packP
        rw [if_neg]
        unfold okRow
        simp only [Bool.and_eq_true]
        exact fun h => ha h.2
  · refine ev_neg h (ev_now ?_)
    unfold packP
    rw [if_neg]
    unfold okRow
    simp only [Bool.and_eq_true]
    exact fun h' => h h'.1.1
theorem isRow_eq (l : List Int) (d : Int) (h : okD d = true) : impl_isRow.f l d = some (okRow l d) := by
  unfold impl_isRow.f
  rw [if_pos (okD_cases h)]
  congr 1
  have e : (!l.any (outOf d)) = l.all fun x => decide (0 ≤ x) && decide (x ≤ most d) := by
    rw [Bool.eq_iff_iff]
    simp only [Bool.not_eq_true', List.any_eq_false, List.all_eq_true, outOf, (okD_nat h).2.2, Bool.or_eq_true, Bool.and_eq_true, decide_eq_true_eq, not_or]
    exact ⟨fun h x hx => by have := h x hx; omega, fun h x hx => by have := h x hx; omega⟩
  rw [e]
  unfold okRow
  rw [h]
  simp
theorem implPackRow_ev (l : List Int) (d : Int) : Ev (fun k => impl_PackRow.f k l d) (packP l d) := by
  unfold impl_PackRow.f
  rw [isDepth_eq]
  simp only [Option.bind_some]
  by_cases h : okD d = true
  · refine ev_pos h ?_
    rw [isRow_eq l d h]
    simp only [Option.bind_some]
    by_cases hr : okRow l d = true
    · obtain ⟨_, h2, h3⟩ := okRow_small hr
      obtain ⟨n1, n2, _⟩ := okD_nat h
      refine ev_pos hr ?_
      have := implPack_ev l d.toNat n1 h3 (by omega)
      rw [n2] at this
      rw [ev_bind_iff this]
      refine ev_now ?_
      unfold packP
      rw [if_pos hr]
    · refine ev_neg hr (ev_now ?_)
      unfold packP
      rw [if_neg hr]
  · refine ev_neg h (ev_now ?_)
    unfold packP
    rw [if_neg]
    unfold okRow
    simp only [Bool.and_eq_true]
    exact fun h' => h h'.1.1

end Go.Proofs.Ytikgepiglmnehaa.B
