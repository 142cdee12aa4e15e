/- Packed rows: what is unpacked again, and pairs of numbers. No conditions. -/
import Derived.Test.YtikgepiglmnehaaUnpack
namespace Go.Proofs.Ytikgepiglmnehaa.B
set_option linter.unusedVariables false

theorem getD_ext {a b : List Int} (hl : a.length = b.length) (h : ∀ i, i < a.length → a.getD i 0 = b.getD i 0) : a = b := by
  apply List.ext_getElem hl
  intro i h1 h2
  have := h i h1
  simpa [h1, h2] using this
/-- What was packed is unpacked. -/
theorem unpk_pk {l : List Int} {d : Nat} (hd : okN d) (hl : small l d) : unpk (pk l d) d l.length = l := by
  refine getD_ext (unpk_length _ _ _) fun i hi => ?_
  rw [unpk_length] at hi
  have hlt := byte_lt hd hi
  rw [← pkC_get hd hl l.length i hi]
  unfold unpk
  rw [List.getD_eq_getElem?_getD, List.getElem?_map, List.getElem?_range hi]
  simp only [Option.map_some, Option.getD_some]
  unfold pk
  rw [pkL_get _ _ _ _ _ hlt]
theorem pk_bytes {l : List Int} {d : Nat} (hd : okN d) (hl : small l d) : okBytes (pk l d) = true := by
  unfold okBytes pk pkL
  simp only [List.all_eq_true, List.mem_map, Bool.and_eq_true, decide_eq_true_eq]
  rintro x ⟨b, _, rfl⟩
  obtain ⟨_, _, h3, h4⟩ := pkC_ok hd hl l.length b
  omega
theorem pk_length (l : List Int) (d : Nat) : (pk l d).length = (l.length * d + 7) / 8 := by
  unfold pk
  exact pkL_length _ _ _ _
theorem unpack_pack {l : List Int} {d : Int} (h : okRow l d = true) : unpackP (packP l d) d l.length = (l, true) := by
  obtain ⟨h1, h2, h3⟩ := okRow_small h
  obtain ⟨n1, n2, _⟩ := okD_nat h1
  have e : packP l d = pk l d.toNat := by
    unfold packP
    rw [if_pos h]
  rw [e]
  unfold unpackP
  have hu : okUn (pk l d.toNat) d l.length = true := by
    unfold okUn
    rw [h1, pk_bytes n1 h3, pk_length, decide_eq_true (show (0 : Int) ≤ l.length by omega), decide_eq_true (show (l.length : Int) ≤ 64 by omega)]
    simp
  rw [if_pos]
  · rw [Int.toNat_natCast, unpk_pk n1 h3]
  · refine ⟨hu, ?_⟩
    rw [Int.toNat_natCast, unpk_pk n1 h3]
theorem pack_unpack {l o : List Int} {d c : Int} (h : unpackP l d c = (o, true)) : (o.length : Int) = c ∧ packP o d = l := by
  unfold unpackP at h
  split at h
  · rename_i hu
    simp only [Prod.mk.injEq, and_true] at h
    subst h
    obtain ⟨hu, hp⟩ := hu
    unfold okUn at hu
    simp only [Bool.and_eq_true, decide_eq_true_eq] at hu
    obtain ⟨⟨h1, h2, h3⟩, h4, h5⟩ := hu
    obtain ⟨n1, n2, n3⟩ := okD_nat h1
    refine ⟨by rw [unpk_length]; omega, ?_⟩
    unfold packP
    rw [if_pos]
    · exact hp
    · unfold okRow
      rw [h1, unpk_length, decide_eq_true (show c.toNat ≤ 64 by omega)]
      simp only [Bool.true_and, List.all_eq_true, Bool.and_eq_true, decide_eq_true_eq]
      intro x hx
      have := unpk_small l d.toNat c.toNat x hx
      rw [n3] at this
      omega
  · simp at h
/-- Pairs of numbers. -/
theorem pkC_double {d : Nat} (hd : okN d) (h2 : okN (2 * d)) (l ps : List Int) (hp : ∀ i, ps.getD i 0 = l.getD (2 * i) 0 * 2 ^ d + l.getD (2 * i + 1) 0) (i : Nat) : ∀ b, pkC ps (2 * d) i b = pkC l d (2 * i) b := by
  induction i with
  | zero => intro b; rfl
  | succ i ih =>
    intro b
    rw [show 2 * (i + 1) = 2 * i + 1 + 1 by omega]
    simp only [pkC]
    rw [ih b, hp i]
    have e1 : i * (2 * d) = 2 * i * d := by rw [Nat.mul_comm 2 i, Nat.mul_assoc]
    have e2 : (2 * i + 1) * d = 2 * i * d + d := Nat.succ_mul (2 * i) d
    obtain ⟨g1, g2⟩ := okS_of i h2
    have hpos := okN_pos hd
    rw [e1] at g1 ⊢
    rw [e2]
    generalize 2 * i * d = q at g1
    have e3 : (q + d) / 8 = q / 8 := by omega
    have e4 : (q + d) % 8 = q % 8 + d := by omega
    rw [e3, e4]
    by_cases hb : b = q / 8
    · rw [if_pos hb, if_pos hb, if_pos hb, Int.add_assoc]
      congr 1
      rw [show 8 - d - q % 8 = d + (8 - 2 * d - q % 8) by omega, show 8 - d - (q % 8 + d) = 8 - 2 * d - q % 8 by omega, Int.pow_add, Int.add_mul, Int.mul_assoc]
    · rw [if_neg hb, if_neg hb, if_neg hb]
      omega
def pairs (l : List Int) (d n : Nat) : List Int := (List.range n).map fun i => l.getD (2 * i) 0 * 2 ^ d + l.getD (2 * i + 1) 0
theorem pairs_length (l : List Int) (d n : Nat) : (pairs l d n).length = n := by simp [pairs]
theorem pairs_succ (l : List Int) (d n : Nat) : pairs l d (n + 1) = pairs l d n ++ [l.getD (2 * n) 0 * 2 ^ d + l.getD (2 * n + 1) 0] := by simp [pairs, List.range_succ]
theorem getD_out (l : List Int) (i : Nat) (h : l.length ≤ i) : l.getD i 0 = 0 := by simp [List.getD_eq_getElem?_getD, List.getElem?_eq_none h]
theorem pairs_get (l : List Int) (d n i : Nat) (hn : l.length = 2 * n) : (pairs l d n).getD i 0 = l.getD (2 * i) 0 * 2 ^ d + l.getD (2 * i + 1) 0 := by
  by_cases hi : i < n
  · simp [pairs, hi]
  · rw [getD_out _ _ (by rw [pairs_length]; omega), getD_out l _ (by omega), getD_out l _ (by omega)]
    simp
theorem pk_double {d : Nat} (hd : okN d) (h2 : okN (2 * d)) (l : List Int) (n : Nat) (hn : l.length = 2 * n) : pk (pairs l d n) (2 * d) = pk l d := by
  have e : n * (2 * d) = l.length * d := by rw [hn, Nat.mul_comm 2 n, Nat.mul_assoc]
  unfold pk
  rw [pairs_length, e]
  unfold pkL
  refine List.map_congr_left fun b _ => ?_
  rw [pkC_double hd h2 l _ (fun i => pairs_get l d n i hn) n b, hn]
theorem pairs_small {l : List Int} {d n : Nat} (hd : okN d) (hl : small l d) : small (pairs l d n) (2 * d) := by
  intro x hx
  unfold pairs at hx
  obtain ⟨i, _, rfl⟩ := List.mem_map.1 hx
  have h1 := small_get hl (2 * i)
  have h2 := small_get hl (2 * i + 1)
  unfold okN at hd
  rcases hd with rfl | rfl | rfl | rfl
  all_goals
    simp at h1 h2 ⊢
    omega

end Go.Proofs.Ytikgepiglmnehaa.B
