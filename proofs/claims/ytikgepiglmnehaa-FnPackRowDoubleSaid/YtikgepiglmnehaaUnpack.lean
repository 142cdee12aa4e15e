/- What unpacking rows answers, in plain numbers. No conditions. -/
import Derived.Test.YtikgepiglmnehaaPack
import Derived.Test.YtikgepiglmnehaaQ6
import Derived.Test.YtikgepiglmnehaaQ7
namespace Go.Proofs.Ytikgepiglmnehaa.B
open Go.RowKit Go.Proofs.Ytikgepiglmnehaa.Q Go.Proofs.YtikgepiglmnehaaW.PrintWords Go.Proofs.YtikgepiglmnehaaW.PrintLast Go.Proofs.YtikgepiglmnehaaW.PrintMore
set_option linter.unusedVariables false

theorem areBytes_eq (l : List Int) : impl_areBytes.f l = some (l.all fun x => decide (0 ≤ x) && decide (x ≤ 255)) := by
  unfold impl_areBytes.f
  congr 1
  rw [Bool.eq_iff_iff]
  simp only [Bool.not_eq_true', List.any_eq_false, List.all_eq_true, notByte, Bool.or_eq_true, Bool.and_eq_true, decide_eq_true_eq, not_or]
  exact ⟨fun h x hx => by have := h x hx; omega, fun h x hx => by have := h x hx; omega⟩
/-- The n numbers of depth d in the bytes l. -/
def unpk (l : List Int) (d n : Nat) : List Int := (List.range n).map fun i => l.getD (i * d / 8) 0 / 2 ^ (8 - d - i * d % 8) % 2 ^ d
theorem unpk_length (l : List Int) (d n : Nat) : (unpk l d n).length = n := by simp [unpk]
theorem unpk_succ (l : List Int) (d n : Nat) : unpk l d (n + 1) = unpk l d n ++ [l.getD (n * d / 8) 0 / 2 ^ (8 - d - n * d % 8) % 2 ^ d] := by simp [unpk, List.range_succ]
theorem unpk_small (l : List Int) (d n : Nat) : small (unpk l d n) d := by
  intro x hx
  unfold unpk at hx
  obtain ⟨i, _, rfl⟩ := List.mem_map.1 hx
  have h2 : (0 : Int) < 2 ^ d := Int.pow_pos (by decide)
  exact ⟨Int.emod_nonneg _ (by omega), Int.emod_lt_of_pos _ h2⟩
def okBytes (l : List Int) : Bool := l.all fun x => decide (0 ≤ x) && decide (x ≤ 255)
theorem okBytes_get {l : List Int} (h : okBytes l = true) (i : Nat) : 0 ≤ l.getD i 0 ∧ l.getD i 0 < 256 := by
  unfold okBytes at h
  simp only [List.all_eq_true, Bool.and_eq_true, decide_eq_true_eq] at h
  by_cases hi : i < l.length
  · have e : l.getD i 0 = l[i] := by simp [hi]
    rw [e]
    have := h _ (List.getElem_mem hi)
    omega
  · have e : l.getD i 0 = 0 := by simp [List.getD_eq_getElem?_getD, List.getElem?_eq_none (show l.length ≤ i by omega)]
    omega
def okUn (l : List Int) (d c : Int) : Bool := okD d && (decide (0 ≤ c) && decide (c ≤ 64)) && (decide (l.length = (c.toNat * d.toNat + 7) / 8) && okBytes l)
def unpackP (l : List Int) (d c : Int) : List Int × Bool := if okUn l d c = true ∧ pk (unpk l d.toNat c.toNat) d.toNat = l then (unpk l d.toNat c.toNat, true) else ([], false)
theorem shr_ok (x : Int) (s : Nat) (hs : s ≤ 8) : shr .i64 x (s : Int) = x / 2 ^ s := by
  unfold shr
  rw [show ((s : Int).toNat) = s from by omega, Nat.min_eq_left (by simp [IntKind.bits]; omega)]
theorem div_lt (x : Int) (s : Nat) (h0 : 0 ≤ x) (h1 : x < 256) : 0 ≤ x / 2 ^ s ∧ x / 2 ^ s < 256 := by
  have hp : (0 : Int) < 2 ^ s := Int.pow_pos (by decide)
  have := Int.ediv_nonneg h0 (Int.le_of_lt hp)
  have := Int.ediv_le_self (2 ^ s) h0
  omega
theorem count_eq {d : Int} (h : okD d = true) (c : Int) (h0 : 0 ≤ c) (h1 : c ≤ 64) : wrap64 (Int.tdiv (wrap64 (wrap64 (c * d) + 7)) 8) = (((c.toNat * d.toNat + 7) / 8 : Nat) : Int) := by
  obtain ⟨n1, n2, _⟩ := okD_nat h
  obtain ⟨m, rfl⟩ := Int.eq_ofNat_of_zero_le h0
  have hm : m * d.toNat ≤ 64 * 8 := Nat.mul_le_mul (by omega) (okN_pos n1).2
  have := (place n1 m (by omega)).1
  rw [n2] at this
  rw [this, Int.toNat_natCast, w64 (x := ((m * d.toNat : Nat) : Int) + 7) (by omega) (by omega), tdivp (by omega), w64 (by omega) (by omega)]
  omega
theorem specUnpack_ev (l : List Int) (d c : Int) (hn : l.length ≤ 2000000) : Ev (fun k => spec_UnpackRow.f k l d c) (unpackP l d c) := by
  have hj : okUn l d c = false → Ev (fun k => spec_UnpackRow.j0 k l d c true) (unpackP l d c) := fun h => by
    refine Ev.step (f := fun _ => some ([], false)) (fun k => ?_) (ev_now ?_)
    · simp only [spec_UnpackRow.j0, if_true]
    · unfold unpackP
      rw [if_neg (by rw [h]; simp)]
  unfold spec_UnpackRow.f
  rw [validDepth_eq]
  simp only [Option.bind_some]
  by_cases h : okD d = true
  · refine ev_pos h ?_
    rw [inRange_eq]
    simp only [Option.bind_some]
    by_cases hc : (decide (0 ≤ c) && decide (c ≤ 64)) = true
    · refine ev_pos hc ?_
      have hc' := hc
      simp only [Bool.and_eq_true, decide_eq_true_eq] at hc'
      rw [count_eq h c hc'.1 hc'.2]
      by_cases hl : l.length = (c.toNat * d.toNat + 7) / 8
      · refine ev_pos (by omega) ?_
        rw [ev_bind_iff (allIn_ev l 0 255 hn)]
        change Ev (fun k => spec_UnpackRow.j0 k l d c (!okBytes l)) _
        by_cases hb : okBytes l = true
        · rw [hb]
          have hok : okUn l d c = true := by
            unfold okUn
            rw [h, hc, hb, decide_eq_true hl]
            rfl
          obtain ⟨f0, f1, f2, f3, f4, f5⟩ := d_facts h
          obtain ⟨n1, n2, n3⟩ := okD_nat h
          have hp := okN_pos n1
          refine Ev.step (f := fun k => spec_UnpackRow.l0 k l d c [] 0) (fun k => ?_) ?_
          · simp only [spec_UnpackRow.j0]
            rw [if_neg (by decide)]
          obtain ⟨m, rfl⟩ := Int.eq_ofNat_of_zero_le hc'.1
          simp only [Int.toNat_natCast] at hl
          refine ev_for (fun k (s : List Int) i => spec_UnpackRow.l0 k l d (m : Int) s (i : Int)) m (fun i => unpk l d.toNat i) (fun i hi r hr => ?_) _ ?_
          · refine Ev.step (fun k => ?_) hr
            obtain ⟨q1, q2, q3⟩ := place n1 i (by omega)
            rw [n2] at q1 q3
            have hlt := byte_lt n1 hi
            obtain ⟨g1, g2⟩ := okS_of i n1
            have hb2 := okBytes_get hb (i * d.toNat / 8)
            have hd2 := div_lt _ (8 - d.toNat - i * d.toNat % 8) hb2.1 hb2.2
            simp only [spec_UnpackRow.l0, q1, q2, q3]
            rw [if_pos (by omega), if_pos (by omega), if_pos (by omega), if_pos (by omega), if_pos f0, f1, if_neg (by omega), if_pos (by rw [unpk_length]; omega), w64 (x := (i : Int) + 1) (by omega) (by omega), rd_nat, shr_ok _ _ (by omega), tmodp hd2.1, ← n3, ← unpk_succ]
            rfl
          · refine Ev.step (f := fun k => (spec_packRow.f k (unpk l d.toNat m) d).bind fun t => (spec_equalInts.f k t l).bind fun u => if u = true then some (unpk l d.toNat m, true) else some ([], false)) (fun k => ?_) ?_
            · simp only [spec_UnpackRow.l0]
              rw [if_neg (by omega)]
            · have hpk := specPack_ev (unpk l d.toNat m) d.toNat n1 (unpk_small _ _ _) (by rw [unpk_length]; omega)
              rw [n2] at hpk
              rw [ev_bind_iff hpk, ev_bind_iff (spec_equalInts_ev _ _ (by unfold pk; rw [pkL_length, unpk_length]; have hm : m * d.toNat ≤ 64 * 8 := Nat.mul_le_mul (by omega) hp.2; omega))]
              unfold unpackP
              simp only [Int.toNat_natCast, hok, true_and]
              by_cases e : pk (unpk l d.toNat m) d.toNat = l
              · rw [if_pos e]
                exact ev_pos (decide_eq_true e) (Ev.now _)
              · rw [if_neg e]
                exact ev_neg (by simpa using e) (Ev.now _)
        · rw [Bool.eq_false_iff.2 hb]
          exact hj (by unfold okUn; rw [Bool.eq_false_iff.2 hb]; simp)
      · exact ev_neg (by omega) (hj (by unfold okUn; rw [decide_eq_false hl]; simp))
    · exact ev_neg hc (hj (by unfold okUn; rw [Bool.eq_false_iff.2 hc]; simp))
  · exact ev_neg h (hj (by unfold okUn; rw [Bool.eq_false_iff.2 h]; simp))
theorem implUnpack_ev (l : List Int) (d c : Int) (hn : l.length ≤ 2000000) : Ev (fun k => impl_UnpackRow.f k l d c) (unpackP l d c) := by
  have hj : okUn l d c = false → Ev (fun k => impl_UnpackRow.j0 k l d c true) (unpackP l d c) := fun h => by
    refine Ev.step (f := fun _ => some ([], false)) (fun k => ?_) (ev_now ?_)
    · simp only [impl_UnpackRow.j0, if_true]
    · unfold unpackP
      rw [if_neg (by rw [h]; simp)]
  unfold impl_UnpackRow.f
  rw [isDepth_eq]
  simp only [Option.bind_some]
  by_cases h : okD d = true
  · refine ev_pos h ?_
    by_cases c0 : c < 0
    · exact ev_pos c0 (hj (by unfold okUn; rw [decide_eq_false (show ¬ 0 ≤ c by omega)]; simp))
    refine ev_neg c0 ?_
    by_cases c1 : c > 64
    · exact ev_pos c1 (hj (by unfold okUn; rw [decide_eq_false (show ¬ c ≤ 64 by omega)]; simp))
    refine ev_neg c1 ?_
    have hc : (decide (0 ≤ c) && decide (c ≤ 64)) = true := by
      simp only [Bool.and_eq_true, decide_eq_true_eq]
      omega
    rw [areBytes_eq]
    simp only [Option.bind_some]
    change Ev (fun k => if okBytes l = true then _ else _) _
    by_cases hb : okBytes l = true
    · refine ev_pos hb ?_
      rw [count_eq h c (by omega) (by omega)]
      by_cases hl : l.length = (c.toNat * d.toNat + 7) / 8
      · rw [show ((l.length : Int) != (((c.toNat * d.toNat + 7) / 8 : Nat) : Int)) = false by rw [bne_eq_false_iff_eq]; omega]
        have hok : okUn l d c = true := by
          unfold okUn
          rw [h, hc, hb, decide_eq_true hl]
          rfl
        obtain ⟨f0, f1, f2, f3, f4, f5⟩ := d_facts h
        obtain ⟨n1, n2, n3⟩ := okD_nat h
        have hp := okN_pos n1
        refine Ev.step (f := fun k => impl_UnpackRow.l0 k l d [] c 0) (fun k => ?_) ?_
        · simp only [impl_UnpackRow.j0]
          rw [if_neg (by decide)]
        obtain ⟨m, rfl⟩ := Int.eq_ofNat_of_zero_le (show 0 ≤ c by omega)
        simp only [Int.toNat_natCast] at hl
        refine ev_for (fun k (s : List Int) i => impl_UnpackRow.l0 k l d s (m : Int) (i : Int)) m (fun i => unpk l d.toNat i) (fun i hi r hr => ?_) _ ?_
        · refine Ev.step (fun k => ?_) hr
          obtain ⟨q1, q2, q3⟩ := place n1 i (by omega)
          rw [n2] at q1 q3
          have hlt := byte_lt n1 hi
          obtain ⟨g1, g2⟩ := okS_of i n1
          have hb2 := okBytes_get hb (i * d.toNat / 8)
          have hd2 := div_lt _ (8 - d.toNat - i * d.toNat % 8) hb2.1 hb2.2
          have ha := and_ok n1 _ hd2.1 hd2.2
          rw [n3, Int.add_sub_cancel] at ha
          simp only [impl_UnpackRow.l0, q1, q2, q3]
          rw [if_pos (by omega), if_pos (by omega), if_pos (by omega), if_pos (by omega), if_pos f0, f2, if_pos (by rw [unpk_length]; omega), w64 (x := (i : Int) + 1) (by omega) (by omega), rd_nat, shr_ok _ _ (by omega), ha, ← n3, ← unpk_succ]
          rfl
        · refine Ev.step (f := fun k => (impl_packed.f k (unpk l d.toNat m) d).bind fun t => (slices_Equal_int_int.f k t l).bind fun u => if u = true then some (unpk l d.toNat m, true) else some ([], false)) (fun k => ?_) ?_
          · simp only [impl_UnpackRow.l0]
            rw [if_neg (by omega)]
          · have hpk := implPack_ev (unpk l d.toNat m) d.toNat n1 (unpk_small _ _ _) (by rw [unpk_length]; omega)
            rw [n2] at hpk
            rw [ev_bind_iff hpk, ev_bind_iff (slicesEqual_ev _ _ (by unfold pk; rw [pkL_length, unpk_length]; have hm : m * d.toNat ≤ 64 * 8 := Nat.mul_le_mul (by omega) hp.2; omega))]
            unfold unpackP
            simp only [Int.toNat_natCast, hok, true_and]
            by_cases e : pk (unpk l d.toNat m) d.toNat = l
            · rw [if_pos e]
              exact ev_pos (decide_eq_true e) (Ev.now _)
            · rw [if_neg e]
              exact ev_neg (by simpa using e) (Ev.now _)
      · rw [show ((l.length : Int) != (((c.toNat * d.toNat + 7) / 8 : Nat) : Int)) = true by rw [bne_iff_ne]; omega]
        exact hj (by unfold okUn; rw [decide_eq_false hl]; simp)
    · exact ev_neg hb (hj (by unfold okUn; rw [Bool.eq_false_iff.2 hb]; simp))
  · exact ev_neg h (hj (by unfold okUn; rw [Bool.eq_false_iff.2 h]; simp))

end Go.Proofs.Ytikgepiglmnehaa.B
