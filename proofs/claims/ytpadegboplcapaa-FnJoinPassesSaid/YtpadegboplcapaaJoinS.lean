/- The passes put together by the reference: the same image. No conditions. -/
import Derived.Test.YtpadegboplcapaaJoin
import Derived.Test.YtpadegboplcapaaSpecI
import Derived.Test.YtpadegboplcapaaQ1
import Derived.Test.YtpadegboplcapaaQ3
import Derived.Test.YtpadegboplcapaaQ6
import Derived.Test.YtpadegboplcapaaQ7
namespace Go.Proofs.Ytpadegboplcapaa.B
open Go.RowKit Go.Proofs.Ytpadegboplcapaa.Q Go.Proofs.YtpadegboplcapaaW.PrintWords Go.Proofs.YtpadegboplcapaaW.PrintLast Go.Proofs.YtpadegboplcapaaW.PrintMore
set_option linter.unusedVariables false

theorem joinTo_img {W H P : Nat} (hW : 1 ≤ W ∧ W ≤ 16) (hH : 1 ≤ H ∧ H ≤ 16) (hP : 1 ≤ P ∧ P ≤ 4) {l3 : List (List Int)} (h : okRest W H P l3 7 0 = true) {k : Nat} (hk : k ≤ 7) : NImg W H P (joinTo W H P l3 k) := ⟨hW, hH, hP, joinTo_length h k hk⟩
theorem mid_chunk (L : List Int) (p n : Nat) : (L.take (n * p + p)).drop (n * p) = chunk L p n := by
  unfold chunk
  rw [List.drop_take]
  congr 1
  omega
/-- One pass of the reference. -/
theorem specPass_join {W H P : Nat} (hW : 1 ≤ W ∧ W ≤ 16) (hH : 1 ≤ H ∧ H ≤ 16) (hP : 1 ≤ P ∧ P ≤ 4) {l3 : List (List Int)} (hl3 : l3.length = 7) (h : okRest W H P l3 7 0 = true) (K : Nat) (hK : K < 7) (r : Int × Int × Int × List Int)
    (hr : Ev (fun k => spec_joinPasses.l0 k (W : Int) (H : Int) (P : Int) l3 ((K + 1 : Nat) : Int) (W : Int) (H : Int) (P : Int) (joinTo W H P l3 (K + 1))) r) :
    Ev (fun k => spec_joinPasses.l0 k (W : Int) (H : Int) (P : Int) l3 (K : Int) (W : Int) (H : Int) (P : Int) (joinTo W H P l3 K)) r := by
  obtain ⟨h1, h2, h3, h4⟩ := pass_lt K hK
  have hl := (okList_N (okRest_at h K (by omega) (by omega))).1
  have hc := nC_le hK hW.2
  have hrr := nR_le hK hH.2
  have hpo : ∀ j i, j ≤ nC K W → i < nR K H → NImg W H P (putAll W P (gridPuts (jPut (pX K) (pU K) (pY K) (pV K) P (nC K W) (rd_L1 l3 (K : Int))) (nC K W) j i) (joinTo W H P l3 K)) := fun j i hj hi =>
    ⟨hW, hH, hP, putAll_length W H P _ _ (joinTo_length h K (by omega)) (fun a ha => by obtain ⟨j', i', hj', hi', g⟩ := mem_grid hj hi ha; exact jPut_ok hK hl hj' hi' g)⟩
  have hj1 : joinTo W H P l3 (K + 1) = putAll W P (gridPuts (jPut (pX K) (pU K) (pY K) (pV K) P (nC K W) (rd_L1 l3 (K : Int))) (nC K W) 0 (nR K H)) (joinTo W H P l3 K) := by rw [grid_end]; rfl
  rw [hj1] at hr
  have hgeX := cnt_ge (x := pX K) (d := pU K) (e := W) h1
  have hgeY := cnt_ge (x := pY K) (d := pV K) (e := H) h3
  refine Ev.step (f := fun k => spec_joinPasses.l1 k (W : Int) (H : Int) (P : Int) l3 (K : Int) (((0 * nC K W + 0) * P : Nat) : Int) (pX K : Int) (pU K : Int) (pV K : Int) ((pY K + 0 * pV K : Nat) : Int) (W : Int) (H : Int) (P : Int) (joinTo W H P l3 K)) (fun k => ?_) ?_
  · simp only [spec_joinPasses.l0]
    rw [if_pos (by omega), passStart_eq K hK]
    simp
  refine ev_grid (fun k s i => spec_joinPasses.l1 k (W : Int) (H : Int) (P : Int) l3 (K : Int) (((i * nC K W + 0) * P : Nat) : Int) (pX K : Int) (pU K : Int) (pV K : Int) ((pY K + i * pV K : Nat) : Int) (W : Int) (H : Int) (P : Int) s)
    (fun k s i j => spec_joinPasses.l2 k (W : Int) (H : Int) (P : Int) l3 (K : Int) (((i * nC K W + j) * P : Nat) : Int) (pX K : Int) (pU K : Int) (pV K : Int) ((pY K + i * pV K : Nat) : Int) ((pX K + j * pU K : Nat) : Int) (W : Int) (H : Int) (P : Int) s)
    (nC K W) (nR K H) (fun j i => putAll W P (gridPuts (jPut (pX K) (pU K) (pY K) (pV K) P (nC K W) (rd_L1 l3 (K : Int))) (nC K W) j i) (joinTo W H P l3 K)) (fun i hi r g => ?_) (fun j i hj hi r g => ?_) (fun i hi r g => ?_) r ?_
  · have hY := cnt_lt (x := pY K) (d := pV K) (e := H) h3 hi
    rw [show pX K + 0 * pU K = pX K by omega] at g
    refine Ev.step (fun k => ?_) g
    simp only [spec_joinPasses.l1]
    rw [if_pos (by omega)]
  · have hY := cnt_lt (x := pY K) (d := pV K) (e := H) h3 hi
    have hX := cnt_lt (x := pX K) (d := pU K) (e := W) h1 hj
    have hb : (i * nC K W + j) * P + P ≤ (rd_L1 l3 (K : Int)).length := by
      have e := at_lt hj hi
      have e2 := Nat.mul_le_mul_right P (Nat.succ_le_of_lt e)
      rw [Nat.succ_mul] at e2
      rw [hl, ← Nat.mul_assoc]
      exact e2
    have hs : (rd_L1 l3 (K : Int)).length ≤ 2304 := by
      rw [hl]
      have m1 := Nat.mul_le_mul hc hP.2
      have m2 := Nat.mul_le_mul hrr m1
      omega
    have hch := chunk_length (rd_L1 l3 (K : Int)) P (i * nC K W + j) (nR K H * nC K W) (by rw [hl, Nat.mul_assoc]) (at_lt hj hi)
    have hset := specSetPixel_ev (v := chunk (rd_L1 l3 (K : Int)) P (i * nC K W + j)) (hpo j i (by omega) hi) hX hY hch
    have hmid := mid_chunk (rd_L1 l3 (K : Int)) P (i * nC K W + j)
    have hgs : putAll W P (gridPuts (jPut (pX K) (pU K) (pY K) (pV K) P (nC K W) (rd_L1 l3 (K : Int))) (nC K W) (j + 1) i) (joinTo W H P l3 K) = setPix (putAll W P (gridPuts (jPut (pX K) (pU K) (pY K) (pV K) P (nC K W) (rd_L1 l3 (K : Int))) (nC K W) j i) (joinTo W H P l3 K)) W P (pX K + j * pU K) (pY K + i * pV K) (chunk (rd_L1 l3 (K : Int)) P (i * nC K W + j)) := by
      rw [grid_succ, putAll_append]
      rfl
    rw [hgs] at g
    have ea : (i * nC K W + (j + 1)) * P = (i * nC K W + j) * P + P := by rw [← Nat.add_assoc, Nat.succ_mul]
    have eb : pX K + (j + 1) * pU K = pX K + j * pU K + pU K := by rw [Nat.succ_mul, Nat.add_assoc]
    rw [ea, eb] at g
    generalize putAll W P (gridPuts (jPut (pX K) (pU K) (pY K) (pV K) P (nC K W) (rd_L1 l3 (K : Int))) (nC K W) j i) (joinTo W H P l3 K) = S at hset g ⊢
    generalize (i * nC K W + j) * P = at_ at hb hmid g ⊢
    have E1 := Aside0.mk (pup2 at_ P (by omega))
    generalize chunk (rd_L1 l3 (K : Int)) P (i * nC K W + j) = v at hset hmid g
    generalize pX K + j * pU K = X at hX hset g ⊢
    generalize pY K + i * pV K = Y at hY hset g ⊢
    have E2 := Aside0.mk (pup2 X (pU K) (by omega))
    refine Ev.step (f := fun k => (spec_setPixel.f k (W : Int) (H : Int) (P : Int) S (X : Int) (Y : Int) v).bind fun t => spec_joinPasses.l2 k (W : Int) (H : Int) (P : Int) l3 (K : Int) ((at_ + P : Nat) : Int) (pX K : Int) (pU K : Int) (pV K : Int) (Y : Int) ((X + pU K : Nat) : Int) (W : Int) (H : Int) (P : Int) t) (fun k => ?_) ?_
    · simp only [spec_joinPasses.l2, E1.out, E2.out, Int.toNat_natCast, hmid]
      rw [if_pos (by omega), if_pos (by omega), if_pos (by omega), if_pos (by omega), if_pos (by omega), if_pos (by omega)]
    · rw [ev_bind_iff hset]
      exact g
  · have hY := cnt_lt (x := pY K) (d := pV K) (e := H) h3 hi
    rw [← grid_next] at g
    have ea : (i + 1) * nC K W + 0 = i * nC K W + nC K W := by rw [Nat.succ_mul]; omega
    have eb : pY K + (i + 1) * pV K = pY K + i * pV K + pV K := by rw [Nat.succ_mul, Nat.add_assoc]
    rw [ea, eb] at g
    have hge : W ≤ pX K + nC K W * pU K := hgeX
    generalize pX K + nC K W * pU K = X at hge ⊢
    generalize pY K + i * pV K = Y at hY g ⊢
    have E2 := Aside0.mk (pup2 Y (pV K) (by omega))
    refine Ev.step (fun k => ?_) g
    simp only [spec_joinPasses.l2, E2.out]
    rw [if_neg (by omega)]
  · have hge : H ≤ pY K + nR K H * pV K := hgeY
    generalize pY K + nR K H * pV K = Y at hge ⊢
    refine Ev.step (fun k => ?_) hr
    simp only [spec_joinPasses.l1]
    rw [if_neg (by omega), pup1 K (by omega)]
theorem specJoinAll_ev {W H P : Nat} (hW : 1 ≤ W ∧ W ≤ 16) (hH : 1 ≤ H ∧ H ≤ 16) (hP : 1 ≤ P ∧ P ≤ 4) {l3 : List (List Int)} (hl3 : l3.length = 7) (h : okRest W H P l3 7 0 = true) :
    Ev (fun k => spec_joinPasses.f k (W : Int) (H : Int) (P : Int) l3) ((W : Int), (H : Int), (P : Int), joinTo W H P l3 7) := by
  unfold spec_joinPasses.f
  rw [specNew_eq W H P hW.2 hH.2 hP.2]
  simp only [Option.bind_some]
  refine ev_for (fun k (s : List Int) i => spec_joinPasses.l0 k (W : Int) (H : Int) (P : Int) l3 (i : Int) (W : Int) (H : Int) (P : Int) s) 7 (fun i => joinTo W H P l3 i) (fun i hi r g => specPass_join hW hH hP hl3 h i hi r g) _ ?_
  refine Ev.step (f := fun _ => some ((W : Int), (H : Int), (P : Int), joinTo W H P l3 7)) (fun k => ?_) (Ev.now _)
  simp only [spec_joinPasses.l0]
  rw [if_neg (by omega)]
theorem specCheck_ev {W H P : Nat} (hW : 1 ≤ W ∧ W ≤ 16) (hH : 1 ≤ H ∧ H ≤ 16) (hP : 1 ≤ P ∧ P ≤ 4) {l3 : List (List Int)} (hl3 : l3.length = 7) : ∀ d i, i + d = 7 → (okRest W H P l3 d i = true → okRest W H P l3 7 0 = true) →
    Ev (fun k => spec_JoinPasses.l0 k (W : Int) (H : Int) (P : Int) l3 (i : Int)) (if okRest W H P l3 d i = true then ((W : Int), (H : Int), (P : Int), joinTo W H P l3 7, true) else (0, 0, 0, [], false)) := by
  intro d
  induction d with
  | zero =>
    intro i hi hpre
    have hall := hpre rfl
    refine Ev.step (f := fun k => (spec_joinPasses.f k (W : Int) (H : Int) (P : Int) l3).bind fun b => some (b.1, b.2.1, b.2.2.1, b.2.2.2, true)) (fun k => ?_) ?_
    · simp only [spec_JoinPasses.l0]
      rw [if_neg (by omega)]
    · rw [ev_bind_iff (specJoinAll_ev hW hH hP hl3 hall)]
      exact Ev.now _
  | succ d ih =>
    intro i hi hpre
    have hk : i < 7 := by omega
    have hw := join_wrap (c := cnt (pX i) (pU i) W) (r := cnt (pY i) (pV i) H) (p := (P : Int)) (Nat.le_trans (nC_le hk hW.2) (by decide)) (Nat.le_trans (nR_le hk hH.2) (by decide)) (by omega)
    rw [Int.toNat_natCast] at hw
    have hw2 : wrap64 (wrap64 ((cnt (pX i) (pU i) W : Int) * (cnt (pY i) (pV i) H : Int)) * (P : Int)) = ((nR i H * (nC i W * P) : Nat) : Int) := hw
    have HW := Aside0.mk hw2
    clear hw hw2
    have hsz := specSize_eq i W H hk hW hH
    have hc := nC_le hk hW.2
    have hrr := nR_le hk hH.2
    have hsm : nR i H * (nC i W * P) ≤ 2304 := by
      have m1 := Nat.mul_le_mul hc hP.2
      have m2 := Nat.mul_le_mul hrr m1
      omega
    refine Ev.step (f := fun k => if ((rd_L1 l3 (i : Int)).length : Int) = ((nR i H * (nC i W * P) : Nat) : Int) then ((spec_allIn.f k (rd_L1 l3 (i : Int)) 0 255).bind fun t => (if t = true then (spec_JoinPasses.l0 k (W : Int) (H : Int) (P : Int) l3 ((i + 1 : Nat) : Int)) else (some (0, 0, 0, ([] : List Int), false)))) else (some (0, 0, 0, ([] : List Int), false))) (fun k => ?_) ?_
    · simp only [spec_JoinPasses.l0, hsz, Option.bind_some, HW.out]
      rw [if_pos (by omega), if_pos (by omega), if_pos (by omega), pup1 i (by omega)]
    · by_cases o : okList W H P l3 i = true
      · have o' := okList_N o
        have e : okRest W H P l3 (d + 1) i = okRest W H P l3 d (i + 1) := by
          show (okList W H P l3 i && okRest W H P l3 d (i + 1)) = _
          rw [o, Bool.true_and]
        rw [e] at hpre ⊢
        refine ev_pos (by rw [o'.1]) ?_
        rw [ev_bind_iff (allIn_ev (rd_L1 l3 (i : Int)) 0 255 (by rw [o'.1]; omega))]
        refine ev_pos ?_ (ih (i + 1) (by omega) hpre)
        simp only [List.all_eq_true, Bool.and_eq_true, decide_eq_true_eq]
        exact o'.2
      · have e : okRest W H P l3 (d + 1) i = false := by
          show (okList W H P l3 i && okRest W H P l3 d (i + 1)) = _
          rw [Bool.eq_false_iff.2 o, Bool.false_and]
        rw [e]
        by_cases c : ((rd_L1 l3 (i : Int)).length : Int) = ((nR i H * (nC i W * P) : Nat) : Int)
        · refine ev_pos c ?_
          have hcl := Int.ofNat.inj c
          rw [ev_bind_iff (allIn_ev (rd_L1 l3 (i : Int)) 0 255 (by omega))]
          refine ev_neg (fun g => o ?_) (Ev.now _)
          unfold okList
          rw [Bool.and_eq_true, decide_eq_true_eq]
          exact ⟨hcl, g⟩
        · exact ev_neg c (Ev.now _)
theorem specJoin_ev (w h p : Int) (l3 : List (List Int)) : Ev (fun k => spec_JoinPasses.f k w h p l3) (joinP w h p l3) := by
  have hno : joinP w h p l3 = (0, 0, 0, [], false) → Ev (fun k => spec_JoinPasses.j0 k w h p l3 true) (joinP w h p l3) := fun e => by
    rw [e]
    exact Ev.step (f := fun _ => some (0, 0, 0, ([] : List Int), false)) (fun k => by simp only [spec_JoinPasses.j0, if_true]) (Ev.now _)
  unfold spec_JoinPasses.f spec_validShape.f
  rw [inRange_eq, inRange_eq, inRange_eq]
  simp only [Option.bind_some]
  by_cases s : okShape w h p
  · obtain ⟨W, H, P, rfl, rfl, rfl, hW, hH, hP⟩ := okShape_N s
    have a1 : (decide ((1 : Int) ≤ (W : Int)) && decide ((W : Int) ≤ 16)) = true := by simp; omega
    have a2 : (decide ((1 : Int) ≤ (H : Int)) && decide ((H : Int) ≤ 16)) = true := by simp; omega
    have a3 : (decide ((1 : Int) ≤ (P : Int)) && decide ((P : Int) ≤ 4)) = true := by simp; omega
    rw [a1, a2, a3]
    simp only [if_true, Option.bind_some]
    by_cases hl : l3.length = 7
    · rw [joinP_N hW hH hP hl, show ((l3.length : Int) != 7) = false by rw [hl]; rfl]
      refine Ev.step (f := fun k => spec_JoinPasses.l0 k (W : Int) (H : Int) (P : Int) l3 ((0 : Nat) : Int)) (fun k => by simp only [spec_JoinPasses.j0, Bool.false_eq_true, if_false]; rfl) ?_
      exact specCheck_ev hW hH hP hl 7 0 rfl (fun g => g)
    · rw [show ((l3.length : Int) != 7) = true from bne_iff_ne.2 (by omega)]
      refine hno ?_
      unfold joinP
      rw [if_neg (fun g => hl g.2)]
  · have e : joinP w h p l3 = (0, 0, 0, [], false) := by unfold joinP; rw [if_neg (fun g => s g.1)]
    have hg := hno e
    unfold okShape at s
    cases a1 : (decide (1 ≤ w) && decide (w ≤ 16)) with
    | false => simpa using hg
    | true =>
      cases a2 : (decide (1 ≤ h) && decide (h ≤ 16)) with
      | false => simpa using hg
      | true =>
        cases a3 : (decide (1 ≤ p) && decide (p ≤ 4)) with
        | false => simpa using hg
        | true => simp at a1 a2 a3; exact absurd ⟨a1, a2, a3⟩ s

end Go.Proofs.Ytpadegboplcapaa.B
