/- The passes put together: what the program's JoinPasses makes of seven lists, as pixels that are put one after the other. No conditions. -/
import Derived.Test.YtpadegboplcapaaPass
import Derived.Test.YtpadegboplcapaaImgF
import Derived.Test.YtpadegboplcapaaQ5
import Derived.Test.YtpadegboplcapaaQ6
namespace Go.Proofs.Ytpadegboplcapaa.B
open Go.RowKit Go.Proofs.Ytpadegboplcapaa.Q Go.Proofs.YtpadegboplcapaaW.PrintWords Go.Proofs.YtpadegboplcapaaW.PrintLast Go.Proofs.YtpadegboplcapaaW.PrintMore
set_option linter.unusedVariables false

/-- Pixel j of row i of a pass gets the next numbers of the pass's list. -/
def jPut (x u y v p C : Nat) (L : List Int) (j i : Nat) : List Put := [⟨x + j * u, y + i * v, chunk L p (i * C + j)⟩]
def nC (k W : Nat) : Nat := cnt (pX k) (pU k) W
def nR (k H : Nat) : Nat := cnt (pY k) (pV k) H
def passPuts (W H p k : Nat) (L : List Int) : List Put := allPuts (jPut (pX k) (pU k) (pY k) (pV k) p (nC k W) L) (nC k W) (nR k H)
theorem chunk_drop (L : List Int) (p a j : Nat) : chunk (L.drop (a * p)) p j = chunk L p (a + j) := by
  unfold chunk
  rw [List.drop_drop, Nat.add_mul]
theorem rowJ_puts (W p x u y : Nat) (D E : List Int) : ∀ n, rowJ W p (everyN x u n) (D, E) (y : Int) = (putAll W p ((List.range n).flatMap fun j => [(⟨x + j * u, y, chunk E p j⟩ : Put)]) D, E.drop (n * p)) := by
  intro n
  induction n with
  | zero => simp [rowJ, everyN, putAll]
  | succ n ih =>
    rw [everyN_succ]
    unfold rowJ at ih ⊢
    rw [List.foldl_append, ih, List.range_succ, List.flatMap_append, putAll_append]
    simp only [List.foldl_cons, List.foldl_nil, stepJ, List.flatMap_cons, List.flatMap_nil, List.append_nil, List.drop_drop, Int.toNat_natCast, Nat.succ_mul]
    rfl
theorem passJ_puts (W p x u y v n : Nat) (D L : List Int) : ∀ m, passJ W p (everyN y v m) (everyN x u n) (D, L) = (putAll W p (allPuts (jPut x u y v p n L) n m) D, L.drop (m * n * p)) := by
  intro m
  induction m with
  | zero => simp [passJ, everyN, putAll, allPuts]
  | succ m ih =>
    rw [everyN_succ]
    unfold passJ at ih ⊢
    rw [List.foldl_append, ih]
    simp only [List.foldl_cons, List.foldl_nil]
    rw [rowJ_puts, allPuts_succ, putAll_append, List.drop_drop, Nat.succ_mul, Nat.add_mul]
    unfold rowPuts jPut
    congr 2
    congr 1
    funext j
    rw [chunk_drop]
/-- A list that fits its pass. -/
def okList (W H p : Nat) (l3 : List (List Int)) (k : Nat) : Bool := decide ((rd_L1 l3 (k : Int)).length = nR k H * (nC k W * p)) && (rd_L1 l3 (k : Int)).all fun x => decide (0 ≤ x) && decide (x ≤ 255)
def joinR (W H p : Nat) (l3 : List (List Int)) : Nat → Nat → List Int → Int × Int × Int × List Int × Bool
  | 0, _, D => ((W : Int), (H : Int), (p : Int), D, true)
  | d + 1, i, D => if okList W H p l3 i = true then joinR W H p l3 d (i + 1) (putAll W p (passPuts W H p i (rd_L1 l3 (i : Int))) D) else (0, 0, 0, [], false)
def okShape (w h p : Int) : Prop := (1 ≤ w ∧ w ≤ 16) ∧ (1 ≤ h ∧ h ≤ 16) ∧ (1 ≤ p ∧ p ≤ 4)
instance (w h p : Int) : Decidable (okShape w h p) := by unfold okShape; infer_instance
/-- What JoinPasses answers. -/
def joinP (w h p : Int) (l3 : List (List Int)) : Int × Int × Int × List Int × Bool :=
  if okShape w h p ∧ l3.length = 7 then joinR w.toNat h.toNat p.toNat l3 7 0 (List.replicate (h.toNat * w.toNat * p.toNat) 0) else (0, 0, 0, [], false)
theorem okShape_N {w h p : Int} (o : okShape w h p) : ∃ W H P : Nat, w = W ∧ h = H ∧ p = P ∧ (1 ≤ W ∧ W ≤ 16) ∧ (1 ≤ H ∧ H ≤ 16) ∧ (1 ≤ P ∧ P ≤ 4) := by
  unfold okShape at o
  exact ⟨w.toNat, h.toNat, p.toNat, by omega, by omega, by omega, by omega, by omega, by omega⟩
theorem nC_le {k W : Nat} (hk : k < 7) (hW : W ≤ 16) : nC k W ≤ 24 := by
  obtain ⟨h1, h2, h3, h4⟩ := pass_lt k hk
  have a := cnt_le (e := W) h1
  unfold nC
  omega
theorem nR_le {k H : Nat} (hk : k < 7) (hH : H ≤ 16) : nR k H ≤ 24 := by
  obtain ⟨h1, h2, h3, h4⟩ := pass_lt k hk
  have a := cnt_le (e := H) h3
  unfold nR
  omega
theorem every_mem {x d n : Nat} {z : Int} (h : z ∈ everyN x d n) : ∃ i, i < n ∧ z = ((x + i * d : Nat) : Int) := by
  unfold everyN at h
  obtain ⟨i, hi, rfl⟩ := List.mem_map.1 h
  exact ⟨i, List.mem_range.1 hi, rfl⟩
theorem joinOk_N {k W H : Nat} (hk : k < 7) (hW : W ≤ 16) (hH : H ≤ 16) : joinOk (W : Int) (H : Int) (rowsN k H) (colsN k W) = true := by
  obtain ⟨h1, h2, h3, h4⟩ := pass_lt k hk
  have a := nC_le hk hW
  have b := nR_le hk hH
  unfold joinOk
  simp only [Bool.and_eq_true, List.all_eq_true, decide_eq_true_eq]
  refine ⟨fun x hx => ?_, fun y hy => ?_, ?_, ?_⟩
  · obtain ⟨i, hi, rfl⟩ := every_mem hx
    have := cnt_lt h1 hi
    omega
  · obtain ⟨i, hi, rfl⟩ := every_mem hy
    have := cnt_lt h3 hi
    omega
  · unfold rowsN
    rw [everyN_length]
    exact Nat.le_trans b (by decide)
  · unfold colsN
    rw [everyN_length]
    exact Nat.le_trans a (by decide)
theorem implFrom_ev {W H P : Nat} (hW : 1 ≤ W ∧ W ≤ 16) (hH : 1 ≤ H ∧ H ≤ 16) (hP : 1 ≤ P ∧ P ≤ 4) (l3 : List (List Int)) : ∀ d i D, i + d = 7 → Ev (fun k => joinFrom k (W : Int) (H : Int) (P : Int) l3 d i D) (joinR W H P l3 d i D) := by
  intro d
  induction d with
  | zero => intro i D _; exact Ev.now _
  | succ d ih =>
    intro i D hi
    have hk : i < 7 := by omega
    have hc : (colsN i W).length = nC i W := by unfold colsN; rw [everyN_length]; rfl
    have hr : (rowsN i H).length = nR i H := by unfold rowsN; rw [everyN_length]; rfl
    have hw := join_wrap (c := nC i W) (r := nR i H) (p := (P : Int)) (Nat.le_trans (nC_le hk hW.2) (by decide)) (Nat.le_trans (nR_le hk hH.2) (by decide)) (by omega)
    have hps := passJ_puts W P (pX i) (pU i) (pY i) (pV i) (nC i W) D (rd_L1 l3 (i : Int)) (nR i H)
    simp only [joinFrom, joinR]
    rw [passOf_eq i hk]
    simp only [Option.bind_some]
    rw [ev_bind_iff (cols_ev i W hk hW.2), ev_bind_iff (rows_ev i H hk hH.2)]
    refine ev_pos (joinOk_N hk hW.2 hH.2) ?_
    rw [hc, hr, hw, Int.toNat_natCast, Int.toNat_natCast]
    by_cases o : okList W H P l3 i = true
    · rw [if_pos o]
      have o' := o
      unfold okList at o'
      rw [Bool.and_eq_true, decide_eq_true_eq] at o'
      refine ev_pos ⟨o'.2, by rw [o'.1]⟩ ?_
      have e : passJ W P (rowsN i H) (colsN i W) (D, rd_L1 l3 (i : Int)) = _ := hps
      rw [e]
      exact ih (i + 1) _ (by omega)
    · rw [if_neg o]
      refine ev_neg (fun g => o ?_) (Ev.now _)
      unfold okList
      rw [Bool.and_eq_true, decide_eq_true_eq]
      exact ⟨Int.ofNat.inj g.2, g.1⟩
theorem implJoin_ev (w h p : Int) (l3 : List (List Int)) : Ev (fun k => impl_JoinPasses.f k w h p l3) (joinP w h p l3) := by
  unfold impl_JoinPasses.f joinP
  by_cases g : okShape w h p ∧ l3.length = 7
  · rw [if_pos g]
    refine ev_pos ⟨g.1.1, g.1.2.1, g.1.2.2, g.2⟩ ?_
    obtain ⟨W, H, P, rfl, rfl, rfl, hW, hH, hP⟩ := okShape_N g.1
    simp only [Int.toNat_natCast]
    exact implFrom_ev hW hH hP l3 7 0 _ rfl
  · rw [if_neg g]
    exact ev_neg (fun c => g ⟨⟨c.1, c.2.1, c.2.2.1⟩, c.2.2.2⟩) (Ev.now _)
/-! ### The image's numbers -/
def zeroN (W H p : Nat) : List Int := List.replicate (H * W * p) 0
def joinTo (W H p : Nat) (l3 : List (List Int)) : Nat → List Int
  | 0 => zeroN W H p
  | k + 1 => putAll W p (passPuts W H p k (rd_L1 l3 (k : Int))) (joinTo W H p l3 k)
def okRest (W H p : Nat) (l3 : List (List Int)) : Nat → Nat → Bool
  | 0, _ => true
  | d + 1, i => okList W H p l3 i && okRest W H p l3 d (i + 1)
theorem joinR_to (W H p : Nat) (l3 : List (List Int)) : ∀ d i, joinR W H p l3 d i (joinTo W H p l3 i) = if okRest W H p l3 d i = true then ((W : Int), (H : Int), (p : Int), joinTo W H p l3 (i + d), true) else (0, 0, 0, [], false) := by
  intro d
  induction d with
  | zero => intro i; rfl
  | succ d ih =>
    intro i
    have h := ih (i + 1)
    by_cases o : okList W H p l3 i = true
    · have e : okRest W H p l3 (d + 1) i = okRest W H p l3 d (i + 1) := by
        show (okList W H p l3 i && okRest W H p l3 d (i + 1)) = _
        rw [o, Bool.true_and]
      rw [e, show i + (d + 1) = i + 1 + d by omega, ← h]
      simp only [joinR]
      rw [if_pos o]
      rfl
    · have e : okRest W H p l3 (d + 1) i = false := by
        show (okList W H p l3 i && okRest W H p l3 d (i + 1)) = _
        rw [Bool.eq_false_iff.2 o, Bool.false_and]
      rw [e]
      simp only [joinR]
      rw [if_neg o]
      rfl
theorem okRest_at {W H p : Nat} {l3 : List (List Int)} : ∀ {d i : Nat}, okRest W H p l3 d i = true → ∀ j, i ≤ j → j < i + d → okList W H p l3 j = true := by
  intro d
  induction d with
  | zero => intro i _ j h1 h2; omega
  | succ d ih =>
    intro i h j h1 h2
    unfold okRest at h
    rw [Bool.and_eq_true] at h
    by_cases e : j = i
    · rw [e]; exact h.1
    · exact ih h.2 j (by omega) (by omega)
theorem okList_N {W H p k : Nat} {l3 : List (List Int)} (o : okList W H p l3 k = true) : (rd_L1 l3 (k : Int)).length = nR k H * (nC k W * p) ∧ ∀ x ∈ rd_L1 l3 (k : Int), 0 ≤ x ∧ x ≤ 255 := by
  unfold okList at o
  simp only [Bool.and_eq_true, List.all_eq_true, decide_eq_true_eq] at o
  exact o
theorem jPut_ok {W H p k : Nat} {L : List Int} (hk : k < 7) (hl : L.length = nR k H * (nC k W * p)) {j i : Nat} (hj : j < nC k W) (hi : i < nR k H) {a : Put} (ha : a ∈ jPut (pX k) (pU k) (pY k) (pV k) p (nC k W) L j i) : PutOk W H p a := by
  obtain ⟨h1, h2, h3, h4⟩ := pass_lt k hk
  obtain rfl : a = ⟨pX k + j * pU k, pY k + i * pV k, chunk L p (i * nC k W + j)⟩ := by simpa [jPut] using ha
  exact ⟨cnt_lt h1 hj, cnt_lt h3 hi, chunk_length L p _ (nR k H * nC k W) (by rw [hl, Nat.mul_assoc]) (at_lt hj hi)⟩
theorem passPuts_ok {W H p k : Nat} {L : List Int} (hk : k < 7) (hl : L.length = nR k H * (nC k W * p)) : ∀ a ∈ passPuts W H p k L, PutOk W H p a := by
  intro a ha
  obtain ⟨j, i, hj, hi, g⟩ := mem_all.1 ha
  exact jPut_ok hk hl hj hi g
theorem joinTo_length {W H p : Nat} {l3 : List (List Int)} (h : okRest W H p l3 7 0 = true) : ∀ k, k ≤ 7 → (joinTo W H p l3 k).length = H * W * p := by
  intro k
  induction k with
  | zero => intro _; exact List.length_replicate
  | succ k ih =>
    intro hk
    exact putAll_length W H p _ _ (ih (by omega)) (passPuts_ok (by omega) (okList_N (okRest_at h k (by omega) (by omega))).1)
theorem joinP_N {W H P : Nat} (hW : 1 ≤ W ∧ W ≤ 16) (hH : 1 ≤ H ∧ H ≤ 16) (hP : 1 ≤ P ∧ P ≤ 4) {l3 : List (List Int)} (hl : l3.length = 7) : joinP (W : Int) (H : Int) (P : Int) l3 = if okRest W H P l3 7 0 = true then ((W : Int), (H : Int), (P : Int), joinTo W H P l3 7, true) else (0, 0, 0, [], false) := by
  unfold joinP
  rw [if_pos ⟨⟨by omega, by omega, by omega⟩, hl⟩]
  simp only [Int.toNat_natCast]
  exact joinR_to W H P l3 7 0
theorem joinP_length (w h p : Int) (l3 : List (List Int)) : (joinP w h p l3).2.2.2.1.length ≤ 1024 := by
  unfold joinP
  by_cases g : okShape w h p ∧ l3.length = 7
  · rw [if_pos g]
    obtain ⟨W, H, P, rfl, rfl, rfl, hW, hH, hP⟩ := okShape_N g.1
    simp only [Int.toNat_natCast]
    have e : joinR W H P l3 7 0 (List.replicate (H * W * P) 0) = _ := joinR_to W H P l3 7 0
    rw [e]
    by_cases o : okRest W H P l3 7 0 = true
    · rw [if_pos o]
      show (joinTo W H P l3 (0 + 7)).length ≤ 1024
      rw [joinTo_length o (0 + 7) (by omega)]
      have m1 : H * W ≤ 16 * 16 := Nat.mul_le_mul hH.2 hW.2
      exact Nat.mul_le_mul m1 hP.2
    · rw [if_neg o]
      simp
  · rw [if_neg g]
    simp
/-- Every pixel lies in a pass. -/
theorem pass_at : ∀ X, X < 8 → ∀ Y, Y < 8 → ∃ k, k < 7 ∧ X % pU k = pX k ∧ Y % pV k = pY k := by decide
def hit (k X Y : Nat) : Bool := decide (X % pU k = pX k) && decide (Y % pV k = pY k)
theorem pass_one_b : ((List.range 8).all fun X => (List.range 8).all fun Y => (List.range 7).all fun k => (List.range 7).all fun l => !(hit k X Y && hit l X Y) || decide (k = l)) = true := by decide
theorem pass_one (X : Nat) (hX : X < 8) (Y : Nat) (hY : Y < 8) (k : Nat) (hk : k < 7) (l : Nat) (hl : l < 7) (h1 : X % pU k = pX k) (h2 : Y % pV k = pY k) (h3 : X % pU l = pX l) (h4 : Y % pV l = pY l) : k = l := by
  have h := List.all_eq_true.1 (List.all_eq_true.1 (List.all_eq_true.1 (List.all_eq_true.1 pass_one_b X (List.mem_range.2 hX)) Y (List.mem_range.2 hY)) k (List.mem_range.2 hk)) l (List.mem_range.2 hl)
  have e1 : hit k X Y = true := by unfold hit; rw [decide_eq_true h1, decide_eq_true h2]; rfl
  have e2 : hit l X Y = true := by unfold hit; rw [decide_eq_true h3, decide_eq_true h4]; rfl
  rw [e1, e2] at h
  simpa using h
theorem pass_div : ∀ k, k < 7 → pU k ∣ 8 ∧ pV k ∣ 8 := by decide
theorem pass_mod {k : Nat} (hk : k < 7) (X : Nat) : X % 8 % pU k = X % pU k ∧ X % 8 % pV k = X % pV k := ⟨Nat.mod_mod_of_dvd X (pass_div k hk).1, Nat.mod_mod_of_dvd X (pass_div k hk).2⟩
theorem cnt_of {x d e X : Nat} (hd : x < d) (h : X % d = x) (hX : X < e) : X / d < cnt x d e ∧ X = x + X / d * d := by
  have h1 := Nat.div_add_mod X d
  rw [Nat.mul_comm] at h1
  refine ⟨?_, by omega⟩
  apply Nat.lt_of_not_le
  intro c
  have h2 := cnt_ge (x := x) (d := d) (e := e) hd
  have h3 := Nat.mul_le_mul_right d c
  omega
theorem pass_of (W H X Y : Nat) (hX : X < W) (hY : Y < H) : ∃ k, k < 7 ∧ ∃ j i, j < nC k W ∧ i < nR k H ∧ X = pX k + j * pU k ∧ Y = pY k + i * pV k := by
  obtain ⟨k, hk, h1, h2⟩ := pass_at (X % 8) (Nat.mod_lt _ (by decide)) (Y % 8) (Nat.mod_lt _ (by decide))
  rw [(pass_mod hk X).1] at h1
  rw [(pass_mod hk Y).2] at h2
  obtain ⟨g1, _, g3, _⟩ := pass_lt k hk
  obtain ⟨c1, c2⟩ := cnt_of g1 h1 hX
  obtain ⟨c3, c4⟩ := cnt_of g3 h2 hY
  exact ⟨k, hk, X / pU k, Y / pV k, c1, c3, c2, c4⟩
theorem mod_of {x d j : Nat} (hd : x < d) : (x + j * d) % d = x := by
  rw [Nat.add_mul_mod_self_right]
  exact Nat.mod_eq_of_lt hd
theorem pass_only {k l j i j' i' : Nat} (hk : k < 7) (hl : l < 7) (hx : pX k + j * pU k = pX l + j' * pU l) (hy : pY k + i * pV k = pY l + i' * pV l) : k = l := by
  obtain ⟨a1, _, a3, _⟩ := pass_lt k hk
  obtain ⟨b1, _, b3, _⟩ := pass_lt l hl
  have e1 := (pass_mod hk (pX k + j * pU k)).1
  have e2 := (pass_mod hk (pY k + i * pV k)).2
  have e3 := (pass_mod hl (pX k + j * pU k)).1
  have e4 := (pass_mod hl (pY k + i * pV k)).2
  rw [mod_of a1] at e1
  rw [mod_of a3] at e2
  rw [hx, mod_of b1, ← hx] at e3
  rw [hy, mod_of b3, ← hy] at e4
  exact pass_one _ (Nat.mod_lt _ (by decide)) _ (Nat.mod_lt _ (by decide)) k hk l hl e1 e2 e3 e4
theorem pass_same {k j j' : Nat} (hk : k < 7) (h : pX k + j * pU k = pX k + j' * pU k) : j = j' := by
  obtain ⟨a1, _, a3, _⟩ := pass_lt k hk
  exact Nat.eq_of_mul_eq_mul_right (Nat.lt_of_le_of_lt (Nat.zero_le _) a1) (Nat.add_left_cancel h)
theorem pass_sameR {k j j' : Nat} (hk : k < 7) (h : pY k + j * pV k = pY k + j' * pV k) : j = j' := by
  obtain ⟨a1, _, a3, _⟩ := pass_lt k hk
  exact Nat.eq_of_mul_eq_mul_right (Nat.lt_of_le_of_lt (Nat.zero_le _) a3) (Nat.add_left_cancel h)
/-- Each pixel of the image has the numbers of its place in its pass's list. -/
theorem joinTo_pix {W H p : Nat} {l3 : List (List Int)} (h : okRest W H p l3 7 0 = true) {k j i : Nat} (hk : k < 7) (hj : j < nC k W) (hi : i < nR k H) : ∀ n, n ≤ 7 → k < n → pix (joinTo W H p l3 n) W p (pX k + j * pU k) (pY k + i * pV k) = chunk (rd_L1 l3 (k : Int)) p (i * nC k W + j) := by
  obtain ⟨a1, _, a3, _⟩ := pass_lt k hk
  have hX : pX k + j * pU k < W := cnt_lt a1 hj
  have hY : pY k + i * pV k < H := cnt_lt a3 hi
  intro n
  induction n with
  | zero => intro _ g; omega
  | succ n ih =>
    intro hn hkn
    have hn7 : n < 7 := by omega
    have hl := (okList_N (okRest_at h n (by omega) (by omega))).1
    have hD := joinTo_length h n (by omega)
    show pix (putAll W p (passPuts W H p n (rd_L1 l3 (n : Int))) (joinTo W H p l3 n)) W p _ _ = _
    by_cases e : k = n
    · subst e
      refine putAll_hit W H p _ _ hX hY _ _ _ hD (passPuts_ok hk hl) (fun a ha e1 e2 => ?_) ?_
      · obtain ⟨j', i', hj', hi', g⟩ := mem_all.1 ha
        obtain rfl : a = ⟨pX k + j' * pU k, pY k + i' * pV k, chunk (rd_L1 l3 (k : Int)) p (i' * nC k W + j')⟩ := by simpa [jPut] using g
        rw [pass_same hk e1, pass_sameR hk e2]
      · exact ⟨⟨pX k + j * pU k, pY k + i * pV k, chunk (rd_L1 l3 (k : Int)) p (i * nC k W + j)⟩, mem_all.2 ⟨j, i, hj, hi, by simp [jPut]⟩, rfl, rfl⟩
    · rw [putAll_miss W H p _ _ hX hY _ _ hD (passPuts_ok hn7 hl) (fun a ha g => ?_)]
      · exact ih (by omega) (by omega)
      · obtain ⟨j', i', hj', hi', ga⟩ := mem_all.1 ha
        obtain rfl : a = ⟨pX n + j' * pU n, pY n + i' * pV n, chunk (rd_L1 l3 (n : Int)) p (i' * nC n W + j')⟩ := by simpa [jPut] using ga
        exact e (pass_only hk hn7 g.1 g.2)
theorem joinTo_bytes {W H p : Nat} {l3 : List (List Int)} (h : okRest W H p l3 7 0 = true) : ∀ z ∈ joinTo W H p l3 7, 0 ≤ z ∧ z ≤ 255 := by
  have hl := joinTo_length h 7 (by omega)
  intro z hz
  rw [← tab_pix _ W H p hl] at hz
  refine tab_mem W H _ (fun z => 0 ≤ z ∧ z ≤ 255) (fun X Y hX hY z hz => ?_) z hz
  obtain ⟨k, hk, j, i, hj, hi, rfl, rfl⟩ := pass_of W H X Y hX hY
  rw [joinTo_pix h hk hj hi 7 (by omega) hk] at hz
  exact (okList_N (okRest_at h k (by omega) (by omega))).2 z (chunk_mem _ _ _ _ hz)

end Go.Proofs.Ytpadegboplcapaa.B
