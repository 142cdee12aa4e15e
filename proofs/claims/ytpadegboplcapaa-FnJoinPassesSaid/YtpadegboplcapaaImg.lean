/- Plain lemmas about tables of pixels: no program in sight. No conditions. -/
import Derived.Test.YtpadegboplcapaaBase
namespace Go.Proofs.Ytpadegboplcapaa.B
open Go.RowKit
set_option linter.unusedVariables false

/-! ### A row that a callee hands back, and whose block is younger than was told -/
section
open Go.Proofs.YtpadegboplcapaaW.PrintWords Go.Proofs.YtpadegboplcapaaW.PrintLast Go.Proofs.YtpadegboplcapaaW.PrintMore
theorem q_raise {w : World} {b b' n size : Nat} {e : TypeId} {v : Value} {xs : List Value} (h : QRow w b e size v n xs) (hb : ∀ k, v.ownBlock = some k → b' ≤ k) : QRow w b' e size v n xs := by
  obtain ⟨h1, h2⟩ := h
  refine ⟨h1, ?_⟩
  rcases h2 with ⟨h0, A, rfl, hA⟩ | ⟨g, off, cap, cur, rfl, hg, r⟩
  · exact .inl ⟨h0, A, rfl, fun a ha => ⟨hb a.block (by subst ha; simp [Value.ownBlock]), (hA a ha).2⟩⟩
  · exact .inr ⟨g, off, cap, cur, rfl, hb g (by simp [Value.ownBlock]), r⟩
theorem Q_raise {α : Type} {d : Kd α} {e : Nat} {W : World} {b b' : Nat} {ok : Nat → Prop} {v : Value} {xs : List α} (hM : ∀ w ok x cs, d.M w b ok x cs → d.M w b' ok x cs) (h : d.Q e W b ok v xs) (hb : ∀ k, v.ownBlock = some k → b' ≤ k) : d.Q e W b' ok v xs := by
  obtain ⟨h0, inner, ho, hr⟩ := h
  exact ⟨h0, inner, q_raise ho hb, hr.imp_ (fun _ _ hp => hM _ _ _ _ hp)⟩
end
/-- The i-th piece of p numbers. -/
def chunk (D : List Int) (p i : Nat) : List Int := (D.drop (i * p)).take p
/-- The list whose i-th piece of p numbers is v. -/
def setChunk (D : List Int) (p i : Nat) (v : List Int) : List Int := D.take (i * p) ++ v ++ D.drop ((i + 1) * p)
/-- The numbers of a pixel. -/
def pix (D : List Int) (W p x y : Nat) : List Int := chunk D p (y * W + x)
def setPix (D : List Int) (W p x y : Nat) (v : List Int) : List Int := setChunk D p (y * W + x) v
/-- The table of pixels, row by row. -/
def tab (W H : Nat) (f : Nat → Nat → List Int) : List Int := (List.range H).flatMap fun y => (List.range W).flatMap fun x => f x y

theorem flat_succ (n : Nat) (g : Nat → List Int) : (List.range (n + 1)).flatMap g = (List.range n).flatMap g ++ g n := by
  rw [List.range_succ, List.flatMap_append]
  simp
theorem tab_succ (W H : Nat) (f : Nat → Nat → List Int) : tab W (H + 1) f = tab W H f ++ (List.range W).flatMap fun x => f x H := by
  unfold tab
  rw [flat_succ]
theorem flat_length (n c : Nat) (g : Nat → List Int) (h : ∀ i, i < n → (g i).length = c) : ((List.range n).flatMap g).length = n * c := by
  induction n with
  | zero => simp
  | succ n ih =>
    rw [flat_succ, List.length_append, ih (fun i hi => h i (by omega)), h n (by omega), Nat.succ_mul]
theorem flat_length_le (n c : Nat) (g : Nat → List Int) (h : ∀ i, i < n → (g i).length ≤ c) : ((List.range n).flatMap g).length ≤ n * c := by
  induction n with
  | zero => simp
  | succ n ih =>
    rw [flat_succ, List.length_append, Nat.succ_mul]
    have h1 := ih (fun i hi => h i (by omega))
    have h2 := h n (by omega)
    omega
/-- Not too long, before the table is whole. -/
theorem tab_bound (aw ah : Int) (x y : Int) (px : Nat → Nat → List Int) (hw : 1 ≤ aw ∧ aw ≤ 16) (hh : 1 ≤ ah ∧ ah ≤ 16) (hp : ∀ x y, x < aw.toNat → y < ah.toNat → (px x y).length ≤ 4) (hx : 0 ≤ x ∧ x ≤ aw) (hy : 0 ≤ y ∧ y < ah) :
    (tab aw.toNat y.toNat px ++ (List.range x.toNat).flatMap fun i => px i y.toNat).length ≤ 2000 := by
  have h1 : ((List.range x.toNat).flatMap fun i => px i y.toNat).length ≤ x.toNat * 4 := flat_length_le _ _ _ fun i hi => hp i _ (by omega) (by omega)
  have h2 : (tab aw.toNat y.toNat px).length ≤ y.toNat * 64 := by
    unfold tab
    refine flat_length_le _ _ _ fun j hj => ?_
    have : ((List.range aw.toNat).flatMap fun x => px x j).length ≤ aw.toNat * 4 := flat_length_le _ _ _ fun i hi => hp i j hi (by omega)
    omega
  rw [List.length_append]
  omega
theorem flat_congr (n : Nat) (g g' : Nat → List Int) (h : ∀ i, i < n → g i = g' i) : (List.range n).flatMap g = (List.range n).flatMap g' := by
  induction n with
  | zero => rfl
  | succ n ih => rw [flat_succ, flat_succ, ih (fun i hi => h i (by omega)), h n (by omega)]
theorem flat_chunk (n c : Nat) (g : Nat → List Int) (h : ∀ i, i < n → (g i).length = c) (i : Nat) (hi : i < n) : chunk ((List.range n).flatMap g) c i = g i := by
  induction n with
  | zero => omega
  | succ n ih =>
    have hl := flat_length n c g (fun i hi => h i (by omega))
    rw [flat_succ]
    unfold chunk
    by_cases e : i = n
    · subst e
      rw [List.drop_append, hl, Nat.sub_self, List.drop_of_length_le (by rw [hl]; exact Nat.le_refl _), List.nil_append, List.drop_zero, List.take_of_length_le (by rw [h i (by omega)]; exact Nat.le_refl _)]
    · have hin : i < n := by omega
      have := ih (fun i hi => h i (by omega)) hin
      unfold chunk at this
      have h1 : (i + 1) * c ≤ n * c := Nat.mul_le_mul_right c (by omega)
      rw [Nat.succ_mul] at h1
      rw [List.drop_append_of_le_length (by omega), List.take_append_of_le_length (by rw [List.length_drop]; omega)]
      exact this
theorem chunk_flat (D : List Int) (n c : Nat) : (List.range n).flatMap (fun i => chunk D c i) = D.take (n * c) := by
  induction n with
  | zero => simp
  | succ n ih => rw [flat_succ, ih, Nat.succ_mul, List.take_add]; rfl
theorem chunk_length (D : List Int) (p i n : Nat) (hD : D.length = n * p) (hi : i < n) : (chunk D p i).length = p := by
  unfold chunk
  have h1 : (i + 1) * p ≤ n * p := Nat.mul_le_mul_right p (by omega)
  rw [Nat.succ_mul] at h1
  rw [List.length_take, List.length_drop]
  omega
theorem chunk_ext (D E : List Int) (n p : Nat) (hD : D.length = n * p) (hE : E.length = n * p) (h : ∀ i, i < n → chunk D p i = chunk E p i) : D = E := by
  have h1 := chunk_flat D n p
  have h2 := chunk_flat E n p
  rw [List.take_of_length_le (by omega)] at h1 h2
  rw [← h1, ← h2]
  exact flat_congr n _ _ h
theorem setChunk_length (D v : List Int) (n p i : Nat) (hD : D.length = n * p) (hi : i < n) (hv : v.length = p) : (setChunk D p i v).length = n * p := by
  unfold setChunk
  have h1 : (i + 1) * p ≤ n * p := Nat.mul_le_mul_right p (by omega)
  have h2 : (i + 1) * p = i * p + p := Nat.succ_mul i p
  rw [List.length_append, List.length_append, List.length_take, List.length_drop]
  omega
theorem chunk_set_same (D v : List Int) (n p i : Nat) (hD : D.length = n * p) (hi : i < n) (hv : v.length = p) : chunk (setChunk D p i v) p i = v := by
  unfold chunk setChunk
  have h1 : (i + 1) * p ≤ n * p := Nat.mul_le_mul_right p (by omega)
  have h2 : (i + 1) * p = i * p + p := Nat.succ_mul i p
  have hl : (D.take (i * p)).length = i * p := by rw [List.length_take]; omega
  rw [List.append_assoc, List.drop_append, hl, Nat.sub_self, List.drop_of_length_le (by omega), List.nil_append, List.drop_zero, List.take_append_of_le_length (by omega), List.take_of_length_le (by omega)]
theorem chunk_set_other (D v : List Int) (n p i j : Nat) (hD : D.length = n * p) (hi : i < n) (hj : j < n) (hv : v.length = p) (hne : j ≠ i) : chunk (setChunk D p i v) p j = chunk D p j := by
  unfold chunk setChunk
  have h1 : (i + 1) * p ≤ n * p := Nat.mul_le_mul_right p (by omega)
  have h2 : (i + 1) * p = i * p + p := Nat.succ_mul i p
  have h3 : (j + 1) * p ≤ n * p := Nat.mul_le_mul_right p (by omega)
  have h4 : (j + 1) * p = j * p + p := Nat.succ_mul j p
  have hl : (D.take (i * p)).length = i * p := by rw [List.length_take]; omega
  rcases Nat.lt_or_ge j i with h | h
  · have h5 : (j + 1) * p ≤ i * p := Nat.mul_le_mul_right p (by omega)
    rw [List.append_assoc, List.drop_append_of_le_length (by omega), List.take_append_of_le_length (by rw [List.length_drop]; omega), List.drop_take, List.take_take]
    rw [Nat.min_eq_left (by omega)]
  · have h5 : (i + 1) * p ≤ j * p := Nat.mul_le_mul_right p (by omega)
    rw [List.drop_append, List.drop_of_length_le (by rw [List.length_append]; omega), List.nil_append, List.drop_drop, List.length_append, hl, hv]
    congr 2
    omega
theorem at_lt {W H x y : Nat} (hx : x < W) (hy : y < H) : y * W + x < H * W := by
  have : (y + 1) * W ≤ H * W := Nat.mul_le_mul_right W (by omega)
  rw [Nat.succ_mul] at this
  omega
theorem at_inj {W x y x' y' : Nat} (hx : x < W) (hx' : x' < W) (h : y * W + x = y' * W + x') : x = x' ∧ y = y' := by
  have h1 : (y * W + x) % W = x := by rw [Nat.add_comm, Nat.add_mul_mod_self_right, Nat.mod_eq_of_lt hx]
  have h2 : (y' * W + x') % W = x' := by rw [Nat.add_comm, Nat.add_mul_mod_self_right, Nat.mod_eq_of_lt hx']
  have h3 : x = x' := by rw [← h1, ← h2, h]
  refine ⟨h3, ?_⟩
  subst h3
  have h4 : y * W = y' * W := by omega
  exact Nat.eq_of_mul_eq_mul_right (by omega) h4
theorem at_split {W n : Nat} (hW : 0 < W) : n = n / W * W + n % W := by
  have := Nat.div_add_mod n W
  rw [Nat.mul_comm] at this
  omega
theorem pix_ext (D E : List Int) (W H p : Nat) (hD : D.length = H * W * p) (hE : E.length = H * W * p) (h : ∀ x y, x < W → y < H → pix D W p x y = pix E W p x y) : D = E := by
  refine chunk_ext D E (H * W) p hD hE fun i hi => ?_
  have hW : 0 < W := by
    rcases Nat.eq_zero_or_pos W with h0 | h0
    · subst h0; simp at hi
    · exact h0
  have hx : i % W < W := Nat.mod_lt _ hW
  have hy : i / W < H := by rw [Nat.div_lt_iff_lt_mul hW]; exact hi
  have := h (i % W) (i / W) hx hy
  unfold pix at this
  rwa [← at_split hW] at this
theorem pix_length (D : List Int) (W H p x y : Nat) (hD : D.length = H * W * p) (hx : x < W) (hy : y < H) : (pix D W p x y).length = p := chunk_length D p _ (H * W) hD (at_lt hx hy)
theorem setPix_length (D v : List Int) (W H p x y : Nat) (hD : D.length = H * W * p) (hx : x < W) (hy : y < H) (hv : v.length = p) : (setPix D W p x y v).length = H * W * p := setChunk_length D v (H * W) p _ hD (at_lt hx hy) hv
theorem pix_set_same (D v : List Int) (W H p x y : Nat) (hD : D.length = H * W * p) (hx : x < W) (hy : y < H) (hv : v.length = p) : pix (setPix D W p x y v) W p x y = v := chunk_set_same D v (H * W) p _ hD (at_lt hx hy) hv
theorem pix_set_other (D v : List Int) (W H p x y x' y' : Nat) (hD : D.length = H * W * p) (hx : x < W) (hy : y < H) (hx' : x' < W) (hy' : y' < H) (hv : v.length = p) (hne : ¬ (x' = x ∧ y' = y)) :
    pix (setPix D W p x y v) W p x' y' = pix D W p x' y' :=
  chunk_set_other D v (H * W) p _ _ hD (at_lt hx hy) (at_lt hx' hy') hv (fun e => hne (at_inj hx' hx e))
theorem tab_eq (W H p : Nat) (f : Nat → Nat → List Int) (hf : ∀ x y, x < W → y < H → (f x y).length = p) : (tab W H f).length = H * W * p ∧ ∀ x y, x < W → y < H → pix (tab W H f) W p x y = f x y := by
  have hrow : ∀ y, y < H → ((List.range W).flatMap fun x => f x y).length = W * p := fun y hy => flat_length W p _ fun x hx => hf x y hx hy
  have hl : (tab W H f).length = H * W * p := by
    unfold tab
    rw [flat_length H (W * p) _ hrow, Nat.mul_assoc]
  refine ⟨hl, fun x y hx hy => ?_⟩
  have h1 : chunk (tab W H f) (W * p) y = (List.range W).flatMap fun x => f x y := flat_chunk H (W * p) _ hrow y hy
  have h2 := flat_chunk W p (fun x => f x y) (fun x hx => hf x y hx hy) x hx
  rw [← h1] at h2
  rw [← h2]
  unfold pix chunk
  have h3 : (x + 1) * p ≤ W * p := Nat.mul_le_mul_right p (by omega)
  rw [Nat.succ_mul] at h3
  rw [List.drop_take, List.take_take, List.drop_drop, Nat.min_eq_left (by omega)]
  congr 2
  rw [Nat.add_mul, Nat.mul_assoc]
theorem tab_pix (D : List Int) (W H p : Nat) (hD : D.length = H * W * p) : tab W H (pix D W p) = D := by
  obtain ⟨h1, h2⟩ := tab_eq W H p (pix D W p) (fun x y hx hy => pix_length D W H p x y hD hx hy)
  exact pix_ext _ _ W H p h1 hD h2
theorem tab_congr (W H : Nat) (f g : Nat → Nat → List Int) (h : ∀ x y, x < W → y < H → f x y = g x y) : tab W H f = tab W H g :=
  flat_congr H _ _ fun y hy => flat_congr W _ _ fun x hx => h x y hx hy
theorem chunk_mem (D : List Int) (p i : Nat) (z : Int) (h : z ∈ chunk D p i) : z ∈ D := List.mem_of_mem_drop (List.mem_of_mem_take h)
theorem tab_mem (W H : Nat) (f : Nat → Nat → List Int) (P : Int → Prop) (h : ∀ x y, x < W → y < H → ∀ z ∈ f x y, P z) : ∀ z ∈ tab W H f, P z := by
  intro z hz
  unfold tab at hz
  obtain ⟨y, hy, hz⟩ := List.mem_flatMap.1 hz
  obtain ⟨x, hx, hz⟩ := List.mem_flatMap.1 hz
  exact h x y (List.mem_range.1 hx) (List.mem_range.1 hy) z hz

/-! ### Valid images, as numbers of the program -/
def ImgI (w h p : Int) (D : List Int) : Prop := 1 ≤ w ∧ w ≤ 16 ∧ 1 ≤ h ∧ h ≤ 16 ∧ 1 ≤ p ∧ p ≤ 4 ∧ (D.length : Int) = w * h * p
theorem ImgI.nat {w h p : Int} {D : List Int} (o : ImgI w h p D) : D.length = h.toNat * w.toNat * p.toNat := by
  obtain ⟨a1, a2, a3, a4, a5, a6, e⟩ := o
  obtain ⟨W, rfl⟩ := Int.eq_ofNat_of_zero_le (show 0 ≤ w by omega)
  obtain ⟨H, rfl⟩ := Int.eq_ofNat_of_zero_le (show 0 ≤ h by omega)
  obtain ⟨P, rfl⟩ := Int.eq_ofNat_of_zero_le (show 0 ≤ p by omega)
  simp only [Int.toNat_natCast]
  rw [Nat.mul_comm H W]
  exact_mod_cast e
/-- Where a pixel begins, and that it lies in the list. -/
theorem ImgI.idx {w h p x y : Int} {D : List Int} (o : ImgI w h p D) (hx : 0 ≤ x ∧ x < w) (hy : 0 ≤ y ∧ y < h) :
    wrap64 (y * w) = y * w ∧ wrap64 (y * w + x) = y * w + x ∧ wrap64 ((y * w + x) * p) = (y * w + x) * p ∧ 0 ≤ (y * w + x) * p ∧ (y * w + x) * p + p ≤ D.length ∧ (y * w + x) * p ≤ 2000 ∧
    ((y * w + x) * p).toNat = (y.toNat * w.toNat + x.toNat) * p.toNat := by
  have hl := o.nat
  obtain ⟨a1, a2, a3, a4, a5, a6, _⟩ := o
  obtain ⟨W, rfl⟩ := Int.eq_ofNat_of_zero_le (show 0 ≤ w by omega)
  obtain ⟨H, rfl⟩ := Int.eq_ofNat_of_zero_le (show 0 ≤ h by omega)
  obtain ⟨P, rfl⟩ := Int.eq_ofNat_of_zero_le (show 0 ≤ p by omega)
  obtain ⟨X, rfl⟩ := Int.eq_ofNat_of_zero_le hx.1
  obtain ⟨Y, rfl⟩ := Int.eq_ofNat_of_zero_le hy.1
  simp only [Int.toNat_natCast] at hl ⊢
  have h1 : Y * W + X < H * W := at_lt (by omega) (by omega)
  have h2 : (Y * W + X + 1) * P ≤ H * W * P := Nat.mul_le_mul_right P (by omega)
  rw [Nat.succ_mul] at h2
  have h3 : H * W ≤ 16 * 16 := Nat.mul_le_mul (by omega) (by omega)
  have h4 : H * W * P ≤ 256 * 4 := Nat.mul_le_mul h3 (by omega)
  have e1 : ((Y : Int) * (W : Int)) = ((Y * W : Nat) : Int) := by simp
  rw [e1]
  have e2 : (((Y * W : Nat) : Int) + (X : Int)) * (P : Int) = (((Y * W + X) * P : Nat) : Int) := by simp
  rw [e2]
  refine ⟨w64 (by omega) (by omega), w64 (by omega) (by omega), w64 (by omega) (by omega), by omega, by omega, by omega, by omega⟩
theorem pix_mid (D : List Int) (W p x y : Nat) (m : Nat) (hm : m = (y * W + x) * p + p) : (D.take m).drop ((y * W + x) * p) = pix D W p x y := by
  subst hm
  unfold pix chunk
  rw [List.drop_take, Nat.add_sub_cancel_left]
def okImg (w h p : Int) (D : List Int) : Bool := (decide (1 ≤ w) && decide (w ≤ 16)) && ((decide (1 ≤ h) && decide (h ≤ 16)) && ((decide (1 ≤ p) && decide (p ≤ 4)) && (decide ((D.length : Int) = w * h * p) && D.all fun x => decide (0 ≤ x) && decide (x ≤ 255))))
theorem okImg_img {w h p : Int} {D : List Int} (o : okImg w h p D = true) : ImgI w h p D ∧ ∀ x ∈ D, 0 ≤ x ∧ x ≤ 255 := by
  unfold okImg at o
  simp only [Bool.and_eq_true, decide_eq_true_eq, List.all_eq_true] at o
  obtain ⟨⟨a1, a2⟩, ⟨a3, a4⟩, ⟨a5, a6⟩, a7, a8⟩ := o
  exact ⟨⟨a1, a2, a3, a4, a5, a6, a7⟩, a8⟩
theorem img_okImg {w h p : Int} {D : List Int} (o : ImgI w h p D) (hb : ∀ x ∈ D, 0 ≤ x ∧ x ≤ 255) : okImg w h p D = true := by
  obtain ⟨a1, a2, a3, a4, a5, a6, a7⟩ := o
  unfold okImg
  simp only [Bool.and_eq_true, decide_eq_true_eq, List.all_eq_true]
  exact ⟨⟨a1, a2⟩, ⟨a3, a4⟩, ⟨a5, a6⟩, a7, hb⟩

end Go.Proofs.Ytpadegboplcapaa.B
