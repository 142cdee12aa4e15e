/- Plain lemmas about pixels that are put one after the other: no program in sight. No conditions. -/
import Derived.Test.YtpadegboplcapaaImg
namespace Go.Proofs.Ytpadegboplcapaa.B
open Go.RowKit Go.Proofs.YtpadegboplcapaaW.PrintWords Go.Proofs.YtpadegboplcapaaW.PrintLast Go.Proofs.YtpadegboplcapaaW.PrintMore
set_option linter.unusedVariables false

/-- A column, a row and the numbers to put there. -/
structure Put where
  x : Nat
  y : Nat
  v : List Int
def putAll (W p : Nat) (ws : List Put) (D : List Int) : List Int := ws.foldl (fun D a => setPix D W p a.x a.y a.v) D
def PutOk (W H p : Nat) (a : Put) : Prop := a.x < W ∧ a.y < H ∧ a.v.length = p
theorem putAll_append (W p : Nat) (as bs : List Put) (D : List Int) : putAll W p (as ++ bs) D = putAll W p bs (putAll W p as D) := List.foldl_append
theorem putAll_length (W H p : Nat) : ∀ (ws : List Put) (D : List Int), D.length = H * W * p → (∀ a ∈ ws, PutOk W H p a) → (putAll W p ws D).length = H * W * p := by
  intro ws
  induction ws with
  | nil => intro D h _; exact h
  | cons a ws ih =>
    intro D h ho
    have oa := ho a (by simp)
    exact ih _ (setPix_length D a.v W H p a.x a.y h oa.1 oa.2.1 oa.2.2) (fun b hb => ho b (by simp [hb]))
theorem putAll_miss (W H p X Y : Nat) (hX : X < W) (hY : Y < H) : ∀ (ws : List Put) (D : List Int), D.length = H * W * p → (∀ a ∈ ws, PutOk W H p a) → (∀ a ∈ ws, ¬ (X = a.x ∧ Y = a.y)) → pix (putAll W p ws D) W p X Y = pix D W p X Y := by
  intro ws
  induction ws with
  | nil => intro D _ _ _; rfl
  | cons a ws ih =>
    intro D h ho hm
    have oa := ho a (by simp)
    have e := ih (setPix D W p a.x a.y a.v) (setPix_length D a.v W H p a.x a.y h oa.1 oa.2.1 oa.2.2) (fun b hb => ho b (by simp [hb])) (fun b hb => hm b (by simp [hb]))
    rw [pix_set_other D a.v W H p a.x a.y X Y h oa.1 oa.2.1 hX hY oa.2.2 (hm a (by simp))] at e
    exact e
theorem putAll_hit (W H p X Y : Nat) (hX : X < W) (hY : Y < H) (v : List Int) : ∀ (ws : List Put) (D : List Int), D.length = H * W * p → (∀ a ∈ ws, PutOk W H p a) → (∀ a ∈ ws, X = a.x → Y = a.y → a.v = v) → (∃ a ∈ ws, X = a.x ∧ Y = a.y) → pix (putAll W p ws D) W p X Y = v := by
  intro ws
  induction ws with
  | nil => intro D _ _ _ h; obtain ⟨a, ha, _⟩ := h; simp at ha
  | cons a ws ih =>
    intro D h ho hv hx
    have oa := ho a (by simp)
    have hl := setPix_length D a.v W H p a.x a.y h oa.1 oa.2.1 oa.2.2
    by_cases c : ∃ b ∈ ws, X = b.x ∧ Y = b.y
    · exact ih _ hl (fun b hb => ho b (by simp [hb])) (fun b hb => hv b (by simp [hb])) c
    · obtain ⟨b, hb, e⟩ := hx
      rcases List.mem_cons.1 hb with rfl | hb
      · have hm := putAll_miss W H p X Y hX hY ws (setPix D W p b.x b.y b.v) hl (fun b hb => ho b (by simp [hb])) (fun a ha g => c ⟨a, ha, g⟩)
        show pix (putAll W p ws (setPix D W p b.x b.y b.v)) W p X Y = v
        rw [hm, e.1, e.2, pix_set_same D b.v W H p b.x b.y h oa.1 oa.2.1 oa.2.2]
        exact hv b (by simp) e.1 e.2
      · exact absurd ⟨b, hb, e⟩ c
/-- The first n of a row, and the first m rows. -/
def rowPuts (f : Nat → Nat → List Put) (y n : Nat) : List Put := (List.range n).flatMap fun x => f x y
def allPuts (f : Nat → Nat → List Put) (W m : Nat) : List Put := (List.range m).flatMap fun y => rowPuts f y W
theorem rowPuts_succ (f : Nat → Nat → List Put) (y n : Nat) : rowPuts f y (n + 1) = rowPuts f y n ++ f n y := by
  unfold rowPuts
  rw [List.range_succ, List.flatMap_append]
  simp
theorem allPuts_succ (f : Nat → Nat → List Put) (W m : Nat) : allPuts f W (m + 1) = allPuts f W m ++ rowPuts f m W := by
  unfold allPuts
  rw [List.range_succ, List.flatMap_append]
  simp
theorem mem_row {f : Nat → Nat → List Put} {y n : Nat} {a : Put} : a ∈ rowPuts f y n ↔ ∃ x, x < n ∧ a ∈ f x y := by
  unfold rowPuts
  simp only [List.mem_flatMap, List.mem_range]
theorem mem_all {f : Nat → Nat → List Put} {W m : Nat} {a : Put} : a ∈ allPuts f W m ↔ ∃ x y, x < W ∧ y < m ∧ a ∈ f x y := by
  unfold allPuts
  simp only [List.mem_flatMap, List.mem_range, mem_row]
  exact ⟨fun ⟨y, h, x, g, k⟩ => ⟨x, y, g, h, k⟩, fun ⟨x, y, g, h, k⟩ => ⟨y, h, x, g, k⟩⟩
/-- Every pixel is put, and what is put there is told. -/
theorem putAll_tab (W H p : Nat) (ws : List Put) (D : List Int) (g : Nat → Nat → List Int) (hD : D.length = H * W * p) (ho : ∀ a ∈ ws, PutOk W H p a) (hv : ∀ a ∈ ws, a.v = g a.x a.y) (hall : ∀ X Y, X < W → Y < H → ∃ a ∈ ws, X = a.x ∧ Y = a.y) : putAll W p ws D = tab W H g := by
  have hg : ∀ X Y, X < W → Y < H → (g X Y).length = p := fun X Y hX hY => by
    obtain ⟨a, ha, e1, e2⟩ := hall X Y hX hY
    rw [e1, e2, ← hv a ha]
    exact (ho a ha).2.2
  obtain ⟨t1, t2⟩ := tab_eq W H p g hg
  refine pix_ext _ _ W H p (putAll_length W H p ws D hD ho) t1 fun X Y hX hY => ?_
  rw [t2 X Y hX hY]
  exact putAll_hit W H p X Y hX hY _ ws D hD ho (fun a ha e1 e2 => by rw [hv a ha, e1, e2]) (hall X Y hX hY)
/-- Every pixel of an image is put at a place of its own. -/
theorem moved (W H W' H' p : Nat) (D D0 : List Int) (tx ty : Nat → Nat → Nat) (g : Nat → Nat → List Int) (hD : D.length = H * W * p) (h0 : D0.length = H' * W' * p) (ht : ∀ x y, x < W → y < H → tx x y < W' ∧ ty x y < H' ∧ g (tx x y) (ty x y) = pix D W p x y)
    (hs : ∀ X Y, X < W' → Y < H' → ∃ x y, x < W ∧ y < H ∧ X = tx x y ∧ Y = ty x y) : putAll W' p (allPuts (fun x y => [⟨tx x y, ty x y, pix D W p x y⟩]) W H) D0 = tab W' H' g := by
  refine putAll_tab W' H' p _ _ _ h0 (fun a ha => ?_) (fun a ha => ?_) (fun X Y hX hY => ?_)
  · obtain ⟨i, j, hi, hj, g'⟩ := mem_all.1 ha
    obtain rfl : a = ⟨tx i j, ty i j, pix D W p i j⟩ := by simpa using g'
    exact ⟨(ht i j hi hj).1, (ht i j hi hj).2.1, pix_length D W H p i j hD hi hj⟩
  · obtain ⟨i, j, hi, hj, g'⟩ := mem_all.1 ha
    obtain rfl : a = ⟨tx i j, ty i j, pix D W p i j⟩ := by simpa using g'
    exact (ht i j hi hj).2.2.symm
  · obtain ⟨i, j, hi, hj, e1, e2⟩ := hs X Y hX hY
    exact ⟨⟨tx i j, ty i j, pix D W p i j⟩, mem_all.2 ⟨i, j, hi, hj, by simp⟩, e1, e2⟩
theorem moved_len (W H W' H' p : Nat) (D D0 : List Int) (tx ty : Nat → Nat → Nat) (hD : D.length = H * W * p) (h0 : D0.length = H' * W' * p) (ht : ∀ x y, x < W → y < H → tx x y < W' ∧ ty x y < H') (ws : List Put) (hw : ∀ a ∈ ws, ∃ x y, x < W ∧ y < H ∧ a ∈ [(⟨tx x y, ty x y, pix D W p x y⟩ : Put)]) : (putAll W' p ws D0).length = H' * W' * p :=
  putAll_length W' H' p ws D0 h0 fun a ha => by
    obtain ⟨i, j, hi, hj, g'⟩ := hw a ha
    obtain rfl : a = ⟨tx i j, ty i j, pix D W p i j⟩ := by simpa using g'
    exact ⟨(ht i j hi hj).1, (ht i j hi hj).2, pix_length D W H p i j hD hi hj⟩
/-- The puts before cell (x, y), row by row. -/
def gridPuts (f : Nat → Nat → List Put) (W x y : Nat) : List Put := allPuts f W y ++ rowPuts f y x
theorem grid_zero (f : Nat → Nat → List Put) (W : Nat) : gridPuts f W 0 0 = [] := rfl
theorem grid_next (f : Nat → Nat → List Put) (W y : Nat) : gridPuts f W W y = gridPuts f W 0 (y + 1) := by
  unfold gridPuts
  rw [allPuts_succ]
  simp [rowPuts]
theorem grid_succ (f : Nat → Nat → List Put) (W x y : Nat) : gridPuts f W (x + 1) y = gridPuts f W x y ++ f x y := by
  unfold gridPuts
  rw [rowPuts_succ, List.append_assoc]
theorem grid_end (f : Nat → Nat → List Put) (W H : Nat) : gridPuts f W 0 H = allPuts f W H := by
  unfold gridPuts
  simp [rowPuts]
theorem mem_grid {f : Nat → Nat → List Put} {W H x y : Nat} (hx : x ≤ W) (hy : y < H) {a : Put} (h : a ∈ gridPuts f W x y) : ∃ i j, i < W ∧ j < H ∧ a ∈ f i j := by
  rcases List.mem_append.1 h with h | h
  · obtain ⟨i, j, hi, hj, g⟩ := mem_all.1 h
    exact ⟨i, j, hi, by omega, g⟩
  · obtain ⟨i, hi, g⟩ := mem_row.1 h
    exact ⟨i, y, by omega, hy, g⟩
/-- Two loops, one in the other, with a state that is known before each cell. -/
theorem ev_grid {σ ρ : Type} (L0 : Nat → σ → Nat → Option ρ) (L1 : Nat → σ → Nat → Nat → Option ρ) (W H : Nat) (st : Nat → Nat → σ)
    (h0 : ∀ y, y < H → ∀ r, Ev (fun k => L1 k (st 0 y) y 0) r → Ev (fun k => L0 k (st 0 y) y) r)
    (h1 : ∀ x y, x < W → y < H → ∀ r, Ev (fun k => L1 k (st (x + 1) y) y (x + 1)) r → Ev (fun k => L1 k (st x y) y x) r)
    (h2 : ∀ y, y < H → ∀ r, Ev (fun k => L0 k (st 0 (y + 1)) (y + 1)) r → Ev (fun k => L1 k (st W y) y W) r)
    (r : ρ) (h : Ev (fun k => L0 k (st 0 H) H) r) : Ev (fun k => L0 k (st 0 0) 0) r :=
  ev_for L0 H (st 0) (fun y hy r hr => h0 y hy r (ev_for (fun k s x => L1 k s y x) W (fun x => st x y) (fun x hx r hr => h1 x y hx hy r hr) r (h2 y hy r hr))) r h
theorem zeros_length (w h p : Nat) : (List.replicate (h * w * p) (0 : Int)).length = h * w * p := List.length_replicate

end Go.Proofs.Ytpadegboplcapaa.B
