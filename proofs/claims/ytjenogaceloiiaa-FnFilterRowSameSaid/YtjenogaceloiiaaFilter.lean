/- What the filters answer, in plain numbers. No conditions. -/
import Derived.Test.YtjenogaceloiiaaLoops
import Derived.Test.YtjenogaceloiiaaQ1
import Derived.Test.YtjenogaceloiiaaQ13
import Derived.Test.YtjenogaceloiiaaQ4
import Derived.Test.YtjenogaceloiiaaQ8
import Derived.Test.YtjenogaceloiiaaQ9
namespace Go.Proofs.Ytjenogaceloiiaa.B
open Go.RowKit Go.Proofs.Ytjenogaceloiiaa.Q Go.Proofs.YtjenogaceloiiaaW.PrintWords Go.Proofs.YtjenogaceloiiaaW.PrintLast Go.Proofs.YtjenogaceloiiaaW.PrintMore
set_option linter.unusedVariables false

def okBytes (l : List Int) : Bool := l.all fun x => decide (0 ≤ x) && decide (x ≤ 255)
theorem areBytes_eq (l : List Int) : impl_areBytes.f l = some (okBytes l) := by
  unfold impl_areBytes.f okBytes
  congr 1
  rw [Bool.eq_iff_iff]
  simp only [Bool.not_eq_true', List.any_eq_false, List.all_eq_true, notByte, Bool.or_eq_true, Bool.and_eq_true, decide_eq_true_eq, not_or]
  exact ⟨fun h x hx => by have := h x hx; omega, fun h x hx => by have := h x hx; omega⟩
def byt (l : List Int) : Prop := ∀ i, 0 ≤ l.getD i 0 ∧ l.getD i 0 ≤ 255
theorem getD_out (l : List Int) (i : Nat) (h : l.length ≤ i) : l.getD i 0 = 0 := by simp [List.getD_eq_getElem?_getD, List.getElem?_eq_none h]
theorem byt_mem {l : List Int} (h : ∀ x ∈ l, 0 ≤ x ∧ x ≤ 255) : byt l := by
  intro i
  by_cases hi : i < l.length
  · have e : l.getD i 0 = l[i] := by simp [hi]
    rw [e]
    exact h _ (List.getElem_mem hi)
  · rw [getD_out l i (by omega)]
    omega
theorem byt_of {l : List Int} (h : okBytes l = true) : byt l := by
  unfold okBytes at h
  simp only [List.all_eq_true, Bool.and_eq_true, decide_eq_true_eq] at h
  exact byt_mem h
theorem getD_ext {a b : List Int} (hl : a.length = b.length) (h : ∀ i, i < a.length → a.getD i 0 = b.getD i 0) : a = b := by
  apply List.ext_getElem hl
  intro i h1 h2
  have := h i h1
  simpa [h1, h2] using this
def abv (x : Int) : Int := if x < 0 then -x else x
theorem abv_neg (x y : Int) (h : x = -y) : abv x = abv y := by
  unfold abv
  split <;> split <;> omega
def paethP (a b c : Int) : Int := if abv (a + b - c - a) ≤ abv (a + b - c - b) ∧ abv (a + b - c - a) ≤ abv (a + b - c - c) then a else if abv (a + b - c - b) ≤ abv (a + b - c - c) then b else c
def predP (kind a b c : Int) : Int := if kind = 1 then a else if kind = 2 then b else if kind = 3 then (a + b) / 2 else if kind = 4 then paethP a b c else 0
theorem paethP_byte {a b c : Int} (ha : 0 ≤ a ∧ a ≤ 255) (hb : 0 ≤ b ∧ b ≤ 255) (hc : 0 ≤ c ∧ c ≤ 255) : 0 ≤ paethP a b c ∧ paethP a b c ≤ 255 := by
  unfold paethP
  split
  · exact ha
  · split
    · exact hb
    · exact hc
theorem predP_byte (kind : Int) {a b c : Int} (ha : 0 ≤ a ∧ a ≤ 255) (hb : 0 ≤ b ∧ b ≤ 255) (hc : 0 ≤ c ∧ c ≤ 255) : 0 ≤ predP kind a b c ∧ predP kind a b c ≤ 255 := by
  unfold predP
  split
  · exact ha
  · split
    · exact hb
    · split
      · omega
      · split
        · exact paethP_byte ha hb hc
        · omega
def guessP (kind : Int) (row before : List Int) (s i : Nat) : Int := predP kind (if s ≤ i then row.getD (i - s) 0 else 0) (before.getD i 0) (if s ≤ i then before.getD (i - s) 0 else 0)
theorem ifz {P : Prop} [Decidable P] {x : Int} (h : 0 ≤ x ∧ x ≤ 255) : 0 ≤ (if P then x else 0) ∧ (if P then x else 0) ≤ 255 := by
  split
  · exact h
  · omega
theorem guessP_byte (kind : Int) {row before : List Int} (hr : byt row) (hb : byt before) (s i : Nat) : 0 ≤ guessP kind row before s i ∧ guessP kind row before s i ≤ 255 :=
  predP_byte kind (ifz (hr _)) (hb _) (ifz (hb _))
theorem distance_eq (x : Int) (h : -100000 ≤ x ∧ x ≤ 100000) : spec_distance.f x = some (abv x) := by
  unfold spec_distance.f abv
  by_cases c : x < 0
  · rw [if_pos c, if_pos c, w64 (by omega) (by omega)]
  · rw [if_neg c, if_neg c]
theorem specPaeth_ev (a b c : Int) (ha : 0 ≤ a ∧ a ≤ 255) (hb : 0 ≤ b ∧ b ≤ 255) (hc : 0 ≤ c ∧ c ≤ 255) : Ev (fun k => spec_paeth.f k a b c) (paethP a b c) := by
  unfold spec_paeth.f
  rw [w64 (x := a + b) (by omega) (by omega), w64 (x := a + b - c) (by omega) (by omega), w64 (x := a + b - c - a) (by omega) (by omega), w64 (x := a + b - c - b) (by omega) (by omega), w64 (x := a + b - c - c) (by omega) (by omega)]
  rw [distance_eq _ (by omega), distance_eq _ (by omega), distance_eq _ (by omega)]
  simp only [Option.bind_some]
  unfold paethP
  generalize abv (a + b - c - a) = x
  generalize abv (a + b - c - b) = y
  generalize abv (a + b - c - c) = z
  have hf : ∀ t : Bool, Ev (fun k => spec_paeth.j0 k a b c y z t) (if t = true then a else if y ≤ z then b else c) := fun t => by
    refine Ev.step (f := fun _ => some (if t = true then a else if y ≤ z then b else c)) (fun k => ?_) (Ev.now _)
    simp only [spec_paeth.j0]
    cases t with
    | true => rfl
    | false =>
      by_cases g : y ≤ z
      · simp [g]
      · simp [g]
  by_cases h1 : x ≤ y
  · refine ev_pos h1 ?_
    have := hf (decide (x ≤ z))
    by_cases h2 : x ≤ z
    · simpa [h1, h2] using this
    · simpa [h1, h2] using this
  · refine ev_neg h1 ?_
    simpa [h1] using hf false
theorem specGuess_ev (kind : Int) (row before : List Int) (s i : Nat) (h1 : 1 ≤ s) (h4 : s ≤ 4) (hi : i < before.length) (hl : before.length ≤ 64) (hr : s ≤ i → i - s < row.length) (br : byt row) (bb : byt before) :
    Ev (fun k => spec_guess.f k kind row before (s : Int) (i : Int)) (guessP kind row before s i) := by
  have hj : ∀ a c : Int, 0 ≤ a ∧ a ≤ 255 → 0 ≤ c ∧ c ≤ 255 → Ev (fun k => spec_guess.j0 k kind before (i : Int) a c) (predP kind a (before.getD i 0) c) := fun a c ha hc => by
    have hb := bb i
    have hp := specPaeth_ev a (before.getD i 0) c ha hb hc
    unfold predP
    by_cases k1 : kind = 1
    · refine Ev.step (f := fun _ => some a) (fun k => ?_) (ev_now (by rw [if_pos k1]))
      simp only [spec_guess.j0]
      rw [if_pos k1]
    by_cases k2 : kind = 2
    · refine Ev.step (f := fun _ => some (before.getD i 0)) (fun k => ?_) (ev_now (by rw [if_neg k1, if_pos k2]))
      simp only [spec_guess.j0]
      rw [if_neg k1, if_pos k2, if_pos (by omega), if_pos (by omega), rd_nat]
    by_cases k3 : kind = 3
    · refine Ev.step (f := fun _ => some ((a + before.getD i 0) / 2)) (fun k => ?_) (ev_now (by rw [if_neg k1, if_neg k2, if_pos k3]))
      simp only [spec_guess.j0]
      rw [if_neg k1, if_neg k2, if_pos k3, if_pos (by omega), if_pos (by omega), rd_nat, w64 (x := a + before.getD i 0) (by omega) (by omega), tdivp (by omega), w64 (by omega) (by omega)]
    by_cases k4 : kind = 4
    · refine Ev.step (f := fun k => (spec_paeth.f k a (before.getD i 0) c).bind fun t => some t) (fun k => ?_) ?_
      · simp only [spec_guess.j0]
        rw [if_neg k1, if_neg k2, if_neg k3, if_pos k4, if_pos (by omega), if_pos (by omega), rd_nat]
      · rw [ev_bind_iff hp]
        exact ev_now (by rw [if_neg k1, if_neg k2, if_neg k3, if_pos k4])
    · refine Ev.step (f := fun _ => some 0) (fun k => ?_) (ev_now (by rw [if_neg k1, if_neg k2, if_neg k3, if_neg k4]))
      simp only [spec_guess.j0]
      rw [if_neg k1, if_neg k2, if_neg k3, if_neg k4]
  unfold spec_guess.f guessP
  by_cases c : s ≤ i
  · have e : wrap64 ((i : Int) - (s : Int)) = ((i - s : Nat) : Int) := by rw [w64 (by omega) (by omega)]; omega
    have := hr c
    rw [e, if_pos c, if_pos c]
    refine ev_pos (by omega) (ev_pos (by omega) (ev_pos (by omega) (ev_pos (by omega) ?_)))
    rw [rd_nat, rd_nat]
    exact hj _ _ (br _) (bb _)
  · rw [if_neg c, if_neg c]
    exact ev_neg (by omega) (hj 0 0 (by omega) (by omega))
theorem size_eq (x : Int) (h : -100000 ≤ x ∧ x ≤ 100000) : impl_size.f x = some (abv x) := by
  unfold impl_size.f abv
  rw [w64 (by omega) (by omega)]
  by_cases c : x < 0
  · rw [if_pos c, mx_r (by omega)]
  · rw [if_neg c, mx_l (by omega)]
theorem implPred_ev (kind a b c : Int) (ha : 0 ≤ a ∧ a ≤ 255) (hb : 0 ≤ b ∧ b ≤ 255) (hc : 0 ≤ c ∧ c ≤ 255) : Ev (fun k => impl_predicted.j0 k kind a b c) (predP kind a b c) := by
  unfold predP
  by_cases k1 : kind = 1
  · refine Ev.step (f := fun _ => some a) (fun k => ?_) (ev_now (by rw [if_pos k1]))
    simp only [impl_predicted.j0]
    rw [if_pos k1]
  by_cases k2 : kind = 2
  · refine Ev.step (f := fun _ => some b) (fun k => ?_) (ev_now (by rw [if_neg k1, if_pos k2]))
    simp only [impl_predicted.j0]
    rw [if_neg k1, if_pos k2]
  by_cases k3 : kind = 3
  · refine Ev.step (f := fun _ => some ((a + b) / 2)) (fun k => ?_) (ev_now (by rw [if_neg k1, if_neg k2, if_pos k3]))
    simp only [impl_predicted.j0]
    rw [if_neg k1, if_neg k2, if_pos k3, w64 (x := a + b) (by omega) (by omega), tdivp (by omega), w64 (by omega) (by omega)]
  by_cases k4 : kind = 4
  · rw [if_neg k1, if_neg k2, if_neg k3, if_pos k4]
    refine Ev.step (f := fun k => impl_predicted.l0 k a b c a [b, c] 2 0) (fun k => ?_) ?_
    · simp only [impl_predicted.j0]
      rw [if_neg k1, if_neg k2, if_neg k3, if_pos k4]
      rfl
    have hround : ∀ (best n : Int) (i : Int) (hn : rd [b, c] i = n) (h0 : 0 ≤ i) (h2 : i < 2) (h3 : 0 ≤ best ∧ best ≤ 255) (h4 : 0 ≤ n ∧ n ≤ 255) (r : Int),
        Ev (fun k => impl_predicted.l0 k a b c (if abv (n - a - b + c) < abv (best - a - b + c) then n else best) [b, c] 2 (i + 1)) r → Ev (fun k => impl_predicted.l0 k a b c best [b, c] 2 i) r := by
      intro best n i hn h0 h2 h3 h4 r h
      refine Ev.step (fun k => ?_) h
      simp only [impl_predicted.l0]
      rw [if_pos h2, if_pos h0, if_pos (show i < (([b, c] : List Int).length : Int) by simpa using h2), hn]
      rw [w64 (x := n - a) (by omega) (by omega), w64 (x := n - a - b) (by omega) (by omega), w64 (x := n - a - b + c) (by omega) (by omega)]
      rw [w64 (x := best - a) (by omega) (by omega), w64 (x := best - a - b) (by omega) (by omega), w64 (x := best - a - b + c) (by omega) (by omega)]
      rw [size_eq _ (by omega), size_eq _ (by omega), w64 (x := i + 1) (by omega) (by omega)]
      simp only [Option.bind_some]
      split <;> rfl
    refine hround a b 0 rfl (by omega) (by omega) ha hb _ ?_
    refine hround _ c 1 rfl (by omega) (by omega) (by split <;> omega) hc _ ?_
    refine Ev.step (f := fun _ => some (paethP a b c)) (fun k => ?_) (Ev.now _)
    simp only [impl_predicted.l0]
    rw [if_neg (by decide)]
    congr 1
    have eA : abv (a - a - b + c) = abv (a + b - c - a) := abv_neg _ _ (by omega)
    have eB : abv (b - a - b + c) = abv (a + b - c - b) := abv_neg _ _ (by omega)
    have eC : abv (c - a - b + c) = abv (a + b - c - c) := abv_neg _ _ (by omega)
    rw [eA, eB, eC]
    unfold paethP
    by_cases q1 : abv (a + b - c - b) < abv (a + b - c - a)
    · rw [if_pos q1, eB]
      generalize abv (a + b - c - a) = A at q1 ⊢
      generalize abv (a + b - c - b) = B at q1 ⊢
      generalize abv (a + b - c - c) = C
      have q3 : ¬ (A ≤ B ∧ A ≤ C) := fun h => by omega
      by_cases q2 : C < B
      · rw [if_pos q2, if_neg q3, if_neg (by omega)]
      · rw [if_neg q2, if_neg q3, if_pos (by omega)]
    · rw [if_neg q1, eA]
      generalize abv (a + b - c - a) = A at q1 ⊢
      generalize abv (a + b - c - b) = B at q1 ⊢
      generalize abv (a + b - c - c) = C
      by_cases q2 : C < A
      · rw [if_pos q2, if_neg (show ¬ (A ≤ B ∧ A ≤ C) from fun h => by omega), if_neg (by omega)]
      · rw [if_neg q2, if_pos ⟨by omega, by omega⟩]
  · refine Ev.step (f := fun _ => some 0) (fun k => ?_) (ev_now (by rw [if_neg k1, if_neg k2, if_neg k3, if_neg k4]))
    simp only [impl_predicted.j0]
    rw [if_neg k1, if_neg k2, if_neg k3, if_neg k4]
theorem implGuess_ev (kind : Int) (row before : List Int) (s i : Nat) (h1 : 1 ≤ s) (h4 : s ≤ 4) (hi : i < before.length) (hl : before.length ≤ 64) (hr : s ≤ i → i - s < row.length) (br : byt row) (bb : byt before) :
    Ev (fun k => impl_predicted.f k kind row before (s : Int) (i : Int)) (guessP kind row before s i) := by
  unfold impl_predicted.f guessP
  refine ev_pos (by omega) (ev_pos (by omega) ?_)
  by_cases c : s ≤ i
  · have e : wrap64 ((i : Int) - (s : Int)) = ((i - s : Nat) : Int) := by rw [w64 (by omega) (by omega)]; omega
    have := hr c
    rw [e, if_pos c, if_pos c]
    refine ev_pos (by omega) (ev_pos (by omega) (ev_pos (by omega) (ev_pos (by omega) ?_)))
    rw [rd_nat, rd_nat, rd_nat]
    exact implPred_ev kind _ _ _ (br _) (bb _) (bb _)
  · rw [if_neg c, if_neg c]
    refine ev_neg (by omega) ?_
    rw [rd_nat]
    exact implPred_ev kind _ _ _ (by omega) (bb _) (by omega)

/-! ### Rows -/
def filt (kind : Int) (l before : List Int) (s n : Nat) : List Int := (List.range n).map fun i => (l.getD i 0 - guessP kind l before s i + 256) % 256
theorem filt_succ (kind : Int) (l before : List Int) (s n : Nat) : filt kind l before s (n + 1) = filt kind l before s n ++ [(l.getD n 0 - guessP kind l before s n + 256) % 256] := by simp [filt, List.range_succ]
theorem filt_length (kind : Int) (l before : List Int) (s n : Nat) : (filt kind l before s n).length = n := by simp [filt]
theorem filt_get (kind : Int) (l before : List Int) (s n i : Nat) (h : i < n) : (filt kind l before s n).getD i 0 = (l.getD i 0 - guessP kind l before s i + 256) % 256 := by simp [filt, h]
theorem filt_byt (kind : Int) (l before : List Int) (s n : Nat) : ∀ x ∈ filt kind l before s n, 0 ≤ x ∧ x ≤ 255 := by
  intro x hx
  unfold filt at hx
  obtain ⟨i, _, rfl⟩ := List.mem_map.1 hx
  omega
def unf (kind : Int) (l before : List Int) (s : Nat) : Nat → List Int
  | 0 => []
  | n + 1 => unf kind l before s n ++ [(l.getD n 0 + guessP kind (unf kind l before s n) before s n) % 256]
theorem unf_length (kind : Int) (l before : List Int) (s n : Nat) : (unf kind l before s n).length = n := by
  induction n with
  | zero => rfl
  | succ n ih => simp [unf, ih]
theorem unf_byt (kind : Int) (l before : List Int) (s n : Nat) : ∀ x ∈ unf kind l before s n, 0 ≤ x ∧ x ≤ 255 := by
  induction n with
  | zero => intro x hx; simp [unf] at hx
  | succ n ih =>
    intro x hx
    simp only [unf, List.mem_append, List.mem_singleton] at hx
    rcases hx with hx | rfl
    · exact ih x hx
    · omega
/-- The guess looks at what is earlier alone. -/
theorem guessP_pre (kind : Int) (row row' before : List Int) (s i : Nat) (h1 : 1 ≤ s) (h : ∀ j, j < i → row.getD j 0 = row'.getD j 0) : guessP kind row before s i = guessP kind row' before s i := by
  unfold guessP
  by_cases c : s ≤ i
  · rw [if_pos c, if_pos c, if_pos c, h (i - s) (by omega)]
  · rw [if_neg c, if_neg c, if_neg c]
structure RowsOk (l before : List Int) (s : Nat) : Prop where
  len : l.length ≤ 64
  same : before.length = l.length
  lo : 1 ≤ s
  hi : s ≤ 4
  bl : byt l
  bb : byt before
theorem specFilt_ev {l before : List Int} {s : Nat} (h : RowsOk l before s) (kind : Int) : Ev (fun k => spec_filterRow.f k kind l before (s : Int)) (filt kind l before s l.length) := by
  have hlen := h.len
  have hsame := h.same
  unfold spec_filterRow.f
  refine ev_for (fun k (o : List Int) i => spec_filterRow.l0 k kind l before (s : Int) o (i : Int)) l.length (fun i => filt kind l before s i) (fun i hi r hr => ?_) _ ?_
  · have hg := specGuess_ev kind l before s i h.lo h.hi (by omega) (by omega) (fun c => by omega) h.bl h.bb
    have gb := guessP_byte kind h.bl h.bb s i
    have lb := h.bl i
    refine Ev.step (f := fun k => (spec_guess.f k kind l before (s : Int) (i : Int)).bind fun t => if (filt kind l before s i).length < 17592186044416 then spec_filterRow.l0 k kind l before (s : Int) (filt kind l before s i ++ [Int.tmod (wrap64 (wrap64 (rd l (i : Int) - t) + 256)) 256]) (wrap64 ((i : Int) + 1)) else none) (fun k => ?_) ?_
    · simp only [spec_filterRow.l0]
      rw [if_pos (by omega), if_pos (by omega)]
    · rw [ev_bind_iff hg]
      refine ev_pos (by rw [filt_length]; omega) ?_
      rw [rd_nat, w64 (x := l.getD i 0 - guessP kind l before s i) (by omega) (by omega), w64 (x := l.getD i 0 - guessP kind l before s i + 256) (by omega) (by omega), tmodp (by omega), w64 (x := (i : Int) + 1) (by omega) (by omega), ← filt_succ]
      exact hr
  · refine Ev.step (f := fun _ => some (filt kind l before s l.length)) (fun k => ?_) (Ev.now _)
    simp only [spec_filterRow.l0]
    rw [if_neg (by omega)]
theorem implFilt_ev {l before : List Int} {s : Nat} (h : RowsOk l before s) (kind : Int) : Ev (fun k => impl_filterRow.f k kind l before (s : Int)) (filt kind l before s l.length) := by
  have hlen := h.len
  have hsame := h.same
  unfold impl_filterRow.f
  refine ev_for (fun k (o : List Int) i => impl_filterRow.l0 k kind l before (s : Int) o l (l.length : Int) (i : Int)) l.length (fun i => filt kind l before s i) (fun i hi r hr => ?_) _ ?_
  · have hg := implGuess_ev kind l before s i h.lo h.hi (by omega) (by omega) (fun c => by omega) h.bl h.bb
    have gb := guessP_byte kind h.bl h.bb s i
    have lb := h.bl i
    refine Ev.step (f := fun k => (impl_predicted.f k kind l before (s : Int) (i : Int)).bind fun t => if (filt kind l before s i).length < 17592186044416 then impl_filterRow.l0 k kind l before (s : Int) (filt kind l before s i ++ [Int.tmod (wrap64 (wrap64 (rd l (i : Int) - t) + 256)) 256]) l (l.length : Int) (wrap64 ((i : Int) + 1)) else none) (fun k => ?_) ?_
    · simp only [impl_filterRow.l0]
      rw [if_pos (by omega), if_pos (by omega), if_pos (by omega)]
    · rw [ev_bind_iff hg]
      refine ev_pos (by rw [filt_length]; omega) ?_
      rw [rd_nat, w64 (x := l.getD i 0 - guessP kind l before s i) (by omega) (by omega), w64 (x := l.getD i 0 - guessP kind l before s i + 256) (by omega) (by omega), tmodp (by omega), w64 (x := (i : Int) + 1) (by omega) (by omega), ← filt_succ]
      exact hr
  · refine Ev.step (f := fun _ => some (filt kind l before s l.length)) (fun k => ?_) (Ev.now _)
    simp only [impl_filterRow.l0]
    rw [if_neg (by omega)]
theorem implUnf_ev {l before : List Int} {s : Nat} (h : RowsOk l before s) (kind : Int) : Ev (fun k => impl_unfilterRow.f k kind l before (s : Int)) (unf kind l before s l.length) := by
  have hlen := h.len
  have hsame := h.same
  unfold impl_unfilterRow.f
  refine ev_for (fun k (o : List Int) i => impl_unfilterRow.l0 k kind before (s : Int) o l (l.length : Int) (i : Int)) l.length (fun i => unf kind l before s i) (fun i hi r hr => ?_) _ ?_
  · have bu := byt_mem (unf_byt kind l before s i)
    have ul := unf_length kind l before s i
    have hg := implGuess_ev kind (unf kind l before s i) before s i h.lo h.hi (by omega) (by omega) (fun c => by have := h.lo; omega) bu h.bb
    have gb := guessP_byte kind bu h.bb s i
    have lb := h.bl i
    refine Ev.step (f := fun k => (impl_predicted.f k kind (unf kind l before s i) before (s : Int) (i : Int)).bind fun t => if (unf kind l before s i).length < 17592186044416 then impl_unfilterRow.l0 k kind before (s : Int) (unf kind l before s i ++ [Int.tmod (wrap64 (rd l (i : Int) + t)) 256]) l (l.length : Int) (wrap64 ((i : Int) + 1)) else none) (fun k => ?_) ?_
    · simp only [impl_unfilterRow.l0]
      rw [if_pos (by omega), if_pos (by omega), if_pos (by omega)]
    · rw [ev_bind_iff hg]
      refine ev_pos (by omega) ?_
      rw [rd_nat, w64 (x := l.getD i 0 + guessP kind (unf kind l before s i) before s i) (by omega) (by omega), tmodp (by omega), w64 (x := (i : Int) + 1) (by omega) (by omega)]
      exact hr
  · refine Ev.step (f := fun _ => some (unf kind l before s l.length)) (fun k => ?_) (Ev.now _)
    simp only [impl_unfilterRow.l0]
    rw [if_neg (by omega)]
theorem unf_fill (kind : Int) (l before : List Int) (s i n : Nat) (hi : i < n) (v : Int) : (unf kind l before s i ++ List.replicate (n - i) 0).set i v = unf kind l before s i ++ [v] ++ List.replicate (n - (i + 1)) 0 := by
  have ul := unf_length kind l before s i
  rw [List.set_append_right _ _ (by omega), ul, Nat.sub_self, show n - i = n - (i + 1) + 1 by omega, List.replicate_succ, List.set_cons_zero]
  simp
theorem specUnf_ev {l before : List Int} {s : Nat} (h : RowsOk l before s) (kind : Int) : Ev (fun k => spec_unfilterRow.f k kind l before (s : Int)) (unf kind l before s l.length) := by
  have hlen := h.len
  have hsame := h.same
  unfold spec_unfilterRow.f
  refine ev_pos (by omega) (ev_pos (by omega) ?_)
  simp only [Int.toNat_natCast]
  refine ev_for (fun k (o : List Int) i => spec_unfilterRow.l0 k kind l before (s : Int) o (i : Int)) l.length (fun i => unf kind l before s i ++ List.replicate (l.length - i) 0) (fun i hi r hr => ?_) _ ?_
  · have ul := unf_length kind l before s i
    have bu : byt (unf kind l before s i ++ List.replicate (l.length - i) 0) := byt_mem fun x hx => by
      rcases List.mem_append.1 hx with hx | hx
      · exact unf_byt kind l before s i x hx
      · have := List.eq_of_mem_replicate hx
        omega
    have hg := specGuess_ev kind (unf kind l before s i ++ List.replicate (l.length - i) 0) before s i h.lo h.hi (by omega) (by omega) (fun c => by simp; omega) bu h.bb
    have gb := guessP_byte kind bu h.bb s i
    have lb := h.bl i
    have he : guessP kind (unf kind l before s i ++ List.replicate (l.length - i) 0) before s i = guessP kind (unf kind l before s i) before s i :=
      guessP_pre kind _ _ before s i h.lo fun j hj => by simp [List.getElem?_append_left (show j < (unf kind l before s i).length by omega)]
    rw [he] at hg gb
    refine Ev.step (f := fun k => (spec_guess.f k kind (unf kind l before s i ++ List.replicate (l.length - i) 0) before (s : Int) (i : Int)).bind fun t => if (i : Int) < ((unf kind l before s i ++ List.replicate (l.length - i) 0).length : Int) then spec_unfilterRow.l0 k kind l before (s : Int) ((unf kind l before s i ++ List.replicate (l.length - i) 0).set (i : Int).toNat (Int.tmod (wrap64 (rd l (i : Int) + t)) 256)) (wrap64 ((i : Int) + 1)) else none) (fun k => ?_) ?_
    · simp only [spec_unfilterRow.l0]
      rw [if_pos (by omega), if_pos (by omega)]
    · rw [ev_bind_iff hg]
      refine ev_pos (by simp; omega) ?_
      rw [rd_nat, w64 (x := l.getD i 0 + guessP kind (unf kind l before s i) before s i) (by omega) (by omega), tmodp (by omega), w64 (x := (i : Int) + 1) (by omega) (by omega), Int.toNat_natCast, unf_fill _ _ _ _ _ _ hi]
      exact hr
  · refine Ev.step (f := fun _ => some (unf kind l before s l.length)) (fun k => ?_) (Ev.now _)
    simp only [spec_unfilterRow.l0]
    rw [if_neg (by simp)]
    simp

/-! ### The whole functions -/
def okRows (l before : List Int) (s : Int) : Bool := (decide (l.length ≤ 64) && okBytes l) && ((decide (before.length ≤ 64) && okBytes before) && (decide (before.length = l.length) && (decide (1 ≤ s) && decide (s ≤ 4))))
theorem okRows_rows {l before : List Int} {s : Int} (h : okRows l before s = true) : RowsOk l before s.toNat ∧ ((s.toNat : Nat) : Int) = s := by
  unfold okRows at h
  simp only [Bool.and_eq_true, decide_eq_true_eq] at h
  obtain ⟨⟨h1, h2⟩, ⟨_, h3⟩, h4, h5, h6⟩ := h
  exact ⟨⟨h1, h4, by omega, by omega, byt_of h2, byt_of h3⟩, by omega⟩
def okKind (kind : Int) : Bool := decide (0 ≤ kind) && decide (kind ≤ 4)
def filtP (kind : Int) (l before : List Int) (s : Int) : List Int := if okKind kind = true ∧ okRows l before s = true then filt kind l before s.toNat l.length else []
def unfP (kind : Int) (l before : List Int) (s : Int) : List Int := if okKind kind = true ∧ okRows l before s = true then unf kind l before s.toNat l.length else []
theorem validRow_ev (l : List Int) (hn : l.length ≤ 2000000) : Ev (fun k => spec_validRow.f k l) (decide (l.length ≤ 64) && okBytes l) := by
  unfold spec_validRow.f
  by_cases c : (l.length : Int) ≤ 64
  · refine ev_pos c ?_
    rw [ev_bind_iff (allIn_ev l 0 255 hn)]
    refine ev_now ?_
    rw [decide_eq_true (show l.length ≤ 64 by omega)]
    rfl
  · refine ev_neg c (ev_now ?_)
    rw [decide_eq_false (show ¬ l.length ≤ 64 by omega)]
    rfl
theorem validRows_ev (l before : List Int) (s : Int) (h1 : l.length ≤ 2000000) (h2 : before.length ≤ 2000000) : Ev (fun k => spec_validRows.f k l before s) (okRows l before s) := by
  unfold spec_validRows.f okRows
  rw [ev_bind_iff (validRow_ev l h1)]
  by_cases c1 : (decide (l.length ≤ 64) && okBytes l) = true
  · refine ev_pos c1 ?_
    rw [ev_bind_iff (validRow_ev before h2), c1]
    by_cases c2 : (decide (before.length ≤ 64) && okBytes before) = true
    · refine ev_pos c2 ?_
      rw [c2]
      by_cases c3 : (before.length : Int) = (l.length : Int)
      · refine ev_pos c3 ?_
        rw [inRange_eq]
        refine ev_now ?_
        rw [decide_eq_true (show before.length = l.length by omega)]
        rfl
      · refine ev_neg c3 (ev_now ?_)
        rw [decide_eq_false (show ¬ before.length = l.length by omega)]
        rfl
    · refine ev_neg c2 (ev_now ?_)
      rw [Bool.eq_false_iff.2 c2]
      rfl
  · refine ev_neg c1 (ev_now ?_)
    rw [Bool.eq_false_iff.2 c1]
    rfl
theorem isFiltering_eq (kind : Int) (l before : List Int) (s : Int) : impl_isFiltering.f kind l before s = some (okKind kind && okRows l before s) := by
  unfold impl_isFiltering.f okKind okRows
  rw [areBytes_eq, areBytes_eq]
  simp only [Option.bind_some]
  by_cases c1 : kind ≥ 0
  · rw [if_pos c1, decide_eq_true (show 0 ≤ kind from c1)]
    by_cases c2 : kind ≤ 4
    · rw [if_pos c2, decide_eq_true c2]
      by_cases c3 : (l.length : Int) ≤ 64
      · rw [if_pos c3, decide_eq_true (show l.length ≤ 64 by omega)]
        by_cases c4 : okBytes l = true
        · rw [if_pos c4, c4]
          by_cases c5 : (before.length : Int) = (l.length : Int)
          · rw [if_pos c5, decide_eq_true (show before.length = l.length by omega), decide_eq_true (show before.length ≤ 64 by omega)]
            by_cases c6 : okBytes before = true
            · rw [if_pos c6, c6]
              by_cases c7 : s ≥ 1
              · rw [if_pos c7, decide_eq_true (show 1 ≤ s from c7)]
                simp
              · rw [if_neg c7, decide_eq_false (show ¬ 1 ≤ s from c7)]
                simp
            · rw [if_neg c6, Bool.eq_false_iff.2 c6]
              simp
          · rw [if_neg c5, decide_eq_false (show ¬ before.length = l.length by omega)]
            simp
        · rw [if_neg c4, Bool.eq_false_iff.2 c4]
          simp
      · rw [if_neg c3, decide_eq_false (show ¬ l.length ≤ 64 by omega)]
        simp
    · rw [if_neg c2, decide_eq_false c2]
      simp
  · rw [if_neg c1, decide_eq_false (show ¬ 0 ≤ kind from c1)]
    simp
theorem specFilter_ev (kind : Int) (l before : List Int) (s : Int) (h1 : l.length ≤ 2000000) (h2 : before.length ≤ 2000000) : Ev (fun k => spec_FilterRow.f k kind l before s) (filtP kind l before s) := by
  unfold spec_FilterRow.f filtP
  rw [inRange_eq]
  simp only [Option.bind_some]
  by_cases c1 : (decide (0 ≤ kind) && decide (kind ≤ 4)) = true
  · refine ev_pos c1 ?_
    rw [ev_bind_iff (validRows_ev l before s h1 h2)]
    by_cases c2 : okRows l before s = true
    · obtain ⟨hr, hs⟩ := okRows_rows c2
      have := specFilt_ev hr kind
      rw [hs] at this
      refine ev_pos c2 ?_
      rw [ev_bind_iff this]
      exact ev_now (by rw [if_pos ⟨c1, c2⟩])
    · exact ev_neg c2 (ev_now (by rw [if_neg (fun h => c2 h.2)]))
  · exact ev_neg c1 (ev_now (by rw [if_neg (fun h => c1 h.1)]))
theorem specUnfilter_ev (kind : Int) (l before : List Int) (s : Int) (h1 : l.length ≤ 2000000) (h2 : before.length ≤ 2000000) : Ev (fun k => spec_UnfilterRow.f k kind l before s) (unfP kind l before s) := by
  unfold spec_UnfilterRow.f unfP
  rw [inRange_eq]
  simp only [Option.bind_some]
  by_cases c1 : (decide (0 ≤ kind) && decide (kind ≤ 4)) = true
  · refine ev_pos c1 ?_
    rw [ev_bind_iff (validRows_ev l before s h1 h2)]
    by_cases c2 : okRows l before s = true
    · obtain ⟨hr, hs⟩ := okRows_rows c2
      have := specUnf_ev hr kind
      rw [hs] at this
      refine ev_pos c2 ?_
      rw [ev_bind_iff this]
      exact ev_now (by rw [if_pos ⟨c1, c2⟩])
    · exact ev_neg c2 (ev_now (by rw [if_neg (fun h => c2 h.2)]))
  · exact ev_neg c1 (ev_now (by rw [if_neg (fun h => c1 h.1)]))
theorem implFilter_ev (kind : Int) (l before : List Int) (s : Int) : Ev (fun k => impl_FilterRow.f k kind l before s) (filtP kind l before s) := by
  unfold impl_FilterRow.f filtP
  rw [isFiltering_eq]
  simp only [Option.bind_some]
  by_cases c : (okKind kind && okRows l before s) = true
  · have c' := c
    rw [Bool.and_eq_true] at c'
    obtain ⟨hr, hs⟩ := okRows_rows c'.2
    have := implFilt_ev hr kind
    rw [hs] at this
    refine ev_pos c ?_
    rw [ev_bind_iff this]
    exact ev_now (by rw [if_pos c'])
  · exact ev_neg c (ev_now (by rw [if_neg (fun h => c (by rw [h.1, h.2]; rfl))]))
theorem implUnfilter_ev (kind : Int) (l before : List Int) (s : Int) : Ev (fun k => impl_UnfilterRow.f k kind l before s) (unfP kind l before s) := by
  unfold impl_UnfilterRow.f unfP
  rw [isFiltering_eq]
  simp only [Option.bind_some]
  by_cases c : (okKind kind && okRows l before s) = true
  · have c' := c
    rw [Bool.and_eq_true] at c'
    obtain ⟨hr, hs⟩ := okRows_rows c'.2
    have := implUnf_ev hr kind
    rw [hs] at this
    refine ev_pos c ?_
    rw [ev_bind_iff this]
    exact ev_now (by rw [if_pos c'])
  · exact ev_neg c (ev_now (by rw [if_neg (fun h => c (by rw [h.1, h.2]; rfl))]))
theorem filtP_length (kind : Int) (l before : List Int) (s : Int) : (filtP kind l before s).length ≤ 64 := by
  unfold filtP
  split
  · rename_i h
    rw [filt_length]
    exact (okRows_rows h.2).1.len
  · simp
theorem unfP_length (kind : Int) (l before : List Int) (s : Int) : (unfP kind l before s).length ≤ 64 := by
  unfold unfP
  split
  · rename_i h
    rw [unf_length]
    exact (okRows_rows h.2).1.len
  · simp
/-! ### What the laws want -/
theorem okBytes_of {l : List Int} (h : ∀ x ∈ l, 0 ≤ x ∧ x ≤ 255) : okBytes l = true := by
  unfold okBytes
  simp only [List.all_eq_true, Bool.and_eq_true, decide_eq_true_eq]
  exact h
theorem okRows_with {l before l' : List Int} {s : Int} (h : okRows l before s = true) (hl : l'.length = l.length) (hb : ∀ x ∈ l', 0 ≤ x ∧ x ≤ 255) : okRows l' before s = true := by
  unfold okRows at h ⊢
  rw [hl, okBytes_of hb]
  simp only [Bool.and_eq_true, decide_eq_true_eq] at h ⊢
  exact ⟨⟨h.1.1, trivial⟩, h.2⟩
theorem unf_filt {l before : List Int} {s : Nat} (h : RowsOk l before s) (kind : Int) : ∀ n, n ≤ l.length → unf kind (filt kind l before s l.length) before s n = l.take n := by
  intro n
  induction n with
  | zero => intro _; simp [unf]
  | succ n ih =>
    intro hn
    have hlt : n < l.length := by omega
    simp only [unf]
    rw [ih (by omega), filt_get _ _ _ _ _ _ hlt]
    have he : guessP kind (l.take n) before s n = guessP kind l before s n := guessP_pre kind _ _ before s n h.lo fun j hj => by simp [hj]
    rw [he]
    have gb := guessP_byte kind h.bl h.bb s n
    have lb := h.bl n
    have e : ((l.getD n 0 - guessP kind l before s n + 256) % 256 + guessP kind l before s n) % 256 = l.getD n 0 := by omega
    rw [e, List.take_succ_eq_append_getElem hlt]
    simp [hlt]
theorem unf_mono (kind : Int) (l before : List Int) (s : Nat) (n : Nat) : ∀ d, (unf kind l before s (n + d)).take n = unf kind l before s n := by
  intro d
  induction d with
  | zero => rw [Nat.add_zero, List.take_of_length_le (by rw [unf_length]; omega)]
  | succ d ih =>
    rw [← Nat.add_assoc]
    simp only [unf]
    rw [List.take_append_of_le_length (by rw [unf_length]; omega)]
    exact ih
theorem unf_get (kind : Int) (l before : List Int) (s n i : Nat) (h : i < n) : (unf kind l before s n).getD i 0 = (l.getD i 0 + guessP kind (unf kind l before s i) before s i) % 256 := by
  have h1 := unf_mono kind l before s (i + 1) (n - (i + 1))
  rw [show i + 1 + (n - (i + 1)) = n by omega] at h1
  have h2 : (unf kind l before s n).getD i 0 = (unf kind l before s (i + 1)).getD i 0 := by
    rw [← h1]
    simp
  rw [h2]
  simp only [unf]
  have ul := unf_length kind l before s i
  rw [List.getD_eq_getElem?_getD, List.getElem?_append_right (by omega), ul]
  simp
theorem unf_pre (kind : Int) (l before : List Int) (s n i j : Nat) (h : i ≤ n) (hj : j < i) : (unf kind l before s n).getD j 0 = (unf kind l before s i).getD j 0 := by
  rw [unf_get _ _ _ _ _ _ (by omega), unf_get _ _ _ _ _ _ hj]
theorem filt_unf {l before : List Int} {s : Nat} (h : RowsOk l before s) (kind : Int) : filt kind (unf kind l before s l.length) before s l.length = l := by
  refine getD_ext (filt_length _ _ _ _ _) fun i hi => ?_
  rw [filt_length] at hi
  rw [filt_get _ _ _ _ _ _ hi, unf_get _ _ _ _ _ _ hi]
  have he : guessP kind (unf kind l before s l.length) before s i = guessP kind (unf kind l before s i) before s i := guessP_pre kind _ _ before s i h.lo fun j hj => unf_pre _ _ _ _ _ _ _ (by omega) hj
  rw [he]
  have gb := guessP_byte kind (byt_mem (unf_byt kind l before s i)) h.bb s i
  have lb := h.bl i
  omega

end Go.Proofs.Ytjenogaceloiiaa.B
