/- Which filter is best, in plain numbers. No conditions. -/
import Derived.Test.YtjenogaceloiiaaFilter
import Derived.Test.YtjenogaceloiiaaQ11
namespace Go.Proofs.Ytjenogaceloiiaa.B
open Go.RowKit Go.Proofs.Ytjenogaceloiiaa.Q Go.Proofs.YtjenogaceloiiaaW.PrintWords Go.Proofs.YtjenogaceloiiaaW.PrintLast Go.Proofs.YtjenogaceloiiaaW.PrintMore
set_option linter.unusedVariables false

def costTo (l : List Int) : Nat → Int
  | 0 => 0
  | i + 1 => costTo l i + mn (l.getD i 0) (256 - l.getD i 0)
theorem mn_byte (x : Int) (h : 0 ≤ x ∧ x ≤ 255) : 0 ≤ mn x (256 - x) ∧ mn x (256 - x) ≤ 256 := by
  unfold mn
  split <;> omega
theorem costTo_bounds {l : List Int} (h : byt l) (i : Nat) : 0 ≤ costTo l i ∧ costTo l i ≤ 256 * i := by
  induction i with
  | zero => simp [costTo]
  | succ i ih =>
    have := mn_byte _ (h i)
    simp only [costTo]
    omega
theorem specCost_ev (l : List Int) (hb : byt l) (hn : l.length ≤ 64) : Ev (fun k => spec_filterCost.f k l) (costTo l l.length) := by
  unfold spec_filterCost.f
  refine ev_for (fun k (s : Int) i => spec_filterCost.l0 k l s (i : Int)) l.length (fun i => costTo l i) (fun i hi r hr => ?_) _ ?_
  · refine Ev.step (fun k => ?_) hr
    have h1 := costTo_bounds hb i
    have h2 := mn_byte _ (hb i)
    have h3 := hb i
    simp only [spec_filterCost.l0]
    rw [if_pos (by omega), if_pos (by omega), rd_nat, w64 (x := 256 - l.getD i 0) (by omega) (by omega), w64 (x := costTo l i + mn (l.getD i 0) (256 - l.getD i 0)) (by omega) (by omega), w64 (x := (i : Int) + 1) (by omega) (by omega)]
    rfl
  · refine Ev.step (f := fun _ => some (costTo l l.length)) (fun k => ?_) (Ev.now _)
    simp only [spec_filterCost.l0]
    rw [if_neg (by omega)]
def cK (l before : List Int) (s : Nat) (kind : Int) : Int := costTo (filt kind l before s l.length) l.length
theorem cK_bounds (l before : List Int) (s : Nat) (kind : Int) : 0 ≤ cK l before s kind := (costTo_bounds (byt_mem (filt_byt _ _ _ _ _)) _).1
def pickB (c : Int → Int) (b kind : Int) : Int := if c kind < c b then kind else b
def bestP (c : Int → Int) : Int := pickB c (pickB c (pickB c (pickB c 0 1) 2) 3) 4
theorem specBest_step {l before : List Int} {s : Nat} (h : RowsOk l before s) (b kind : Int) (h0 : 0 ≤ kind) (h4 : kind ≤ 4) (r : Int) (hr : Ev (fun k => spec_bestFilter.l0 k l before (s : Int) (pickB (cK l before s) b kind) (kind + 1)) r) :
    Ev (fun k => spec_bestFilter.l0 k l before (s : Int) b kind) r := by
  have hlen := h.len
  have hc : ∀ z, Ev (fun k => spec_filterCost.f k (filt z l before s l.length)) (cK l before s z) := fun z => by
    have := specCost_ev (filt z l before s l.length) (byt_mem (filt_byt _ _ _ _ _)) (by rw [filt_length]; exact hlen)
    rw [filt_length] at this
    exact this
  refine Ev.step (f := fun k => (spec_filterRow.f k kind l before (s : Int)).bind fun t278 => (spec_filterCost.f k t278).bind fun t281 => (spec_filterRow.f k b l before (s : Int)).bind fun t282 => (spec_filterCost.f k t282).bind fun t285 => if t281 < t285 then spec_bestFilter.l0 k l before (s : Int) kind (wrap64 (kind + 1)) else spec_bestFilter.l0 k l before (s : Int) b (wrap64 (kind + 1))) (fun k => ?_) ?_
  · simp only [spec_bestFilter.l0]
    rw [if_pos h4]
  · rw [ev_bind_iff (specFilt_ev h kind), ev_bind_iff (hc kind), ev_bind_iff (specFilt_ev h b), ev_bind_iff (hc b), w64 (by omega) (by omega)]
    unfold pickB at hr
    by_cases c : cK l before s kind < cK l before s b
    · rw [if_pos c] at hr
      exact ev_pos c hr
    · rw [if_neg c] at hr
      exact ev_neg c hr
theorem specBest_ev {l before : List Int} {s : Nat} (h : RowsOk l before s) : Ev (fun k => spec_bestFilter.f k l before (s : Int)) (bestP (cK l before s)) := by
  unfold spec_bestFilter.f
  refine specBest_step h 0 1 (by omega) (by omega) _ ?_
  refine specBest_step h _ (1 + 1) (by omega) (by omega) _ ?_
  refine specBest_step h _ (1 + 1 + 1) (by omega) (by omega) _ ?_
  refine specBest_step h _ (1 + 1 + 1 + 1) (by omega) (by omega) _ ?_
  refine Ev.step (f := fun _ => some (bestP (cK l before s))) (fun k => ?_) (Ev.now _)
  simp only [spec_bestFilter.l0]
  rw [if_neg (by decide)]
  rfl
theorem implBest_sum {l before : List Int} {s : Nat} (t : List Int) (ht : byt t) (hn : t.length ≤ 64) (b least kind : Int) (r : Int)
    (hr : Ev (fun k => impl_bestFilter.l1 k l before (s : Int) b least kind (costTo t t.length) t (t.length : Int) (t.length : Int)) r) : Ev (fun k => impl_bestFilter.l1 k l before (s : Int) b least kind 0 t (t.length : Int) 0) r := by
  refine ev_for (fun k (z : Int) i => impl_bestFilter.l1 k l before (s : Int) b least kind z t (t.length : Int) (i : Int)) t.length (fun i => costTo t i) (fun i hi r hr => ?_) _ hr
  refine Ev.step (fun k => ?_) hr
  have h1 := costTo_bounds ht i
  have h2 := mn_byte _ (ht i)
  have h3 := ht i
  simp only [impl_bestFilter.l1]
  rw [if_pos (by omega), if_pos (by omega), if_pos (by omega), rd_nat, w64 (x := 256 - t.getD i 0) (by omega) (by omega), w64 (x := costTo t i + mn (t.getD i 0) (256 - t.getD i 0)) (by omega) (by omega), w64 (x := (i : Int) + 1) (by omega) (by omega)]
  rfl
theorem implBest_step {l before : List Int} {s : Nat} (h : RowsOk l before s) (b least kind b' least' : Int) (h0 : 0 ≤ kind) (h4 : kind ≤ 4)
    (hb : (least < 0 ∨ cK l before s kind < least) → b' = kind ∧ least' = cK l before s kind) (hb2 : ¬ (least < 0 ∨ cK l before s kind < least) → b' = b ∧ least' = least)
    (r : Int) (hr : Ev (fun k => impl_bestFilter.l0 k l before (s : Int) b' least' (kind + 1)) r) : Ev (fun k => impl_bestFilter.l0 k l before (s : Int) b least kind) r := by
  have hlen := h.len
  refine Ev.step (f := fun k => (impl_filterRow.f k kind l before (s : Int)).bind fun t => impl_bestFilter.l1 k l before (s : Int) b least kind 0 t (t.length : Int) 0) (fun k => ?_) ?_
  · simp only [impl_bestFilter.l0]
    rw [if_pos h4]
  rw [ev_bind_iff (implFilt_ev h kind)]
  refine implBest_sum _ (byt_mem (filt_byt _ _ _ _ _)) (by rw [filt_length]; exact hlen) b least kind r ?_
  rw [filt_length]
  change Ev (fun k => impl_bestFilter.l1 k l before (s : Int) b least kind (cK l before s kind) _ _ _) r
  have hlt : ¬ ((l.length : Int) < (l.length : Int)) := by omega
  have hw : wrap64 (kind + 1) = kind + 1 := w64 (by omega) (by omega)
  by_cases c1 : least < 0
  · obtain ⟨e1, e2⟩ := hb (.inl c1)
    subst e1 e2
    refine Ev.step (fun k => ?_) hr
    simp only [impl_bestFilter.l1]
    rw [if_neg hlt, if_pos c1, hw]
  by_cases c2 : cK l before s kind < least
  · obtain ⟨e1, e2⟩ := hb (.inr c2)
    subst e1 e2
    refine Ev.step (fun k => ?_) hr
    simp only [impl_bestFilter.l1]
    rw [if_neg hlt, if_neg c1, if_pos c2, hw]
  · obtain ⟨e1, e2⟩ := hb2 (by omega)
    subst e1 e2
    refine Ev.step (fun k => ?_) hr
    simp only [impl_bestFilter.l1]
    rw [if_neg hlt, if_neg c1, if_neg c2, hw]
theorem implBest_pick {l before : List Int} {s : Nat} (h : RowsOk l before s) (b kind : Int) (h0 : 0 ≤ kind) (h4 : kind ≤ 4) (r : Int)
    (hr : Ev (fun k => impl_bestFilter.l0 k l before (s : Int) (pickB (cK l before s) b kind) (cK l before s (pickB (cK l before s) b kind)) (kind + 1)) r) :
    Ev (fun k => impl_bestFilter.l0 k l before (s : Int) b (cK l before s b) kind) r := by
  have hp := cK_bounds l before s b
  refine implBest_step h b _ kind _ _ h0 h4 (fun c => ?_) (fun c => ?_) r hr
  · unfold pickB
    rw [if_pos (by omega)]
    exact ⟨rfl, rfl⟩
  · unfold pickB
    rw [if_neg (by omega)]
    exact ⟨rfl, rfl⟩
theorem implBest_ev {l before : List Int} {s : Nat} (h : RowsOk l before s) : Ev (fun k => impl_bestFilter.f k l before (s : Int)) (bestP (cK l before s)) := by
  unfold impl_bestFilter.f
  refine implBest_step h 0 (-1) 0 0 (cK l before s 0) (by omega) (by omega) (fun _ => ⟨rfl, rfl⟩) (fun c => absurd (.inl (by omega)) c) _ ?_
  refine implBest_pick h 0 (0 + 1) (by omega) (by omega) _ ?_
  refine implBest_pick h _ (0 + 1 + 1) (by omega) (by omega) _ ?_
  refine implBest_pick h _ (0 + 1 + 1 + 1) (by omega) (by omega) _ ?_
  refine implBest_pick h _ (0 + 1 + 1 + 1 + 1) (by omega) (by omega) _ ?_
  refine Ev.step (f := fun _ => some (bestP (cK l before s))) (fun k => ?_) (Ev.now _)
  simp only [impl_bestFilter.l0]
  rw [if_neg (by decide)]
  rfl
def bestFP (l before : List Int) (s : Int) : Int := if okRows l before s = true then bestP (cK l before s.toNat) else -1
theorem specBestFilter_ev (l before : List Int) (s : Int) (h1 : l.length ≤ 2000000) (h2 : before.length ≤ 2000000) : Ev (fun k => spec_BestFilter.f k l before s) (bestFP l before s) := by
  unfold spec_BestFilter.f bestFP
  rw [ev_bind_iff (validRows_ev l before s h1 h2)]
  by_cases c2 : okRows l before s = true
  · obtain ⟨hr, hs⟩ := okRows_rows c2
    have := specBest_ev hr
    rw [hs] at this
    refine ev_pos c2 ?_
    rw [ev_bind_iff this]
    exact ev_now (by rw [if_pos c2])
  · exact ev_neg c2 (ev_now (by rw [if_neg c2]))
theorem implBestFilter_ev (l before : List Int) (s : Int) : Ev (fun k => impl_BestFilter.f k l before s) (bestFP l before s) := by
  unfold impl_BestFilter.f bestFP
  rw [isFiltering_eq]
  simp only [Option.bind_some]
  rw [show okKind 0 = true by decide, Bool.true_and]
  by_cases c2 : okRows l before s = true
  · obtain ⟨hr, hs⟩ := okRows_rows c2
    have := implBest_ev hr
    rw [hs] at this
    refine ev_pos c2 ?_
    rw [ev_bind_iff this]
    exact ev_now (by rw [if_pos c2])
  · exact ev_neg c2 (ev_now (by rw [if_neg c2]))
theorem bestP_least (c : Int → Int) : 0 ≤ bestP c ∧ bestP c ≤ 4 ∧ ∀ kind, 0 ≤ kind → kind ≤ 4 → c (bestP c) ≤ c kind ∧ (c kind = c (bestP c) → bestP c ≤ kind) := by
  have h1 : 0 ≤ pickB c 0 1 ∧ pickB c 0 1 ≤ 1 ∧ ∀ kind, 0 ≤ kind → kind ≤ 1 → c (pickB c 0 1) ≤ c kind ∧ (c kind = c (pickB c 0 1) → pickB c 0 1 ≤ kind) := by
    unfold pickB
    split
    · refine ⟨by omega, by omega, fun kind a b => ?_⟩
      obtain rfl | rfl : kind = 0 ∨ kind = 1 := by omega
      · exact ⟨by omega, by omega⟩
      · exact ⟨by omega, by omega⟩
    · refine ⟨by omega, by omega, fun kind a b => ?_⟩
      obtain rfl | rfl : kind = 0 ∨ kind = 1 := by omega
      · exact ⟨by omega, by omega⟩
      · exact ⟨by omega, by omega⟩
  have step : ∀ (b n : Int), (0 ≤ b ∧ b ≤ n ∧ ∀ kind, 0 ≤ kind → kind ≤ n → c b ≤ c kind ∧ (c kind = c b → b ≤ kind)) → 0 ≤ n → (0 ≤ pickB c b (n + 1) ∧ pickB c b (n + 1) ≤ n + 1 ∧ ∀ kind, 0 ≤ kind → kind ≤ n + 1 → c (pickB c b (n + 1)) ≤ c kind ∧ (c kind = c (pickB c b (n + 1)) → pickB c b (n + 1) ≤ kind)) := by
    intro b n ⟨g1, g2, g3⟩ hn
    unfold pickB
    split
    · rename_i hlt
      refine ⟨by omega, by omega, fun kind a e => ?_⟩
      by_cases hk : kind ≤ n
      · have := g3 kind a hk
        exact ⟨by omega, by omega⟩
      · obtain rfl : kind = n + 1 := by omega
        exact ⟨by omega, by omega⟩
    · rename_i hge
      refine ⟨by omega, by omega, fun kind a e => ?_⟩
      by_cases hk : kind ≤ n
      · exact g3 kind a hk
      · obtain rfl : kind = n + 1 := by omega
        exact ⟨by omega, by omega⟩
  exact step _ 3 (step _ 2 (step _ 1 h1 (by omega)) (by omega)) (by omega)

end Go.Proofs.Ytjenogaceloiiaa.B
