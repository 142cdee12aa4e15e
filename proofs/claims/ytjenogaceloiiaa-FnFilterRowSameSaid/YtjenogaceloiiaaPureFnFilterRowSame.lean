/- Equal rows cost nothing: FilterUp of a row behind itself has zeros only, FilterNone changes nothing; at every code. -/
import Derived.Test.YtjenogaceloiiaaFilter
import Derived.Test.YtjenogaceloiiaaFilterDraw
import Derived.Test.YtjenogaceloiiaaQ19
namespace Go.Proofs.Ytjenogaceloiiaa.Pure
open Go.RowKit Go.Proofs.Ytjenogaceloiiaa.Q Go.Proofs.Ytjenogaceloiiaa.B Go.Proofs.YtjenogaceloiiaaW.PrintWords Go.Proofs.YtjenogaceloiiaaW.PrintLast Go.Proofs.YtjenogaceloiiaaW.PrintMore
set_option linter.unusedVariables false

theorem filt_up (l : List Int) (s : Nat) : filt 2 l l s l.length = List.replicate l.length 0 := by
  refine getD_ext (by rw [filt_length]; simp) fun i hi => ?_
  rw [filt_length] at hi
  rw [filt_get _ _ _ _ _ _ hi]
  simp [guessP, predP, hi]
theorem filt_none {l before : List Int} (hl : byt l) (s : Nat) : filt 0 l before s l.length = l := by
  refine getD_ext (filt_length _ _ _ _ _) fun i hi => ?_
  rw [filt_length] at hi
  rw [filt_get _ _ _ _ _ _ hi]
  have := hl i
  simp [guessP, predP]
  simp at this
  omega
theorem paeth_left (a : Int) (h : 0 ≤ a) : paethP a 0 0 = a := by
  unfold paethP abv
  repeat' split
  all_goals omega
theorem zeros_get (n i : Nat) : (List.replicate n (0 : Int)).getD i 0 = 0 := by
  by_cases h : i < n
  · simp [h]
  · exact getD_out _ _ (by simp; omega)
theorem filt_paeth {l before : List Int} (hl : byt l) (s n : Nat) : filt 4 l (List.replicate l.length 0) s n = filt 1 l before s n := by
  unfold filt
  refine List.map_congr_left fun i _ => ?_
  have : guessP 4 l (List.replicate l.length 0) s i = guessP 1 l before s i := by
    unfold guessP predP
    rw [zeros_get, zeros_get, if_neg (by decide), if_neg (by decide), if_neg (by decide), if_pos rfl, if_pos rfl]
    have e : (if s ≤ i then (0 : Int) else 0) = 0 := by split <;> rfl
    rw [e]
    exact paeth_left _ (ifz (hl _)).1
  rw [this]
theorem FnFilterRowSame : laws_FnFilterRowSame.Pure := by
  intro l _ _ hw
  refine Ev.rounds (g := fun k => laws_FnFilterRowSame.f k l) (r := true) ?_
  unfold laws_FnFilterRowSame.f
  by_cases hl : (l.length : Int) > 1048576
  · exact ev_pos hl (Ev.now _)
  refine ev_neg hl ?_
  obtain ⟨kind, u, z, s, hu, h1, h2⟩ := drawFilter_ok l hw
  have hp := filtP_length kind u z s
  rw [ev_bind_iff hu, ev_bind_iff (implFilter_ev kind u z s), ev_bind_iff (specFilter_ev kind u z s (by omega) (by omega)), ev_bind_iff (laws_equalInts_same _ (by omega))]
  refine ev_pos rfl ?_
  by_cases h0 : (((filtP kind u z s).length : Int) == 0) = true
  · dsimp only
    rw [h0]
    refine Ev.step (f := fun k => (spec_FilterRow.f k kind u z s).bind fun t => (laws_equalInts.f k (filtP kind u z s) t).bind fun x => some x) (fun k => ?_) ?_
    · simp only [laws_FnFilterRowSame.j0, if_true]
    · rw [ev_bind_iff (specFilter_ev kind u z s (by omega) (by omega)), ev_bind_iff (laws_equalInts_same _ (by omega))]
      exact Ev.now _
  · have hc : okKind kind = true ∧ okRows u z s = true := by
      by_cases c : okKind kind = true ∧ okRows u z s = true
      · exact c
      · exfalso
        apply h0
        unfold filtP
        rw [if_neg c]
        rfl
    dsimp only
    rw [Bool.eq_false_iff.2 h0]
    obtain ⟨hr, hs⟩ := okRows_rows hc.2
    have hzero : okRows u (List.replicate u.length 0) s = true := by
      have := hc.2
      unfold okRows at this ⊢
      rw [okBytes_of (l := List.replicate u.length 0) (fun x hx => by have := List.eq_of_mem_replicate hx; omega)]
      simp only [Bool.and_eq_true, decide_eq_true_eq, List.length_replicate] at this ⊢
      exact ⟨this.1, ⟨hr.len, trivial⟩, trivial, this.2.2.2⟩
    have hself : okRows u u s = true := by
      have := hc.2
      unfold okRows at this ⊢
      simp only [Bool.and_eq_true, decide_eq_true_eq] at this ⊢
      exact ⟨this.1, this.1, trivial, this.2.2.2⟩
    have a1 := implFilter_ev 2 u u s
    have e1 : filtP 2 u u s = List.replicate u.length 0 := by
      unfold filtP
      rw [if_pos ⟨by decide, hself⟩, filt_up]
    rw [e1] at a1
    have a2 := implFilter_ev 0 u z s
    have e2 : filtP 0 u z s = u := by
      unfold filtP
      rw [if_pos ⟨by decide, hc.2⟩, filt_none hr.bl]
    rw [e2] at a2
    have a3 := implFilter_ev 4 u (List.replicate u.length 0) s
    have a4 := implFilter_ev 1 u z s
    have e3 : filtP 4 u (List.replicate u.length 0) s = filtP 1 u z s := by
      unfold filtP
      rw [if_pos ⟨by decide, hzero⟩, if_pos ⟨by decide, hc.2⟩, filt_paeth (before := z) hr.bl]
    rw [e3] at a3
    have hp1 := filtP_length 1 u z s
    refine Ev.step (f := fun k => (impl_FilterRow.f k 2 u u s).bind fun t420 => if 0 ≤ (u.length : Int) then if ((u.length : Int) : Int).toNat ≤ 35184372088832 then (laws_equalInts.f k t420 (List.replicate ((u.length : Int) : Int).toNat 0)).bind fun t426 => if t426 = true then (impl_FilterRow.f k 0 u z s).bind fun t427 => (laws_equalInts.f k t427 u).bind fun t430 => if t430 = true then (impl_FilterRow.f k 4 u (List.replicate ((u.length : Int) : Int).toNat 0) s).bind fun t434 => (impl_FilterRow.f k 1 u z s).bind fun t437 => (laws_equalInts.f k t434 t437).bind fun t440 => some t440 else some false else some false else none else none) (fun k => ?_) ?_
    · simp only [laws_FnFilterRowSame.j0]
      rw [if_neg (by decide)]
    · simp only [Int.toNat_natCast]
      rw [ev_bind_iff a1]
      refine ev_pos (by omega) (ev_pos (by omega) ?_)
      rw [ev_bind_iff (laws_equalInts_same _ (by simp; omega))]
      refine ev_pos rfl ?_
      rw [ev_bind_iff a2, ev_bind_iff (laws_equalInts_same u (by omega))]
      refine ev_pos rfl ?_
      rw [ev_bind_iff a3, ev_bind_iff a4, ev_bind_iff (laws_equalInts_same _ (by omega))]
      exact Ev.now _

end Go.Proofs.Ytjenogaceloiiaa.Pure
