/- Filters can be undone: UnfilterRow of FilterRow is the row; at every code. -/
import Derived.Test.YtjenogaceloiiaaFilter
import Derived.Test.YtjenogaceloiiaaFilterDraw
import Derived.Test.YtjenogaceloiiaaQ18
namespace Go.Proofs.Ytjenogaceloiiaa.Pure
open Go.RowKit Go.Proofs.Ytjenogaceloiiaa.Q Go.Proofs.Ytjenogaceloiiaa.B Go.Proofs.YtjenogaceloiiaaW.PrintWords Go.Proofs.YtjenogaceloiiaaW.PrintLast Go.Proofs.YtjenogaceloiiaaW.PrintMore
set_option linter.unusedVariables false

theorem FnFilterRow : laws_FnFilterRow.Pure := by
  intro l _ _ hw
  refine Ev.rounds (g := fun k => laws_FnFilterRow.f k l) (r := true) ?_
  unfold laws_FnFilterRow.f
  by_cases hl : (l.length : Int) > 1048576
  · exact ev_pos hl (Ev.now _)
  refine ev_neg hl ?_
  obtain ⟨kind, u, z, s, hu, h1, h2⟩ := drawFilter_ok l hw
  have hp := filtP_length kind u z s
  rw [ev_bind_iff hu, ev_bind_iff (implFilter_ev kind u z s), ev_bind_iff (specFilter_ev kind u z s (by omega) (by omega)), ev_bind_iff (laws_equalInts_same _ (by omega))]
  refine ev_pos rfl ?_
  refine Ev.step (f := fun k => if (((filtP kind u z s).length : Int) == 0) = true then (spec_FilterRow.f k kind u z s).bind fun t => (laws_equalInts.f k (filtP kind u z s) t).bind fun x => some x else (impl_UnfilterRow.f k kind (filtP kind u z s) z s).bind fun t => (laws_equalInts.f k t u).bind fun x => some x) (fun k => by simp only [laws_FnFilterRow.j0]) ?_
  by_cases h0 : (((filtP kind u z s).length : Int) == 0) = true
  · refine ev_pos h0 ?_
    rw [ev_bind_iff (specFilter_ev kind u z s (by omega) (by omega)), ev_bind_iff (laws_equalInts_same _ (by omega))]
    exact Ev.now _
  · refine ev_neg h0 ?_
    have hc : okKind kind = true ∧ okRows u z s = true := by
      by_cases c : okKind kind = true ∧ okRows u z s = true
      · exact c
      · exfalso
        apply h0
        unfold filtP
        rw [if_neg c]
        rfl
    obtain ⟨hr, hs⟩ := okRows_rows hc.2
    have e : filtP kind u z s = filt kind u z s.toNat u.length := by
      unfold filtP
      rw [if_pos hc]
    have hc2 : okRows (filtP kind u z s) z s = true := okRows_with hc.2 (by rw [e, filt_length]) (by rw [e]; exact filt_byt _ _ _ _ _)
    have hq := implUnfilter_ev kind (filtP kind u z s) z s
    have e2 : unfP kind (filtP kind u z s) z s = u := by
      unfold unfP
      rw [if_pos ⟨hc.1, hc2⟩, e, filt_length, unf_filt hr kind _ (Nat.le_refl _), List.take_of_length_le (Nat.le_refl _)]
    rw [e2] at hq
    rw [ev_bind_iff hq, ev_bind_iff (laws_equalInts_same u (by omega))]
    exact Ev.now _

end Go.Proofs.Ytjenogaceloiiaa.Pure
