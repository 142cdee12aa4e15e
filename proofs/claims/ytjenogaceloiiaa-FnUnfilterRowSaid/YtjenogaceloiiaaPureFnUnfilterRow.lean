/- Rows can be filtered again: FilterRow of UnfilterRow is the filtered row; at every code. -/
import Derived.Test.YtjenogaceloiiaaFilter
import Derived.Test.YtjenogaceloiiaaFilterDraw
import Derived.Test.YtjenogaceloiiaaQ20
namespace Go.Proofs.Ytjenogaceloiiaa.Pure
open Go.RowKit Go.Proofs.Ytjenogaceloiiaa.Q Go.Proofs.Ytjenogaceloiiaa.B Go.Proofs.YtjenogaceloiiaaW.PrintWords Go.Proofs.YtjenogaceloiiaaW.PrintLast Go.Proofs.YtjenogaceloiiaaW.PrintMore
set_option linter.unusedVariables false

theorem FnUnfilterRow : laws_FnUnfilterRow.Pure := by
  intro l _ _ hw
  refine Ev.rounds (g := fun k => laws_FnUnfilterRow.f k l) (r := true) ?_
  unfold laws_FnUnfilterRow.f
  by_cases hl : (l.length : Int) > 1048576
  · exact ev_pos hl (Ev.now _)
  refine ev_neg hl ?_
  obtain ⟨kind, u, z, s, hu, h1, h2⟩ := drawUnfilter_ok l hw
  have hp := unfP_length kind u z s
  rw [ev_bind_iff hu, ev_bind_iff (implUnfilter_ev kind u z s), ev_bind_iff (specUnfilter_ev kind u z s (by omega) (by omega)), ev_bind_iff (laws_equalInts_same _ (by omega))]
  refine ev_pos rfl ?_
  refine Ev.step (f := fun k => if (((unfP kind u z s).length : Int) == 0) = true then (spec_UnfilterRow.f k kind u z s).bind fun t => (laws_equalInts.f k (unfP kind u z s) t).bind fun x => some x else (impl_FilterRow.f k kind (unfP kind u z s) z s).bind fun t => (laws_equalInts.f k t u).bind fun x => some x) (fun k => by simp only [laws_FnUnfilterRow.j0]) ?_
  by_cases h0 : (((unfP kind u z s).length : Int) == 0) = true
  · refine ev_pos h0 ?_
    rw [ev_bind_iff (specUnfilter_ev kind u z s (by omega) (by omega)), ev_bind_iff (laws_equalInts_same _ (by omega))]
    exact Ev.now _
  · refine ev_neg h0 ?_
    have hc : okKind kind = true ∧ okRows u z s = true := by
      by_cases c : okKind kind = true ∧ okRows u z s = true
      · exact c
      · exfalso
        apply h0
        unfold unfP
        rw [if_neg c]
        rfl
    obtain ⟨hr, hs⟩ := okRows_rows hc.2
    have e : unfP kind u z s = unf kind u z s.toNat u.length := by
      unfold unfP
      rw [if_pos hc]
    have hc2 : okRows (unfP kind u z s) z s = true := okRows_with hc.2 (by rw [e, unf_length]) (by rw [e]; exact unf_byt _ _ _ _ _)
    have hq := implFilter_ev kind (unfP kind u z s) z s
    have e2 : filtP kind (unfP kind u z s) z s = u := by
      unfold filtP
      rw [if_pos ⟨hc.1, hc2⟩, e, unf_length, filt_unf hr kind]
    rw [e2] at hq
    rw [ev_bind_iff hq, ev_bind_iff (laws_equalInts_same u (by omega))]
    exact Ev.now _

end Go.Proofs.Ytjenogaceloiiaa.Pure
