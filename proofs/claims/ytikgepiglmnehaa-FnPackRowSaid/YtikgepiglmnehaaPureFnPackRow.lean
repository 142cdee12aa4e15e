/- Packed rows can be unpacked: UnpackRow of PackRow is the row; at every code. -/
import Derived.Test.YtikgepiglmnehaaPackLaws
import Derived.Test.YtikgepiglmnehaaPackDraw
import Derived.Test.YtikgepiglmnehaaQ10
namespace Go.Proofs.Ytikgepiglmnehaa.Pure
open Go.RowKit Go.Proofs.Ytikgepiglmnehaa.Q Go.Proofs.Ytikgepiglmnehaa.B Go.Proofs.YtikgepiglmnehaaW.PrintWords Go.Proofs.YtikgepiglmnehaaW.PrintLast Go.Proofs.YtikgepiglmnehaaW.PrintMore
set_option linter.unusedVariables false

theorem FnPackRow : laws_FnPackRow.Pure := by
  intro l _ _ hw
  refine Ev.rounds (g := fun k => laws_FnPackRow.f k l) (r := true) ?_
  unfold laws_FnPackRow.f
  by_cases hl : (l.length : Int) > 1048576
  · exact ev_pos hl (Ev.now _)
  refine ev_neg hl ?_
  obtain ⟨u, d, hu, hul⟩ := drawPack_ok l hw
  have hp := packP_length u d
  rw [ev_bind_iff hu, ev_bind_iff (implPackRow_ev u d), ev_bind_iff (specPackRow_ev u d (by omega)), ev_bind_iff (laws_equalInts_same (packP u d) (by omega))]
  refine ev_pos rfl ?_
  refine Ev.step (f := fun k => if (((packP u d).length : Int) == 0) = true then (spec_PackRow.f k u d).bind fun t => (laws_equalInts.f k (packP u d) t).bind fun z => some z else (impl_UnpackRow.f k (packP u d) d (u.length : Int)).bind fun bt => if bt.2 = true then (laws_equalInts.f k bt.1 u).bind fun t => if t = true then some (((packP u d).length : Int) == wrap64 (Int.tdiv (wrap64 (wrap64 ((u.length : Int) * d) + 7)) 8)) else some false else some false) (fun k => by simp only [laws_FnPackRow.j0]) ?_
  by_cases h0 : (((packP u d).length : Int) == 0) = true
  · refine ev_pos h0 ?_
    rw [ev_bind_iff (specPackRow_ev u d (by omega)), ev_bind_iff (laws_equalInts_same (packP u d) (by omega))]
    exact Ev.now _
  · refine ev_neg h0 ?_
    have hr : okRow u d = true := by
      cases e : okRow u d with
      | true => rfl
      | false =>
        exfalso
        apply h0
        unfold packP
        rw [if_neg (by rw [e]; simp)]
        rfl
    obtain ⟨h1, h2, h3⟩ := okRow_small hr
    have hq := implUnpack_ev (packP u d) d (u.length : Int) (by omega)
    rw [unpack_pack hr] at hq
    rw [ev_bind_iff hq]
    refine ev_pos rfl ?_
    rw [ev_bind_iff (laws_equalInts_same u (by omega))]
    refine ev_pos rfl (ev_now ?_)
    rw [count_eq h1 (u.length : Int) (by omega) (by omega), Int.toNat_natCast]
    have e : packP u d = pk u d.toNat := by
      unfold packP
      rw [if_pos hr]
    rw [e, pk_length]
    simp

end Go.Proofs.Ytikgepiglmnehaa.Pure
