/- Every row has one packing: PackRow of what UnpackRow returns are the bytes; at every code. -/
import Derived.Test.YtikgepiglmnehaaPackLaws
import Derived.Test.YtikgepiglmnehaaPackDraw
import Derived.Test.YtikgepiglmnehaaQ11
namespace Go.Proofs.Ytikgepiglmnehaa.Pure
open Go.RowKit Go.Proofs.Ytikgepiglmnehaa.Q Go.Proofs.Ytikgepiglmnehaa.B Go.Proofs.YtikgepiglmnehaaW.PrintWords Go.Proofs.YtikgepiglmnehaaW.PrintLast Go.Proofs.YtikgepiglmnehaaW.PrintMore
set_option linter.unusedVariables false

theorem FnUnpackRow : laws_FnUnpackRow.Pure := by
  intro l _ _ hw
  refine Ev.rounds (g := fun k => laws_FnUnpackRow.f k l) (r := true) ?_
  unfold laws_FnUnpackRow.f
  by_cases hl : (l.length : Int) > 1048576
  · exact ev_pos hl (Ev.now _)
  refine ev_neg hl ?_
  obtain ⟨u, d, c, hu, hul⟩ := drawUnpack_ok l hw
  have h1 := implUnpack_ev u d c (by omega)
  have h2 := specUnpack_ev u d c (by omega)
  have hlen : (unpackP u d c).1.length ≤ 64 := by
    unfold unpackP
    split
    · rename_i h
      have := h.1
      unfold okUn at this
      simp only [Bool.and_eq_true, decide_eq_true_eq] at this
      rw [unpk_length]
      omega
    · simp
  cases e : unpackP u d c with
  | mk o ok =>
  rw [e] at h1 h2 hlen
  simp only at hlen
  rw [ev_bind_iff hu, ev_bind_iff h1, ev_bind_iff h2, ev_bind_iff (laws_equalInts_same o (by omega))]
  dsimp only
  refine ev_pos rfl (ev_neg (by simp) ?_)
  refine Ev.step (f := fun k => if (!ok) = true then (laws_equalInts.f k o o).bind fun t => if t = true then some (ok == ok) else some false else if (o.length : Int) = c then (impl_PackRow.f k o d).bind fun t => (laws_equalInts.f k t u).bind fun z => some z else some false) (fun k => by simp only [laws_FnUnpackRow.j0]) ?_
  cases ok with
  | false =>
    refine ev_pos rfl ?_
    rw [ev_bind_iff (laws_equalInts_same o (by omega))]
    exact ev_pos rfl (Ev.now _)
  | true =>
    refine ev_neg (by simp) ?_
    obtain ⟨g1, g2⟩ := pack_unpack e
    refine ev_pos g1 ?_
    have hp := implPackRow_ev o d
    rw [g2] at hp
    rw [ev_bind_iff hp, ev_bind_iff (laws_equalInts_same u (by omega))]
    exact Ev.now _

end Go.Proofs.Ytikgepiglmnehaa.Pure
