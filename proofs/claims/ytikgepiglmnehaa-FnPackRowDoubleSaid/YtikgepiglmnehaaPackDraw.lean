/- What the drawing functions of rows to be packed answer. No conditions. -/
import Derived.Test.YtikgepiglmnehaaDraw
import Derived.Test.YtikgepiglmnehaaUnpack
import Derived.Test.YtikgepiglmnehaaQ10
import Derived.Test.YtikgepiglmnehaaQ9
namespace Go.Proofs.Ytikgepiglmnehaa.B
open Go.RowKit Go.Proofs.Ytikgepiglmnehaa.Q Go.Proofs.YtikgepiglmnehaaW.PrintWords Go.Proofs.YtikgepiglmnehaaW.PrintLast Go.Proofs.YtikgepiglmnehaaW.PrintMore
set_option linter.unusedVariables false

theorem drawPack_loop (b : List Int) (d : Int) (hb : Bytes b) (hs : shl .i64 1 (mx d 1) ≠ 0) : ∀ (m : Nat) (out : List Int) (p : Int), 0 ≤ p → p + m ≤ 1000 → out.length + m ≤ 100 →
    ∃ v, Ev (fun k => spec_DrawPackRow.l0 k d out (m : Int) b p) (v, d) ∧ v.length ≤ 101 := by
  intro m
  induction m with
  | zero =>
    intro out p h0 h1 h2
    obtain ⟨v, p', hv, _, _, hl, _⟩ := spoil_ok b p out (shl .i64 1 (mx d 0)) hb h0 (by omega) (by omega)
    refine ⟨v, Ev.step (f := fun k => (spec_reader_spoil.f k b p out (shl .i64 1 (mx d 0))).bind fun bt => some (bt.1, d)) (fun k => ?_) ?_, by omega⟩
    · simp only [spec_DrawPackRow.l0]
      rw [if_neg (by omega)]
    · rw [ev_bind_iff hv]
      exact Ev.now _
  | succ m ih =>
    intro out p h0 h1 h2
    obtain ⟨x, hx, _, _⟩ := pick_ok b p 256 hb h0 (by omega) (by omega)
    obtain ⟨v, hv, hl⟩ := ih (out ++ [Int.tmod x (shl .i64 1 (mx d 1))]) (p + 1) (by omega) (by omega) (by simp; omega)
    refine ⟨v, Ev.step (f := fun k => (spec_reader_pick.f k b p 256).bind fun bt => if shl .i64 1 (mx d 1) = 0 then none else if out.length < 17592186044416 then spec_DrawPackRow.l0 k d (out ++ [Int.tmod bt.1 (shl .i64 1 (mx d 1))]) (wrap64 (((m + 1 : Nat) : Int) - 1)) b bt.2 else none) (fun k => ?_) ?_, hl⟩
    · simp only [spec_DrawPackRow.l0]
      rw [if_pos (by omega)]
    · rw [ev_bind_iff hx]
      refine ev_neg hs (ev_pos (by omega) ?_)
      rw [w64 (by omega) (by omega), show ((m + 1 : Nat) : Int) - 1 = (m : Int) by omega]
      exact hv
theorem drawPack_ok (l : List Int) (hw : ∀ x ∈ l, (Lit.int .u8 x).wf = true) : ∃ v d, Ev (fun k => spec_DrawPackRow.f k l) (v, d) ∧ v.length ≤ 101 := by
  obtain ⟨b, hb, hB⟩ := newReader_ok l hw
  obtain ⟨d, hd, dm⟩ := one_ok b 0 [1, 2, 4, 8, 1, 4, 3, 0] hB (by omega) (by omega) (by simp)
  obtain ⟨n, hn, nm⟩ := one_ok b (0 + 1) [3, 8, 5, 1, 0, 64, 65] hB (by omega) (by omega) (by simp)
  have hs : shl .i64 1 (mx d 1) ≠ 0 := by
    simp at dm
    rcases dm with rfl | rfl | rfl | rfl | rfl | rfl | rfl | rfl <;> decide
  have hn2 : 0 ≤ n ∧ n ≤ 65 := by
    simp at nm
    omega
  obtain ⟨m, rfl⟩ := Int.eq_ofNat_of_zero_le hn2.1
  obtain ⟨v, hv, hl⟩ := drawPack_loop b d hB hs m [] (0 + 1 + 1) (by omega) (by omega) (by simp; omega)
  refine ⟨v, d, ?_, hl⟩
  unfold spec_DrawPackRow.f spec_anyDepth.f
  rw [hb]
  simp only [Option.bind_some]
  rw [ev_bind_iff (a := (d, 0 + 1)) (by rw [ev_bind_iff hd]; exact Ev.now _), ev_bind_iff hn]
  exact hv
theorem drawUnpack_ok (l : List Int) (hw : ∀ x ∈ l, (Lit.int .u8 x).wf = true) : ∃ v d c, Ev (fun k => spec_DrawUnpackRow.f k l) (v, d, c) ∧ v.length ≤ 101 := by
  obtain ⟨b, hb, hB⟩ := newReader_ok l hw
  obtain ⟨u, d, hu, hl⟩ := drawPack_ok l hw
  have hp := packP_length u d
  obtain ⟨v, p', hv, h1, h2, h3, _⟩ := spoil_ok b 0 (packP u d) 255 hB (by omega) (by omega) (by omega)
  obtain ⟨c, hc, _⟩ := one_ok b p' [0, 0, 0, 1, -1] hB (by omega) (by omega) (by simp)
  refine ⟨v, d, wrap64 ((u.length : Int) + c), ?_, by omega⟩
  unfold spec_DrawUnpackRow.f
  rw [hb]
  simp only [Option.bind_some]
  rw [ev_bind_iff hu, ev_bind_iff (specPackRow_ev u d (by omega)), ev_bind_iff hv, ev_bind_iff hc]
  exact Ev.now _

end Go.Proofs.Ytikgepiglmnehaa.B
