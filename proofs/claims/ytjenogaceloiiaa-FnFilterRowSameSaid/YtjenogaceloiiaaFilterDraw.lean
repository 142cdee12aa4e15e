/- What the drawing functions of rows to be filtered answer. No conditions. -/
import Derived.Test.YtjenogaceloiiaaDraw
import Derived.Test.YtjenogaceloiiaaQ14
import Derived.Test.YtjenogaceloiiaaQ20
import Derived.Test.YtjenogaceloiiaaQ6
namespace Go.Proofs.Ytjenogaceloiiaa.B
open Go.RowKit Go.Proofs.Ytjenogaceloiiaa.Q Go.Proofs.YtjenogaceloiiaaW.PrintWords Go.Proofs.YtjenogaceloiiaaW.PrintLast Go.Proofs.YtjenogaceloiiaaW.PrintMore
set_option linter.unusedVariables false

theorem anyRows_loop (b : List Int) (hb : Bytes b) : ∀ (m : Nat) (x y : List Int) (at_ p : Int), 0 ≤ p → p + 2 * m ≤ 1000 → x.length + m ≤ 100 → y.length + m ≤ 100 → 0 ≤ at_ → at_ ≤ 255 →
    ∃ v z p', Ev (fun k => spec_anyRows.l0 k x y at_ (m : Int) b p) (v, z, p') ∧ v.length ≤ 101 ∧ z.length ≤ 100 ∧ 0 ≤ p' ∧ p' ≤ 1003 := by
  intro m
  induction m with
  | zero =>
    intro x y at_ p h0 h1 h2 h3 h4 h5
    obtain ⟨v, p', hv, p0, p1, hl, _⟩ := spoil_ok b p x 256 hb h0 (by omega) (by omega)
    refine ⟨v, y, p', Ev.step (f := fun k => (spec_reader_spoil.f k b p x 256).bind fun bt => some (bt.1, y, bt.2)) (fun k => ?_) ?_, by omega, by omega, by omega, by omega⟩
    · simp only [spec_anyRows.l0]
      rw [if_neg (by omega)]
    · rw [ev_bind_iff hv]
      exact Ev.now _
  | succ m ih =>
    intro x y at_ p h0 h1 h2 h3 h4 h5
    obtain ⟨c, hc, c0, c1⟩ := pick_ok b p 9 hb h0 (by omega) (by omega)
    obtain ⟨e, he, e0, e1⟩ := pick_ok b (p + 1) 7 hb (by omega) (by omega) (by omega)
    have w1 : Int.tmod (wrap64 (wrap64 (at_ + c) + 252)) 256 = (at_ + c + 252) % 256 := by
      rw [w64 (x := at_ + c) (by omega) (by omega), w64 (by omega) (by omega), tmodp (by omega)]
    have w2 : Int.tmod (wrap64 ((at_ + c + 252) % 256 + e)) 256 = ((at_ + c + 252) % 256 + e) % 256 := by
      rw [w64 (by omega) (by omega), tmodp (by omega)]
    obtain ⟨v, z, p', hv, hl, hz, q0, q1⟩ := ih (x ++ [(at_ + c + 252) % 256]) (y ++ [((at_ + c + 252) % 256 + e) % 256]) ((at_ + c + 252) % 256) (p + 1 + 1) (by omega) (by omega) (by simp; omega) (by simp; omega) (by omega) (by omega)
    refine ⟨v, z, p', Ev.step (f := fun k => (spec_reader_pick.f k b p 9).bind fun bt => if x.length < 17592186044416 then (spec_reader_pick.f k b bt.2 7).bind fun bu => if y.length < 17592186044416 then spec_anyRows.l0 k (x ++ [Int.tmod (wrap64 (wrap64 (at_ + bt.1) + 252)) 256]) (y ++ [Int.tmod (wrap64 (Int.tmod (wrap64 (wrap64 (at_ + bt.1) + 252)) 256 + bu.1)) 256]) (Int.tmod (wrap64 (wrap64 (at_ + bt.1) + 252)) 256) (wrap64 (((m + 1 : Nat) : Int) - 1)) b bu.2 else none else none) (fun k => ?_) ?_, hl, hz, q0, q1⟩
    · simp only [spec_anyRows.l0]
      rw [if_pos (by omega)]
    · rw [ev_bind_iff hc]
      refine ev_pos (by omega) ?_
      rw [ev_bind_iff he]
      refine ev_pos (by omega) ?_
      dsimp only
      rw [w1, w2, w64 (by omega) (by omega), show ((m + 1 : Nat) : Int) - 1 = (m : Int) by omega]
      exact hv
theorem drawFilter_ok (l : List Int) (hw : ∀ x ∈ l, (Lit.int .u8 x).wf = true) : ∃ kind v z s, Ev (fun k => spec_DrawFilterRow.f k l) (kind, v, z, s) ∧ v.length ≤ 101 ∧ z.length ≤ 100 := by
  obtain ⟨b, hb, hB⟩ := newReader_ok l hw
  obtain ⟨kind, hk, _⟩ := one_ok b 0 [0, 1, 2, 3, 4, 4, 3, 5, -1] hB (by omega) (by omega) (by simp)
  obtain ⟨at_, ha, a0, a1⟩ := pick_ok b (0 + 1) 256 hB (by omega) (by omega) (by omega)
  obtain ⟨n, hn, nm⟩ := one_ok b (0 + 1 + 1) [6, 9, 4, 1, 0, 12] hB (by omega) (by omega) (by simp)
  have hn2 : 0 ≤ n ∧ n ≤ 12 := by
    simp at nm
    omega
  obtain ⟨m, rfl⟩ := Int.eq_ofNat_of_zero_le hn2.1
  obtain ⟨v, z, p', hv, hl, hz, q0, q1⟩ := anyRows_loop b hB m [] [] at_ (0 + 1 + 1 + 1) (by omega) (by omega) (by simp; omega) (by simp; omega) a0 (by omega)
  obtain ⟨s, hs, _⟩ := one_ok b p' [1, 3, 4, 2, 0, 5] hB q0 (by omega) (by simp)
  refine ⟨kind, v, z, s, ?_, hl, hz⟩
  unfold spec_DrawFilterRow.f spec_anyKind.f spec_anyRows.f
  rw [hb]
  simp only [Option.bind_some]
  rw [ev_bind_iff (a := (kind, 0 + 1)) (by rw [ev_bind_iff hk]; exact Ev.now _)]
  dsimp only
  rw [ev_bind_iff (a := (v, z, p')) (by rw [ev_bind_iff ha]; dsimp only; rw [ev_bind_iff hn]; exact hv)]
  dsimp only
  rw [ev_bind_iff hs]
  exact Ev.now _
theorem drawUnfilter_ok (l : List Int) (hw : ∀ x ∈ l, (Lit.int .u8 x).wf = true) : ∃ kind v z s, Ev (fun k => spec_DrawUnfilterRow.f k l) (kind, v, z, s) ∧ v.length ≤ 101 ∧ z.length ≤ 100 := by
  obtain ⟨kind, v, z, s, h, h1, h2⟩ := drawFilter_ok l hw
  refine ⟨kind, v, z, s, ?_, h1, h2⟩
  unfold spec_DrawUnfilterRow.f
  rw [ev_bind_iff h]
  exact Ev.now _
theorem drawBest_ok (l : List Int) (hw : ∀ x ∈ l, (Lit.int .u8 x).wf = true) : ∃ v z s, Ev (fun k => spec_DrawBestFilter.f k l) (v, z, s) ∧ v.length ≤ 101 ∧ z.length ≤ 100 := by
  obtain ⟨kind, v, z, s, h, h1, h2⟩ := drawFilter_ok l hw
  refine ⟨v, z, s, ?_, h1, h2⟩
  unfold spec_DrawBestFilter.f
  rw [ev_bind_iff h]
  exact Ev.now _

end Go.Proofs.Ytjenogaceloiiaa.B
