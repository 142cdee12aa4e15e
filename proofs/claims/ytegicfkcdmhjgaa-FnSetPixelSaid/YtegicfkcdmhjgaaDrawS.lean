/- What the reference draws for SetPixel: an image, a place and numbers. No conditions. -/
import Derived.Test.YtegicfkcdmhjgaaDrawI
import Derived.Test.YtegicfkcdmhjgaaQ7
import Derived.Test.YtegicfkcdmhjgaaQ8
namespace Go.Proofs.Ytegicfkcdmhjgaa.B
open Go.RowKit Go.Proofs.Ytegicfkcdmhjgaa.Q Go.Proofs.YtegicfkcdmhjgaaW.PrintWords Go.Proofs.YtegicfkcdmhjgaaW.PrintLast Go.Proofs.YtegicfkcdmhjgaaW.PrintMore
set_option linter.unusedVariables false

theorem spoilImage_okP (b : List Int) (hb : Bytes b) (pos w h p : Int) (D : List Int) (h0 : 0 ≤ pos) (h1 : pos ≤ 100000) (hD : 1 ≤ D.length) (hp5 : p ≤ 5) :
    ∃ w' h' p' D' pos', Ev (fun k => spec_spoilImage.f k b pos w h p D) (w', h', p', D', pos') ∧ D'.length ≤ D.length ∧ pos ≤ pos' ∧ pos' ≤ pos + 2 ∧ p' ≤ 5 := by
  obtain ⟨c, hc, c0, c1⟩ := pick_ok b pos 40 hb h0 (by omega) (by omega)
  unfold spec_spoilImage.f
  by_cases k0 : c = 0
  · obtain ⟨v, hv, _⟩ := one_ok b (pos + 1) [0, 17, wrap64 (w + 1)] hb (by omega) (by omega) (by simp)
    refine ⟨v, h, p, D, pos + 1 + 1, ?_, by omega, by omega, by omega, by omega⟩
    rw [ev_bind_iff hc]
    refine ev_pos k0 ?_
    rw [ev_bind_iff hv]
    exact Ev.now _
  · by_cases k1 : c = 1
    · refine ⟨w, h, p, D.drop (1 : Int).toNat, pos + 1, ?_, by rw [List.length_drop]; omega, by omega, by omega, by omega⟩
      rw [ev_bind_iff hc]
      exact ev_neg k0 (ev_pos k1 (ev_pos (by omega) (Ev.now _)))
    · by_cases k2 : c = 2
      · obtain ⟨v, hv, _⟩ := one_ok b (pos + 1) [-1, 256] hb (by omega) (by omega) (by simp)
        refine ⟨w, h, p, D.set (0 : Int).toNat v, pos + 1 + 1, ?_, by rw [List.length_set]; omega, by omega, by omega, by omega⟩
        rw [ev_bind_iff hc]
        refine ev_neg k0 (ev_neg k1 (ev_pos k2 ?_))
        rw [ev_bind_iff hv]
        exact ev_pos (by omega) (Ev.now _)
      · by_cases k3 : c = 3
        · obtain ⟨v, hv, vm⟩ := one_ok b (pos + 1) [0, 5] hb (by omega) (by omega) (by simp)
          have v5 : v ≤ 5 := by simp at vm; omega
          refine ⟨w, h, v, D, pos + 1 + 1, ?_, by omega, by omega, by omega, by omega⟩
          rw [ev_bind_iff hc]
          refine ev_neg k0 (ev_neg k1 (ev_neg k2 (ev_pos k3 ?_)))
          rw [ev_bind_iff hv]
          exact Ev.now _
        · refine ⟨w, h, p, D, pos + 1, ?_, by omega, by omega, by omega, by omega⟩
          rw [ev_bind_iff hc]
          exact ev_neg k0 (ev_neg k1 (ev_neg k2 (ev_neg k3 (Ev.now _))))
theorem anyImage_okP (b : List Int) (hb : Bytes b) (pos : Int) (h0 : 0 ≤ pos) (h1 : pos ≤ 90000) :
    ∃ w h p D pos', Ev (fun k => spec_anyImage.f k b pos) (w, h, p, D, pos') ∧ D.length ≤ 256 ∧ pos ≤ pos' ∧ pos' ≤ pos + 263 ∧ p ≤ 5 := by
  obtain ⟨c, hc, cm⟩ := one_ok b pos [1, 3, 1, 4, 2] hb h0 (by omega) (by simp)
  have c01 : 1 ≤ c ∧ c ≤ 4 := by simp at cm; omega
  have hpl : Ev (fun k => spec_anyPlanes.f k b pos) (c, pos + 1) := by
    unfold spec_anyPlanes.f
    rw [ev_bind_iff hc]
    exact Ev.now _
  obtain ⟨w, h, D, q, hq, _, _, hD, q0, q1⟩ := randomImage_ok b hb (pos + 1) c (by omega) (by omega) c01
  obtain ⟨w', h', p', D', s, hs, d1, s0, s1, p5⟩ := spoilImage_okP b hb q w h c D (by omega) (by omega) hD.1 (by omega)
  refine ⟨w', h', p', D', s, ?_, by omega, by omega, by omega, p5⟩
  unfold spec_anyImage.f
  rw [ev_bind_iff hpl, ev_bind_iff hq, ev_bind_iff hs]
  exact Ev.now _
theorem anyPixel_ok (b : List Int) (hb : Bytes b) (n : Int) (hn : n ≤ 5) : ∀ (d : Nat) (i : Nat) (pos : Int) (acc : List Int), i + d = n.toNat → acc.length ≤ i → 0 ≤ pos → pos + d ≤ 90000 → ∃ v q, Ev (fun k => spec_anyPixel.l0 k n acc (i : Int) b pos) (v, q) ∧ v.length ≤ 10 := by
  intro d
  induction d with
  | zero =>
    intro i pos acc hi ha h0 h1
    obtain ⟨v, q, hv, _, _, hl, _⟩ := spoil_ok b pos acc 256 hb h0 (by omega) (by omega)
    refine ⟨v, q, ?_, by omega⟩
    refine Ev.step (f := fun k => (spec_reader_spoil.f k b pos acc 256).bind fun t => some (t.1, t.2)) (fun k => ?_) ?_
    · simp only [spec_anyPixel.l0]
      rw [if_neg (by omega)]
    · rw [ev_bind_iff hv]
      exact Ev.now _
  | succ d ih =>
    intro i pos acc hi ha h0 h1
    obtain ⟨c, hc, c0, c1⟩ := pick_ok b pos 256 hb h0 (by omega) (by omega)
    obtain ⟨v, q, hv, hl⟩ := ih (i + 1) (pos + 1) (acc ++ [c]) (by omega) (by simp; omega) (by omega) (by omega)
    refine ⟨v, q, ?_, hl⟩
    have hi' : i < 1000000000 := by omega
    have hlt : (i : Int) < n := by omega
    have ha' : acc.length < 17592186044416 := by omega
    refine Ev.step (f := fun k => (spec_reader_pick.f k b pos 256).bind fun t => spec_anyPixel.l0 k n (acc ++ [t.1]) ((i + 1 : Nat) : Int) b t.2) (fun k => ?_) ?_
    · simp only [spec_anyPixel.l0, up1 i hi', if_pos ha']
      rw [if_pos hlt]
    · rw [ev_bind_iff hc]
      exact hv
theorem DrawSet_ok (l : List Int) (h : ∀ x ∈ l, (Lit.int .u8 x).wf = true) : ∃ w h p D x y v, Ev (fun k => spec_DrawSetPixel.f k l) (w, h, p, D, x, y, v) ∧ D.length ≤ 256 ∧ v.length ≤ 10 := by
  obtain ⟨b, hl, hb⟩ := newReader_ok l h
  obtain ⟨w, h, p, D, q, hq, hD, q0, q1, p5⟩ := anyImage_okP b hb 0 (by omega) (by omega)
  obtain ⟨x, hx, _⟩ := pick_ok b q 5 hb (by omega) (by omega) (by omega)
  obtain ⟨y, hy, _⟩ := pick_ok b (q + 1) 4 hb (by omega) (by omega) (by omega)
  obtain ⟨v, r, hv, hlen⟩ := anyPixel_ok b hb p p5 p.toNat 0 (q + 1 + 1) [] (by omega) (by simp) (by omega) (by omega)
  have hv' : Ev (fun k => spec_anyPixel.f k b (q + 1 + 1) p) (v, r) := by
    unfold spec_anyPixel.f
    exact hv
  refine ⟨w, h, p, D, x, y, v, ?_, hD, hlen⟩
  unfold spec_DrawSetPixel.f
  rw [hl]
  simp only [Option.bind_some]
  rw [ev_bind_iff hq, ev_bind_iff hx, ev_bind_iff hy, ev_bind_iff hv']
  exact Ev.now _

end Go.Proofs.Ytegicfkcdmhjgaa.B
