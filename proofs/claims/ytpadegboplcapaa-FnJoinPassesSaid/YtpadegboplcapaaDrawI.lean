/- What the draw of an image gives: that it answers, and within which bounds. No conditions. -/
import Derived.Test.YtpadegboplcapaaDraw
import Derived.Test.YtpadegboplcapaaSpecI
import Derived.Test.YtpadegboplcapaaQ3
import Derived.Test.YtpadegboplcapaaQ4
namespace Go.Proofs.Ytpadegboplcapaa.B
open Go.RowKit Go.Proofs.Ytpadegboplcapaa.Q Go.Proofs.YtpadegboplcapaaW.PrintWords Go.Proofs.YtpadegboplcapaaW.PrintLast Go.Proofs.YtpadegboplcapaaW.PrintMore
set_option linter.unusedVariables false

theorem random_loop (b : List Int) (hb : Bytes b) (kind w h p : Int) : ∀ (d i : Nat) (at_ pos : Int) (D : List Int), i + d = D.length → 0 ≤ pos → pos + d ≤ 1000000 → D.length ≤ 100000 →
    ∃ D' pos', Ev (fun k => spec_randomImage.l0 k kind at_ (i : Int) b pos w h p D) (w, h, p, D', pos') ∧ pos ≤ pos' ∧ pos' ≤ pos + d ∧ D'.length = D.length := by
  intro d
  induction d with
  | zero =>
    intro i at_ pos D hi h0 h1 h2
    refine ⟨D, pos, Ev.step (f := fun _ => some (w, h, p, D, pos)) (fun k => ?_) (Ev.now _), by omega, by omega, rfl⟩
    simp only [spec_randomImage.l0]
    rw [if_neg (by omega)]
  | succ d ih =>
    intro i at_ pos D hi h0 h1 h2
    have hlt : (i : Int) < (D.length : Int) := by omega
    have hi' : i < 1000000000 := by omega
    have set_ : ∀ (v pos' : Int), pos ≤ pos' → pos' ≤ pos + 1 → ∃ D' q, Ev (fun k => spec_randomImage.l0 k kind v ((i + 1 : Nat) : Int) b pos' w h p (D.set i v)) (w, h, p, D', q) ∧ pos ≤ q ∧ q ≤ pos + ((d + 1 : Nat) : Int) ∧ D'.length = D.length := by
      intro v pos' g0 g1
      obtain ⟨D', q, e, q0, q1, q2⟩ := ih (i + 1) v pos' (D.set i v) (by rw [List.length_set]; omega) (by omega) (by omega) (by rw [List.length_set]; omega)
      exact ⟨D', q, e, by omega, by omega, by rw [q2, List.length_set]⟩
    by_cases k0 : kind = 0
    · obtain ⟨c, hc, c0, c1⟩ := pick_ok b pos 256 hb h0 (by omega) (by omega)
      obtain ⟨D', q, e, q0, q1, q2⟩ := set_ c (pos + 1) (by omega) (by omega)
      refine ⟨D', q, ?_, q0, q1, q2⟩
      refine Ev.step (f := fun k => (spec_reader_pick.f k b pos 256).bind fun t => spec_randomImage.l0 k kind t.1 ((i + 1 : Nat) : Int) b t.2 w h p (D.set i t.1)) (fun k => ?_) ?_
      · simp only [spec_randomImage.l0, up1 i hi', Int.toNat_natCast, if_pos (Int.natCast_nonneg i)]
        rw [if_pos hlt, if_pos k0]
      · rw [ev_bind_iff hc]
        exact e
    · by_cases k1 : kind = 1
      · obtain ⟨c, hc, c0, c1⟩ := pick_ok b pos 5 hb h0 (by omega) (by omega)
        obtain ⟨D', q, e, q0, q1, q2⟩ := set_ (Int.tmod (wrap64 ((wrap64 (at_ + c)) + 254)) 256) (pos + 1) (by omega) (by omega)
        refine ⟨D', q, ?_, q0, q1, q2⟩
        refine Ev.step (f := fun k => (spec_reader_pick.f k b pos 5).bind fun t => spec_randomImage.l0 k kind (Int.tmod (wrap64 ((wrap64 (at_ + t.1)) + 254)) 256) ((i + 1 : Nat) : Int) b t.2 w h p (D.set i (Int.tmod (wrap64 ((wrap64 (at_ + t.1)) + 254)) 256))) (fun k => ?_) ?_
        · simp only [spec_randomImage.l0, up1 i hi', Int.toNat_natCast, if_pos (Int.natCast_nonneg i)]
          rw [if_pos hlt, if_neg k0, if_pos k1]
        · rw [ev_bind_iff hc]
          exact e
      · by_cases k2 : kind = 2
        · obtain ⟨c, hc, c0, c1⟩ := pick_ok b pos 4 hb h0 (by omega) (by omega)
          obtain ⟨D', q, e, q0, q1, q2⟩ := set_ (wrap64 (60 * c)) (pos + 1) (by omega) (by omega)
          refine ⟨D', q, ?_, q0, q1, q2⟩
          refine Ev.step (f := fun k => (spec_reader_pick.f k b pos 4).bind fun t => spec_randomImage.l0 k kind (wrap64 (60 * t.1)) ((i + 1 : Nat) : Int) b t.2 w h p (D.set i (wrap64 (60 * t.1)))) (fun k => ?_) ?_
          · simp only [spec_randomImage.l0, up1 i hi', Int.toNat_natCast, if_pos (Int.natCast_nonneg i)]
            rw [if_pos hlt, if_neg k0, if_neg k1, if_pos k2]
          · rw [ev_bind_iff hc]
            exact e
        · obtain ⟨D', q, e, q0, q1, q2⟩ := set_ at_ pos (by omega) (by omega)
          refine ⟨D', q, ?_, q0, q1, q2⟩
          refine Ev.step (fun k => ?_) e
          simp only [spec_randomImage.l0, up1 i hi', Int.toNat_natCast, if_pos (Int.natCast_nonneg i)]
          rw [if_pos hlt, if_neg k0, if_neg k1, if_neg k2]
theorem randomImage_ok (b : List Int) (hb : Bytes b) (pos p : Int) (h0 : 0 ≤ pos) (h1 : pos ≤ 100000) (hp : 1 ≤ p ∧ p ≤ 4) :
    ∃ w h D pos', Ev (fun k => spec_randomImage.f k b pos p) (w, h, p, D, pos') ∧ (1 ≤ w ∧ w ≤ 8) ∧ (1 ≤ h ∧ h ≤ 8) ∧ (1 ≤ D.length ∧ D.length ≤ 256) ∧ pos ≤ pos' ∧ pos' ≤ pos + 260 := by
  obtain ⟨w, hw, wm⟩ := one_ok b pos [3, 4, 2, 5, 1, 8, 6] hb h0 (by omega) (by simp)
  obtain ⟨h, hh, hm⟩ := one_ok b (pos + 1) [3, 2, 4, 1, 5, 8] hb (by omega) (by omega) (by simp)
  obtain ⟨c, hc, c0, c1⟩ := pick_ok b (pos + 1 + 1) 4 hb (by omega) (by omega) (by omega)
  obtain ⟨a, ha, a0, a1⟩ := pick_ok b (pos + 1 + 1 + 1) 256 hb (by omega) (by omega) (by omega)
  have w01 : 1 ≤ w ∧ w ≤ 8 := by simp at wm; omega
  have h01 : 1 ≤ h ∧ h ≤ 8 := by simp at hm; omega
  obtain ⟨W, rfl⟩ := Int.eq_ofNat_of_zero_le (show 0 ≤ w by omega)
  obtain ⟨H, rfl⟩ := Int.eq_ofNat_of_zero_le (show 0 ≤ h by omega)
  obtain ⟨P, rfl⟩ := Int.eq_ofNat_of_zero_le (show 0 ≤ p by omega)
  have hn := specNew_eq W H P (by omega) (by omega) (by omega)
  have l1 : H * W ≤ 8 * 8 := Nat.mul_le_mul (by omega) (by omega)
  have l2 : H * W * P ≤ 64 * 4 := Nat.mul_le_mul l1 (by omega)
  have l3 : 0 < H * W * P := Nat.mul_pos (Nat.mul_pos (by omega) (by omega)) (by omega)
  generalize H * W * P = n at hn l2 l3
  obtain ⟨D, q, hq, q0, q1, q2⟩ := random_loop b hb c (W : Int) (H : Int) (P : Int) n 0 a (pos + 1 + 1 + 1 + 1) (List.replicate n 0) (by simp) (by omega) (by omega) (by simp; omega)
  rw [List.length_replicate] at q2
  refine ⟨(W : Int), (H : Int), D, q, ?_, w01, h01, by omega, by omega, by omega⟩
  unfold spec_randomImage.f
  rw [ev_bind_iff hw, ev_bind_iff hh, hn]
  simp only [Option.bind_some]
  rw [ev_bind_iff hc, ev_bind_iff ha]
  exact hq
theorem spoilImage_ok (b : List Int) (hb : Bytes b) (pos w h p : Int) (D : List Int) (h0 : 0 ≤ pos) (h1 : pos ≤ 100000) (hD : 1 ≤ D.length) :
    ∃ w' h' p' D' pos', Ev (fun k => spec_spoilImage.f k b pos w h p D) (w', h', p', D', pos') ∧ D'.length ≤ D.length ∧ pos ≤ pos' ∧ pos' ≤ pos + 2 := by
  obtain ⟨c, hc, c0, c1⟩ := pick_ok b pos 40 hb h0 (by omega) (by omega)
  unfold spec_spoilImage.f
  by_cases k0 : c = 0
  · obtain ⟨v, hv, _⟩ := one_ok b (pos + 1) [0, 17, wrap64 (w + 1)] hb (by omega) (by omega) (by simp)
    refine ⟨v, h, p, D, pos + 1 + 1, ?_, by omega, by omega, by omega⟩
    rw [ev_bind_iff hc]
    refine ev_pos k0 ?_
    rw [ev_bind_iff hv]
    exact Ev.now _
  · by_cases k1 : c = 1
    · refine ⟨w, h, p, D.drop (1 : Int).toNat, pos + 1, ?_, by rw [List.length_drop]; omega, by omega, by omega⟩
      rw [ev_bind_iff hc]
      exact ev_neg k0 (ev_pos k1 (ev_pos (by omega) (Ev.now _)))
    · by_cases k2 : c = 2
      · obtain ⟨v, hv, _⟩ := one_ok b (pos + 1) [-1, 256] hb (by omega) (by omega) (by simp)
        refine ⟨w, h, p, D.set (0 : Int).toNat v, pos + 1 + 1, ?_, by rw [List.length_set]; omega, by omega, by omega⟩
        rw [ev_bind_iff hc]
        refine ev_neg k0 (ev_neg k1 (ev_pos k2 ?_))
        rw [ev_bind_iff hv]
        exact ev_pos (by omega) (Ev.now _)
      · by_cases k3 : c = 3
        · obtain ⟨v, hv, _⟩ := one_ok b (pos + 1) [0, 5] hb (by omega) (by omega) (by simp)
          refine ⟨w, h, v, D, pos + 1 + 1, ?_, by omega, by omega, by omega⟩
          rw [ev_bind_iff hc]
          refine ev_neg k0 (ev_neg k1 (ev_neg k2 (ev_pos k3 ?_)))
          rw [ev_bind_iff hv]
          exact Ev.now _
        · refine ⟨w, h, p, D, pos + 1, ?_, by omega, by omega, by omega⟩
          rw [ev_bind_iff hc]
          exact ev_neg k0 (ev_neg k1 (ev_neg k2 (ev_neg k3 (Ev.now _))))
theorem anyImage_ok (b : List Int) (hb : Bytes b) (pos : Int) (h0 : 0 ≤ pos) (h1 : pos ≤ 90000) :
    ∃ w h p D pos', Ev (fun k => spec_anyImage.f k b pos) (w, h, p, D, pos') ∧ D.length ≤ 256 ∧ pos ≤ pos' ∧ pos' ≤ pos + 263 := by
  obtain ⟨c, hc, cm⟩ := one_ok b pos [1, 3, 1, 4, 2] hb h0 (by omega) (by simp)
  have c01 : 1 ≤ c ∧ c ≤ 4 := by simp at cm; omega
  have hpl : Ev (fun k => spec_anyPlanes.f k b pos) (c, pos + 1) := by
    unfold spec_anyPlanes.f
    rw [ev_bind_iff hc]
    exact Ev.now _
  obtain ⟨w, h, D, q, hq, _, _, hD, q0, q1⟩ := randomImage_ok b hb (pos + 1) c (by omega) (by omega) c01
  obtain ⟨w', h', p', D', s, hs, d1, s0, s1⟩ := spoilImage_ok b hb q w h c D (by omega) (by omega) hD.1
  refine ⟨w', h', p', D', s, ?_, by omega, by omega, by omega⟩
  unfold spec_anyImage.f
  rw [ev_bind_iff hpl, ev_bind_iff hq, ev_bind_iff hs]
  exact Ev.now _

end Go.Proofs.Ytpadegboplcapaa.B
