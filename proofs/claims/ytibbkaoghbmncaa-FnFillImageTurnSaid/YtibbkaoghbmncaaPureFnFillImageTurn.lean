/- An image of one color, turned, is that image with the sides exchanged, and its mirror is it; at every code. -/
import Derived.Test.YtibbkaoghbmncaaLoopsE
import Derived.Test.YtibbkaoghbmncaaDraw
import Derived.Test.YtibbkaoghbmncaaFill
import Derived.Test.YtibbkaoghbmncaaTurnPM
import Derived.Test.YtibbkaoghbmncaaTurnPT
import Derived.Test.YtibbkaoghbmncaaQ18
namespace Go.Proofs.Ytibbkaoghbmncaa.Pure
open Go.RowKit Go.Proofs.Ytibbkaoghbmncaa.Q Go.Proofs.Ytibbkaoghbmncaa.B Go.Proofs.YtibbkaoghbmncaaW.PrintWords Go.Proofs.YtibbkaoghbmncaaW.PrintLast Go.Proofs.YtibbkaoghbmncaaW.PrintMore
set_option linter.unusedVariables false

theorem anyPixel_ok (b : List Int) (hb : Bytes b) (n : Int) (hn : n ≤ 5) : ∀ (d : Nat) (i : Nat) (pos : Int) (acc : List Int), i + d = n.toNat → acc.length ≤ i → 0 ≤ pos → pos + d ≤ 90000 → ∃ v q, Ev (fun k => spec_anyPixel.l0 k n acc (i : Int) b pos) (v, q) ∧ v.length ≤ 10 := by
  intro d
  induction d with
  | zero =>
    intro i pos acc hi ha h0 h1
    obtain ⟨v, q, hv, _, _, hl, _⟩ := spoil_ok b pos acc 256 hb h0 (by omega) (by omega)
    refine ⟨v, q, ?_, by omega⟩
    refine Ev.step (f := fun k => (spec_reader_spoil.f k b pos acc 256).bind fun t => some (t.1, t.2)) (fun k => ?_) ?_
    · simp only [spec_anyPixel.l0]
      rw [if_neg (by omega)]
    · rw [ev_bind_iff hv]
      exact Ev.now _
  | succ d ih =>
    intro i pos acc hi ha h0 h1
    obtain ⟨c, hc, c0, c1⟩ := pick_ok b pos 256 hb h0 (by omega) (by omega)
    obtain ⟨v, q, hv, hl⟩ := ih (i + 1) (pos + 1) (acc ++ [c]) (by omega) (by simp; omega) (by omega) (by omega)
    refine ⟨v, q, ?_, hl⟩
    have hi' : i < 1000000000 := by omega
    have hlt : (i : Int) < n := by omega
    have ha' : acc.length < 17592186044416 := by omega
    refine Ev.step (f := fun k => (spec_reader_pick.f k b pos 256).bind fun t => spec_anyPixel.l0 k n (acc ++ [t.1]) ((i + 1 : Nat) : Int) b t.2) (fun k => ?_) ?_
    · simp only [spec_anyPixel.l0, up1 i hi', if_pos ha']
      rw [if_pos hlt]
    · rw [ev_bind_iff hc]
      exact hv
theorem DrawFill_ok (l : List Int) (h : ∀ x ∈ l, (Lit.int .u8 x).wf = true) : ∃ a b v, Ev (fun k => spec_DrawFillImage.f k l) (a, b, v) ∧ v.length ≤ 10 := by
  obtain ⟨b, hl, hb⟩ := newReader_ok l h
  obtain ⟨x, hx, _⟩ := one_ok b 0 [1, 3, 5, 16, 17, 0] hb (by omega) (by omega) (by simp)
  obtain ⟨y, hy, _⟩ := one_ok b (0 + 1) [1, 3, 5, 16, 17, 0] hb (by omega) (by omega) (by simp)
  obtain ⟨n, hn, nm⟩ := one_ok b (0 + 1 + 1) [1, 3, 4, 2, 0, 5] hb (by omega) (by omega) (by simp)
  have n5 : n ≤ 5 := by simp at nm; omega
  obtain ⟨v, q, hv, hlen⟩ := anyPixel_ok b hb n n5 n.toNat 0 (0 + 1 + 1 + 1) [] (by omega) (by simp) (by omega) (by omega)
  have hv' : Ev (fun k => spec_anyPixel.f k b (0 + 1 + 1 + 1) n) (v, q) := by
    unfold spec_anyPixel.f
    exact hv
  refine ⟨x, y, v, ?_, hlen⟩
  unfold spec_DrawFillImage.f
  rw [hl]
  simp only [Option.bind_some]
  rw [ev_bind_iff hx, ev_bind_iff hy, ev_bind_iff hn, ev_bind_iff hv']
  exact Ev.now _
theorem fill_ok {W H : Nat} {v : List Int} (h : okFill (W : Int) (H : Int) v = true) : okImg (W : Int) (H : Int) (v.length : Int) (tab W H (cst v)) = true := by
  obtain ⟨h1, h2, h3, h4⟩ := okFill_ok h
  exact tab_ok (cst v) (by omega) (by omega) h3 (fun _ _ _ _ => rfl) (fun _ _ _ _ => h4)
theorem tur_const {W H : Nat} {v : List Int} (h : okFill (W : Int) (H : Int) v = true) : turN W H v.length (tab W H (cst v)) = tab H W (cst v) := by
  have ht := (tab_eq W H v.length (cst v) (fun _ _ _ _ => rfl)).2
  refine tab_congr _ _ _ _ fun x y hx hy => ?_
  unfold turnPx
  rw [ht _ _ (by omega) (by omega)]
  rfl
theorem mir_const {W H : Nat} {v : List Int} (h : okFill (W : Int) (H : Int) v = true) : mirN W H v.length (tab W H (cst v)) = tab W H (cst v) := by
  have ht := (tab_eq W H v.length (cst v) (fun _ _ _ _ => rfl)).2
  refine tab_congr _ _ _ _ fun x y hx hy => ?_
  unfold mirrorPx
  rw [ht _ _ (by omega) (by omega)]
  rfl
theorem FnFillImageTurn : laws_FnFillImageTurn.Pure := by
  intro l0 _ _ hw0
  refine Ev.rounds (g := fun k => laws_FnFillImageTurn.f k l0) (r := true) ?_
  unfold laws_FnFillImageTurn.f
  by_cases hl : (l0.length : Int) > 1048576
  · exact ev_pos hl (Ev.now _)
  refine ev_neg hl ?_
  obtain ⟨a, b, v, hd, hv⟩ := DrawFill_ok l0 hw0
  have h1 := specFill_ev a b v (by omega)
  have h2 := implFill_ev a b v
  have h3 := implFill_ev b a v
  have hlen := fillP_length a b v
  rw [ev_bind_iff hd, ev_bind_iff h2, ev_bind_iff h1, ev_bind_iff (equalImage_same _ _ _ _ hlen)]
  refine ev_pos rfl ?_
  by_cases hf : okFill a b v = true
  · obtain ⟨g1, g2, g3, g4⟩ := okFill_ok hf
    obtain ⟨W, rfl⟩ := Int.eq_ofNat_of_zero_le (show 0 ≤ a by omega)
    obtain ⟨H, rfl⟩ := Int.eq_ofNat_of_zero_le (show 0 ≤ b by omega)
    have e1 : fillP (W : Int) (H : Int) v = ((W : Int), (H : Int), (v.length : Int), tab W H (cst v)) := by
      unfold fillP
      rw [if_pos hf]
      simp only [Int.toNat_natCast]
    have hf2 : okFill (H : Int) (W : Int) v = true := by
      unfold okFill at hf ⊢
      simp only [Bool.and_eq_true] at hf ⊢
      exact ⟨⟨hf.1.2.1, hf.1.1, hf.1.2.2⟩, hf.2⟩
    have e2 : fillP (H : Int) (W : Int) v = ((H : Int), (W : Int), (v.length : Int), tab H W (cst v)) := by
      unfold fillP
      rw [if_pos hf2]
      simp only [Int.toNat_natCast]
    have hlen2 := fillP_length (H : Int) (W : Int) v
    rw [e1] at hlen ⊢
    rw [e2] at h3 hlen2
    simp only at hlen hlen2 ⊢
    have ht := turnP_1 (fill_ok hf)
    rw [tur_const hf] at ht
    have hm := mirrorP_N (fill_ok hf)
    rw [mir_const hf] at hm
    have hne : ((W : Int) == 0) = false := by rw [beq_eq_false_iff_ne]; omega
    rw [hne]
    generalize tab W H (cst v) = E at hlen ht hm ⊢
    generalize tab H W (cst v) = F at h3 hlen2 ht
    refine Ev.step (f := fun k => (impl_FillImage.f k (H : Int) (W : Int) v).bind fun bt => (laws_equalImage.f k (H : Int) (W : Int) (v.length : Int) F bt.1 bt.2.1 bt.2.2.1 bt.2.2.2).bind fun t => (if t = true then ((laws_equalImage.f k (W : Int) (H : Int) (v.length : Int) E (W : Int) (H : Int) (v.length : Int) E).bind fun t => (some t)) else (some false))) (fun k => ?_) ?_
    · simp only [laws_FnFillImageTurn.j0, Bool.false_eq_true, if_false, implTurn_eq, ht, Option.bind_some, implMirror_eq, hm]
    · rw [ev_bind_iff h3, ev_bind_iff (equalImage_same _ _ _ _ hlen2)]
      refine ev_pos rfl ?_
      rw [ev_bind_iff (equalImage_same _ _ _ _ hlen)]
      exact Ev.now _
  · have e : fillP a b v = (0, 0, 0, []) := by unfold fillP; rw [if_neg hf]
    rw [e] at h1 hlen ⊢
    refine Ev.step (f := fun k => (spec_FillImage.f k a b v).bind fun bt => (laws_equalImage.f k 0 0 0 [] bt.1 bt.2.1 bt.2.2.1 bt.2.2.2).bind fun t => some t) (fun k => by simp [laws_FnFillImageTurn.j0]) ?_
    rw [ev_bind_iff h1, ev_bind_iff (equalImage_same _ _ _ _ (by simp))]
    exact Ev.now _

end Go.Proofs.Ytibbkaoghbmncaa.Pure
