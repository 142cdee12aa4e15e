/- The pasted pixels are there, the others are the image's, and pasting twice changes nothing; at every code. -/
import Derived.Test.YtmljcnhecjlinaaLoopsE
import Derived.Test.YtmljcnhecjlinaaDrawI
import Derived.Test.YtmljcnhecjlinaaPasteS
import Derived.Test.YtmljcnhecjlinaaPixel
import Derived.Test.YtmljcnhecjlinaaQ18
namespace Go.Proofs.Ytmljcnhecjlinaa.Pure
open Go.RowKit Go.Proofs.Ytmljcnhecjlinaa.Q Go.Proofs.Ytmljcnhecjlinaa.B Go.Proofs.YtmljcnhecjlinaaW.PrintWords Go.Proofs.YtmljcnhecjlinaaW.PrintLast Go.Proofs.YtmljcnhecjlinaaW.PrintMore
set_option linter.unusedVariables false

theorem DrawPaste_ok (l : List Int) (h : ∀ x ∈ l, (Lit.int .u8 x).wf = true) : ∃ w h p D x y pw ph pp E, Ev (fun k => spec_DrawPasteImage.f k l) (w, h, p, D, x, y, pw, ph, pp, E) ∧ D.length ≤ 256 ∧ E.length ≤ 256 := by
  obtain ⟨b, hl, hb⟩ := newReader_ok l h
  obtain ⟨w, h, p, D, q, hq, hD, q0, q1⟩ := anyImage_ok b hb 0 (by omega) (by omega)
  obtain ⟨x, hx, _⟩ := one_ok b q [0, 1, -1, 2, -2, 16, 17, -17] hb (by omega) (by omega) (by simp)
  obtain ⟨y, hy, _⟩ := one_ok b (q + 1) [0, 1, -1, 2, -16, 17] hb (by omega) (by omega) (by simp)
  have hp : 1 ≤ mx 1 (mn 4 p) ∧ mx 1 (mn 4 p) ≤ 4 := by
    unfold mx mn
    split <;> split <;> omega
  obtain ⟨w2, h2, D2, s, hs, _, _, hD2, s0, s1⟩ := randomImage_ok b hb (q + 1 + 1) (mx 1 (mn 4 p)) (by omega) (by omega) hp
  obtain ⟨c, hc, c0, c1⟩ := pick_ok b s 10 hb (by omega) (by omega) (by omega)
  by_cases k : c = 0
  · obtain ⟨w3, h3, p3, D3, r, hr, hD3, _, _⟩ := anyImage_ok b hb (s + 1) (by omega) (by omega)
    refine ⟨w, h, p, D, x, y, w3, h3, p3, D3, ?_, hD, hD3⟩
    unfold spec_DrawPasteImage.f
    rw [hl]
    simp only [Option.bind_some]
    rw [ev_bind_iff hq, ev_bind_iff hx, ev_bind_iff hy, ev_bind_iff hs, ev_bind_iff hc]
    refine ev_pos k ?_
    rw [ev_bind_iff hr]
    exact Ev.now _
  · refine ⟨w, h, p, D, x, y, w2, h2, mx 1 (mn 4 p), D2, ?_, hD, hD2.2⟩
    unfold spec_DrawPasteImage.f
    rw [hl]
    simp only [Option.bind_some]
    rw [ev_bind_iff hq, ev_bind_iff hx, ev_bind_iff hy, ev_bind_iff hs, ev_bind_iff hc]
    exact ev_neg k (Ev.now _)
theorem pastePx_bytes {W p PW : Int} {D E : List Int} (hD : ∀ z ∈ D, 0 ≤ z ∧ z ≤ 255) (hE : ∀ z ∈ E, 0 ≤ z ∧ z ≤ 255) (ph x y : Int) (i j : Nat) : ∀ z ∈ pastePx W p D PW ph E x y i j, 0 ≤ z ∧ z ≤ 255 := by
  unfold pastePx
  split
  · exact pix_bytes hE _ _ _ _
  · exact pix_bytes hD _ _ _ _
/-- Pasting once more changes nothing. -/
theorem paste_paste {W H p PW PH : Nat} {D E : List Int} (o : NImg W H p D) (q : NImg PW PH p E) (x y : Int) : tab W H (pastePx (W : Int) (p : Int) (tab W H (pastePx (W : Int) (p : Int) D (PW : Int) (PH : Int) E x y)) (PW : Int) (PH : Int) E x y) = tab W H (pastePx (W : Int) (p : Int) D (PW : Int) (PH : Int) E x y) := by
  have ht := (tab_eq W H p (pastePx (W : Int) (p : Int) D (PW : Int) (PH : Int) E x y) (fun i j hi hj => pastePx_length o q x y i j hi hj)).2
  refine tab_congr _ _ _ _ fun i j hi hj => ?_
  have e1 : pastePx (W : Int) (p : Int) (tab W H (pastePx (W : Int) (p : Int) D (PW : Int) (PH : Int) E x y)) (PW : Int) (PH : Int) E x y i j = if x ≤ (i : Int) ∧ (i : Int) < x + PW ∧ y ≤ (j : Int) ∧ (j : Int) < y + PH then pix E ((PW : Int)).toNat ((p : Int)).toNat ((i : Int) - x).toNat ((j : Int) - y).toNat else pix (tab W H (pastePx (W : Int) (p : Int) D (PW : Int) (PH : Int) E x y)) ((W : Int)).toNat ((p : Int)).toNat i j := rfl
  rw [e1]
  by_cases c : x ≤ (i : Int) ∧ (i : Int) < x + PW ∧ y ≤ (j : Int) ∧ (j : Int) < y + PH
  · rw [if_pos c]
    unfold pastePx
    rw [if_pos c]
  · rw [if_neg c, Int.toNat_natCast, Int.toNat_natCast]
    exact ht i j hi hj
theorem FnPasteImage : laws_FnPasteImage.Pure := by
  intro l0 _ _ hw0
  refine Ev.rounds (g := fun k => laws_FnPasteImage.f k l0) (r := true) ?_
  unfold laws_FnPasteImage.f
  by_cases hl : (l0.length : Int) > 1048576
  · exact ev_pos hl (Ev.now _)
  refine ev_neg hl ?_
  obtain ⟨w, h, p, D, x, y, pw, ph, pp, E, hd, hD, hE⟩ := DrawPaste_ok l0 hw0
  have h1 := specPaste_ev w h p D x y pw ph pp E (by omega) (by omega)
  have h2 := implPaste_eq w h p D x y pw ph pp E
  have hlen := pasteP_length w h p D x y pw ph pp E
  have hok : (pasteP w h p D x y pw ph pp E).2.2.2.2 = true → okImg w h p D = true ∧ okImg pw ph pp E = true ∧ (pp = p ∧ -16 ≤ x ∧ x ≤ 16 ∧ -16 ≤ y ∧ y ≤ 16) := by
    unfold pasteP
    split
    · rename_i c
      exact fun _ => c
    · intro e
      exact absurd e (by simp)
  rw [ev_bind_iff hd, h2]
  simp only [Option.bind_some]
  rw [ev_bind_iff h1, ev_bind_iff (equalImage_same _ _ _ _ hlen)]
  refine ev_pos rfl (ev_neg (by simp) ?_)
  by_cases hk : (pasteP w h p D x y pw ph pp E).2.2.2.2 = true
  · obtain ⟨c1, c2, c3, c4, c5, c6, c7⟩ := hok hk
    subst c3
    have e : pasteP w h pp D x y pw ph pp E = (w, h, pp, tab w.toNat h.toNat (pastePx w pp D pw ph E x y), true) := by unfold pasteP; rw [if_pos ⟨c1, c2, rfl, c4, c5, c6, c7⟩]
    clear h1 h2 hlen hok hk
    rw [e]
    simp only
    obtain ⟨oi, hby⟩ := okImg_img c1
    obtain ⟨qi, hbe⟩ := okImg_img c2
    obtain ⟨W, H, P, rfl, rfl, rfl, o⟩ := oi.toN
    obtain ⟨PW, PH, P', rfl, rfl, hP, q⟩ := qi.toN
    obtain rfl : P = P' := by omega
    clear hP
    simp only [Int.toNat_natCast]
    have hpl : ∀ i j, i < W → j < H → (pastePx (W : Int) (P : Int) D (PW : Int) (PH : Int) E x y i j).length = P := fun i j hi hj => pastePx_length o q x y i j hi hj
    have ht := (tab_eq W H P _ hpl).2
    have hu : okImg (W : Int) (H : Int) (P : Int) (tab W H (pastePx (W : Int) (P : Int) D (PW : Int) (PH : Int) E x y)) = true := tab_ok _ o.1 o.2.1 o.2.2.1 hpl (fun i j _ _ => pastePx_bytes hby hbe _ x y i j)
    have hagain : pasteP (W : Int) (H : Int) (P : Int) (tab W H (pastePx (W : Int) (P : Int) D (PW : Int) (PH : Int) E x y)) x y (PW : Int) (PH : Int) (P : Int) E = ((W : Int), (H : Int), (P : Int), tab W H (pastePx (W : Int) (P : Int) D (PW : Int) (PH : Int) E x y), true) := by
      unfold pasteP
      rw [if_pos ⟨hu, c2, rfl, c4, c5, c6, c7⟩]
      simp only [Int.toNat_natCast]
      rw [paste_paste o q x y]
    have hul : (tab W H (pastePx (W : Int) (P : Int) D (PW : Int) (PH : Int) E x y)).length ≤ 2000000 := by
      have := (tab_img (pastePx (W : Int) (P : Int) D (PW : Int) (PH : Int) E x y) o.1 o.2.1 o.2.2.1 hpl).bound
      omega
    have hpx : ∀ i j, i < W → j < H → pixelP (W : Int) (H : Int) (P : Int) (tab W H (pastePx (W : Int) (P : Int) D (PW : Int) (PH : Int) E x y)) (i : Int) (j : Int) = pastePx (W : Int) (P : Int) D (PW : Int) (PH : Int) E x y i j := fun i j hi hj => by
      rw [pixelP_in hu hi hj, ht i j hi hj]
    have hpd : ∀ i j, pastePx (W : Int) (P : Int) D (PW : Int) (PH : Int) E x y i j = if x ≤ (i : Int) ∧ (i : Int) < x + PW ∧ y ≤ (j : Int) ∧ (j : Int) < y + PH then pix E PW P ((i : Int) - x).toNat ((j : Int) - y).toNat else pix D W P i j := fun i j => rfl
    have o1 := o.1
    have o2 := o.2.1
    have o3 := o.2.2.1
    have q1 := q.1
    have q2 := q.2.1
    have hEl : ∀ a b, a < PW → b < PH → (pix E PW P a b).length = P := fun a b ha hb => pix_length E PW PH P a b q.2.2.2 ha hb
    generalize pastePx (W : Int) (P : Int) D (PW : Int) (PH : Int) E x y = F at hpl ht hu hagain hul hpx hpd ⊢
    generalize tab W H F = U at ht hu hagain hul hpx ⊢
    refine Ev.step (f := fun k => laws_FnPasteImage.l0 k x y ((0 : Nat) : Int) (W : Int) (H : Int) (P : Int) D (PW : Int) (PH : Int) (P : Int) E (W : Int) (H : Int) (P : Int) U) (fun k => by simp only [laws_FnPasteImage.j0, Bool.not_true, Bool.false_eq_true, if_false]; rfl) ?_
    refine ev_grid (σ := Unit) (fun k _ j => laws_FnPasteImage.l0 k x y (j : Int) (W : Int) (H : Int) (P : Int) D (PW : Int) (PH : Int) (P : Int) E (W : Int) (H : Int) (P : Int) U) (fun k _ j i => laws_FnPasteImage.l1 k x y (j : Int) (i : Int) (W : Int) (H : Int) (P : Int) D (PW : Int) (PH : Int) (P : Int) E (W : Int) (H : Int) (P : Int) U) W H (fun _ _ => ()) (fun j hj r h => ?_) (fun i j hi hj r h => ?_) (fun j hj r h => ?_) _ ?_
    · refine Ev.step (fun k => ?_) h
      simp only [laws_FnPasteImage.l0]
      rw [if_pos (by omega)]
      rfl
    · have E1 : Aside0 (wrap64 ((i : Int) - x) = (i : Int) - x) := ⟨w64 (by omega) (by omega)⟩
      have E2 : Aside0 (wrap64 ((j : Int) - y) = (j : Int) - y) := ⟨w64 (by omega) (by omega)⟩
      have hi' : i < 1000000000 := by omega
      have hlt : (i : Int) < (W : Int) := by omega
      have hFl : (F i j).length ≤ 2000000 := by rw [hpl i j hi hj]; omega
      have hj3 : Ev (fun k => laws_FnPasteImage.j3 k x y (j : Int) (i : Int) (F i j) (W : Int) (H : Int) (P : Int) D (PW : Int) (PH : Int) (P : Int) E (W : Int) (H : Int) (P : Int) U) r := by
        refine Ev.step (f := fun k => (laws_equalInts.f k (F i j) (F i j)).bind fun t => (if t = true then (laws_FnPasteImage.l1 k x y (j : Int) ((i + 1 : Nat) : Int) (W : Int) (H : Int) (P : Int) D (PW : Int) (PH : Int) (P : Int) E (W : Int) (H : Int) (P : Int) U) else (some false))) (fun k => ?_) ?_
        · simp only [laws_FnPasteImage.j3, implPixel_eq, hpx i j hi hj, Option.bind_some, up1 i hi']
        · rw [ev_bind_iff (laws_equalInts_same _ hFl)]
          exact ev_pos rfl h
      by_cases c : x ≤ (i : Int) ∧ (i : Int) < x + PW ∧ y ≤ (j : Int) ∧ (j : Int) < y + PH
      · have hpE : pixelP (PW : Int) (PH : Int) (P : Int) E ((i : Int) - x) ((j : Int) - y) = F i j := by
          obtain ⟨a, ha⟩ := Int.eq_ofNat_of_zero_le (show 0 ≤ (i : Int) - x by omega)
          obtain ⟨b, hb⟩ := Int.eq_ofNat_of_zero_le (show 0 ≤ (j : Int) - y by omega)
          rw [hpd i j, if_pos c, ha, hb, pixelP_in c2 (by omega) (by omega)]
          rfl
        have hne : ¬ ((F i j).length : Int) = 0 := by rw [hpl i j hi hj]; omega
        refine Ev.step (fun k => ?_) hj3
        simp only [laws_FnPasteImage.l1, E1.out, E2.out, implPixel_eq, hpE, Option.bind_some]
        rw [if_pos hlt, if_neg hne]
      · have hpE : pixelP (PW : Int) (PH : Int) (P : Int) E ((i : Int) - x) ((j : Int) - y) = [] := pixelP_out _ _ _ _ _ _ (by omega)
        have hpD : pixelP (W : Int) (H : Int) (P : Int) D (i : Int) (j : Int) = F i j := by rw [pixelP_in c1 hi hj, hpd i j, if_neg c]
        refine Ev.step (fun k => ?_) hj3
        simp only [laws_FnPasteImage.l1, E1.out, E2.out, implPixel_eq, hpE, hpD, Option.bind_some]
        rw [if_pos hlt, if_pos (show (([] : List Int).length : Int) = 0 by simp)]
    · refine Ev.step (fun k => ?_) h
      simp only [laws_FnPasteImage.l1, up1 j (show j < 1000000000 by omega)]
      rw [if_neg (by omega)]
    · refine Ev.step (f := fun k => (laws_equalImage.f k (W : Int) (H : Int) (P : Int) U (W : Int) (H : Int) (P : Int) U).bind fun t => some t) (fun k => ?_) ?_
      · simp only [laws_FnPasteImage.l0, implPaste_eq, hagain, Option.bind_some, if_true]
        rw [if_neg (by omega)]
      · rw [ev_bind_iff (equalImage_same _ _ _ _ hul)]
        exact Ev.now _
  · have hf := Bool.eq_false_iff.2 hk
    rw [hf]
    refine Ev.step (f := fun k => (laws_equalImage.f k (pasteP w h p D x y pw ph pp E).1 (pasteP w h p D x y pw ph pp E).2.1 (pasteP w h p D x y pw ph pp E).2.2.1 (pasteP w h p D x y pw ph pp E).2.2.2.1 (pasteP w h p D x y pw ph pp E).1 (pasteP w h p D x y pw ph pp E).2.1 (pasteP w h p D x y pw ph pp E).2.2.1 (pasteP w h p D x y pw ph pp E).2.2.2.1).bind fun t => (if t = true then (some (false == false)) else (some false))) (fun k => by simp only [laws_FnPasteImage.j0, Bool.not_false, if_true]) ?_
    rw [ev_bind_iff (equalImage_same _ _ _ _ hlen)]
    exact ev_pos rfl (Ev.now _)

end Go.Proofs.Ytmljcnhecjlinaa.Pure
