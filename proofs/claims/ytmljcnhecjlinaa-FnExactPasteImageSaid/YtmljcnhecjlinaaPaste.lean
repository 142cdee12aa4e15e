/- What PasteImage answers, in the program. No conditions. -/
import Derived.Test.YtmljcnhecjlinaaSpecI
import Derived.Test.YtmljcnhecjlinaaQ7
namespace Go.Proofs.Ytmljcnhecjlinaa.B
open Go.RowKit Go.Proofs.Ytmljcnhecjlinaa.Q Go.Proofs.YtmljcnhecjlinaaW.PrintWords Go.Proofs.YtmljcnhecjlinaaW.PrintLast Go.Proofs.YtmljcnhecjlinaaW.PrintMore
set_option linter.unusedVariables false

def pasteP (w h p : Int) (D : List Int) (x y : Int) (pw ph pp : Int) (E : List Int) : Int × Int × Int × List Int × Bool :=
  if okImg w h p D = true ∧ okImg pw ph pp E = true ∧ (pp = p ∧ -16 ≤ x ∧ x ≤ 16 ∧ -16 ≤ y ∧ y ≤ 16) then (w, h, p, tab w.toNat h.toNat (pastePx w p D pw ph E x y), true) else (0, 0, 0, [], false)
theorem implPaste_eq (w h p : Int) (D : List Int) (x y pw ph pp : Int) (E : List Int) : impl_PasteImage.f w h p D x y pw ph pp E = some (pasteP w h p D x y pw ph pp E) := by
  unfold impl_PasteImage.f pasteP
  split <;> rfl
theorem pastePx_length {W H p PW PH : Nat} {D E : List Int} (o : NImg W H p D) (q : NImg PW PH p E) (x y : Int) (i j : Nat) (hi : i < W) (hj : j < H) : (pastePx (W : Int) (p : Int) D (PW : Int) (PH : Int) E x y i j).length = p := by
  unfold pastePx
  simp only [Int.toNat_natCast]
  split
  · rename_i c
    exact pix_length E PW PH p _ _ q.2.2.2 (by omega) (by omega)
  · exact pix_length D W H p _ _ o.2.2.2 hi hj
theorem pasteP_length (w h p : Int) (D : List Int) (x y pw ph pp : Int) (E : List Int) : (pasteP w h p D x y pw ph pp E).2.2.2.1.length ≤ 2000000 := by
  unfold pasteP
  by_cases c : okImg w h p D = true ∧ okImg pw ph pp E = true ∧ (pp = p ∧ -16 ≤ x ∧ x ≤ 16 ∧ -16 ≤ y ∧ y ≤ 16)
  · rw [if_pos c]
    obtain ⟨c1, c2, c3, _⟩ := c
    subst c3
    obtain ⟨W, H, P, rfl, rfl, rfl, o⟩ := (okImg_img c1).1.toN
    obtain ⟨PW, PH, P', rfl, rfl, hP, q⟩ := (okImg_img c2).1.toN
    obtain rfl : P = P' := by omega
    have hl := (tab_eq W H P (pastePx (W : Int) (P : Int) D (PW : Int) (PH : Int) E x y) (fun i j hi hj => pastePx_length o q x y i j hi hj)).1
    simp only [Int.toNat_natCast]
    have := o.bound
    rw [o.2.2.2] at this
    omega
  · rw [if_neg c]
    simp

end Go.Proofs.Ytmljcnhecjlinaa.B
