/- What InvertImage answers, in the program and in the reference. No conditions. -/
import Derived.Test.YtegicfkcdmhjgaaSpecI2
import Derived.Test.YtegicfkcdmhjgaaQ4
namespace Go.Proofs.Ytegicfkcdmhjgaa.B
open Go.RowKit Go.Proofs.Ytegicfkcdmhjgaa.Q Go.Proofs.YtegicfkcdmhjgaaW.PrintWords Go.Proofs.YtegicfkcdmhjgaaW.PrintLast Go.Proofs.YtegicfkcdmhjgaaW.PrintMore
set_option linter.unusedVariables false

def invertP (w h p : Int) (D : List Int) : Int × Int × Int × List Int := if okImg w h p D = true then (w, h, p, D.map inv) else (0, 0, 0, [])
theorem invertP_length (w h p : Int) (D : List Int) (hn : D.length ≤ 2000000) : (invertP w h p D).2.2.2.length ≤ 2000000 := by
  unfold invertP
  by_cases h : okImg w h p D = true
  · rw [if_pos h]
    simpa using hn
  · rw [if_neg h]
    simp
theorem implInvert_eq (w h p : Int) (D : List Int) : impl_InvertImage.f w h p D = some (invertP w h p D) := by
  unfold impl_InvertImage.f invertP
  by_cases h : okImg w h p D = true
  · rw [if_pos h, if_pos h]
  · rw [if_neg h, if_neg h]
theorem specInvert_ev (w h p : Int) (D : List Int) (hn : D.length ≤ 2000000) : Ev (fun k => spec_InvertImage.f k w h p D) (invertP w h p D) := by
  unfold spec_InvertImage.f invertP
  rw [ev_bind_iff (validImage_ev w h p D hn)]
  by_cases hv : okImg w h p D = true
  · refine ev_pos hv ?_
    rw [specCopyImage_eq w h p D hn]
    simp only [Option.bind_some]
    rw [if_pos hv]
    have := ev_for (fun k (s : List Int) i => spec_InvertImage.l0 k (i : Int) w h p D w h p s) D.length (fun i => invL i D) (fun i hi r g => ?_) (w, h, p, D.map inv) ?_
    · simpa [invL_zero] using this
    · have hi' : i < 1000000000 := by omega
      have p1 : (i : Int) < ((invL i D).length : Int) := by rw [invL_len]; omega
      have p2 : (i : Int) < (D.length : Int) := by omega
      have e := invL_set (i : Int) D (Int.natCast_nonneg i) p2
      rw [Int.toNat_natCast, show ((i : Int) + 1).toNat = i + 1 by omega] at e
      refine Ev.step (fun k => ?_) g
      simp only [spec_InvertImage.l0, up1 i hi', Int.toNat_natCast]
      rw [if_pos p1, if_pos (Int.natCast_nonneg i), if_pos p2, ← e]
      rfl
    · refine Ev.step (f := fun _ => some (w, h, p, D.map inv)) (fun k => ?_) (Ev.now _)
      simp only [spec_InvertImage.l0]
      rw [if_neg (by rw [invL_len]; omega), invL_all]
  · rw [if_neg hv]
    exact ev_neg hv (Ev.now _)
theorem inv_byte {x : Int} (h : 0 ≤ x ∧ x ≤ 255) : inv x = 255 - x := w64 (by omega) (by omega)
theorem inv_inv {D : List Int} (hb : ∀ x ∈ D, 0 ≤ x ∧ x ≤ 255) : (D.map inv).map inv = D := by
  rw [List.map_map]
  conv => rhs; rw [← List.map_id D]
  refine List.map_congr_left fun x hx => ?_
  have h := hb x hx
  show inv (inv x) = x
  rw [inv_byte h, inv_byte (by omega)]
  omega
theorem ok_inv {w h p : Int} {D : List Int} (hv : okImg w h p D = true) : okImg w h p (D.map inv) = true := by
  obtain ⟨o, hb⟩ := okImg_img hv
  refine img_okImg ⟨o.1, o.2.1, o.2.2.1, o.2.2.2.1, o.2.2.2.2.1, o.2.2.2.2.2.1, by rw [List.length_map]; exact o.2.2.2.2.2.2⟩ fun x hx => ?_
  obtain ⟨y, hy, rfl⟩ := List.mem_map.1 hx
  have h := hb y hy
  rw [inv_byte h]
  omega

end Go.Proofs.Ytegicfkcdmhjgaa.B
