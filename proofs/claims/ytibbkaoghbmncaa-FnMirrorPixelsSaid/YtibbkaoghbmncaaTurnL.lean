/- Mirrors, quarters and transposing of tables of pixels, one after the other. No conditions. -/
import Derived.Test.YtibbkaoghbmncaaSpecI
import Derived.Test.YtibbkaoghbmncaaQ3
import Derived.Test.YtibbkaoghbmncaaQ4
import Derived.Test.YtibbkaoghbmncaaQ9
namespace Go.Proofs.Ytibbkaoghbmncaa.B
open Go.RowKit Go.Proofs.Ytibbkaoghbmncaa.Q Go.Proofs.YtibbkaoghbmncaaW.PrintWords Go.Proofs.YtibbkaoghbmncaaW.PrintLast Go.Proofs.YtibbkaoghbmncaaW.PrintMore
set_option linter.unusedVariables false

theorem ok_N {W H p : Nat} {D : List Int} (h : okImg (W : Int) (H : Int) (p : Int) D = true) : NImg W H p D := by
  obtain ⟨W', H', p', e1, e2, e3, o⟩ := (okImg_img h).1.toN
  obtain rfl : W = W' := by omega
  obtain rfl : H = H' := by omega
  obtain rfl : p = p' := by omega
  exact o
def mirN (W H p : Nat) (D : List Int) : List Int := tab W H (mirrorPx W p D)
theorem mir_len {W H p : Nat} {D : List Int} (o : NImg W H p D) (x y : Nat) (hx : x < W) (hy : y < H) : (mirrorPx W p D x y).length = p := pix_length D W H p _ _ o.2.2.2 (by omega) hy
theorem pix_mir {W H p : Nat} {D : List Int} (o : NImg W H p D) (x y : Nat) (hx : x < W) (hy : y < H) : pix (mirN W H p D) W p x y = pix D W p (W - 1 - x) y := (tab_eq W H p _ (mir_len o)).2 x y hx hy
theorem img_mir {W H p : Nat} {D : List Int} (o : NImg W H p D) : NImg W H p (mirN W H p D) := tab_img _ o.1 o.2.1 o.2.2.1 (mir_len o)
theorem ok_mir {W H p : Nat} {D : List Int} (h : okImg (W : Int) (H : Int) (p : Int) D = true) : okImg (W : Int) (H : Int) (p : Int) (mirN W H p D) = true :=
  tab_ok _ (ok_N h).1 (ok_N h).2.1 (ok_N h).2.2.1 (mir_len (ok_N h)) (fun x y _ _ => pix_bytes (okImg_img h).2 _ _ _ _)
theorem mir_mir {W H p : Nat} {D : List Int} (o : NImg W H p D) : mirN W H p (mirN W H p D) = D := by
  refine pix_ext _ _ W H p (img_mir (img_mir o)).2.2.2 o.2.2.2 fun x y hx hy => ?_
  rw [pix_mir (img_mir o) x y hx hy, pix_mir o _ y (by omega) hy, show W - 1 - (W - 1 - x) = x by omega]
def traN (W H p : Nat) (D : List Int) : List Int := tab H W (transposePx W p D)
theorem tra_len {W H p : Nat} {D : List Int} (o : NImg W H p D) (x y : Nat) (hx : x < H) (hy : y < W) : (transposePx W p D x y).length = p := pix_length D W H p _ _ o.2.2.2 hy hx
theorem pix_tra {W H p : Nat} {D : List Int} (o : NImg W H p D) (x y : Nat) (hx : x < H) (hy : y < W) : pix (traN W H p D) H p x y = pix D W p y x := (tab_eq H W p _ (tra_len o)).2 x y hx hy
theorem img_tra {W H p : Nat} {D : List Int} (o : NImg W H p D) : NImg H W p (traN W H p D) := tab_img _ o.2.1 o.1 o.2.2.1 (tra_len o)
theorem ok_tra {W H p : Nat} {D : List Int} (h : okImg (W : Int) (H : Int) (p : Int) D = true) : okImg (H : Int) (W : Int) (p : Int) (traN W H p D) = true :=
  tab_ok _ (ok_N h).2.1 (ok_N h).1 (ok_N h).2.2.1 (tra_len (ok_N h)) (fun x y _ _ => pix_bytes (okImg_img h).2 _ _ _ _)
theorem tra_tra {W H p : Nat} {D : List Int} (o : NImg W H p D) : traN H W p (traN W H p D) = D := by
  refine pix_ext _ _ W H p (img_tra (img_tra o)).2.2.2 o.2.2.2 fun x y hx hy => ?_
  rw [pix_tra (img_tra o) x y hx hy, pix_tra o y x hy hx]
def turN (W H p : Nat) (D : List Int) : List Int := tab H W (turnPx W H p D)
theorem tur_len {W H p : Nat} {D : List Int} (o : NImg W H p D) (x y : Nat) (hx : x < H) (hy : y < W) : (turnPx W H p D x y).length = p := pix_length D W H p _ _ o.2.2.2 hy (by omega)
theorem pix_tur {W H p : Nat} {D : List Int} (o : NImg W H p D) (x y : Nat) (hx : x < H) (hy : y < W) : pix (turN W H p D) H p x y = pix D W p y (H - 1 - x) := (tab_eq H W p _ (tur_len o)).2 x y hx hy
theorem img_tur {W H p : Nat} {D : List Int} (o : NImg W H p D) : NImg H W p (turN W H p D) := tab_img _ o.2.1 o.1 o.2.2.1 (tur_len o)
theorem ok_tur {W H p : Nat} {D : List Int} (h : okImg (W : Int) (H : Int) (p : Int) D = true) : okImg (H : Int) (W : Int) (p : Int) (turN W H p D) = true :=
  tab_ok _ (ok_N h).2.1 (ok_N h).1 (ok_N h).2.2.1 (tur_len (ok_N h)) (fun x y _ _ => pix_bytes (okImg_img h).2 _ _ _ _)
theorem tur4 {W H p : Nat} {D : List Int} (o : NImg W H p D) : turN H W p (turN W H p (turN H W p (turN W H p D))) = D := by
  have o1 := img_tur o
  have o2 := img_tur o1
  have o3 := img_tur o2
  refine pix_ext _ _ W H p (img_tur o3).2.2.2 o.2.2.2 fun x y hx hy => ?_
  rw [pix_tur o3 x y hx hy, pix_tur o2 y _ hy (by omega), pix_tur o1 _ _ (by omega) (by omega), pix_tur o _ _ (by omega) (by omega), show W - 1 - (W - 1 - x) = x by omega, show H - 1 - (H - 1 - y) = y by omega]
theorem tur_mir_tur {W H p : Nat} {D : List Int} (o : NImg W H p D) : turN H W p (mirN H W p (turN W H p D)) = mirN W H p D := by
  have o1 := img_tur o
  have o2 := img_mir o1
  refine pix_ext _ _ W H p (img_tur o2).2.2.2 (img_mir o).2.2.2 fun x y hx hy => ?_
  rw [pix_tur o2 x y hx hy, pix_mir o1 _ _ hy (by omega), pix_tur o _ _ (by omega) (by omega), pix_mir o x y hx hy, show H - 1 - (H - 1 - y) = y by omega]
theorem mir_tur {W H p : Nat} {D : List Int} (o : NImg W H p D) : mirN H W p (turN W H p D) = traN W H p D := by
  have o1 := img_tur o
  refine pix_ext _ _ H W p (img_mir o1).2.2.2 (img_tra o).2.2.2 fun x y hx hy => ?_
  rw [pix_mir o1 x y hx hy, pix_tur o _ _ (by omega) hy, pix_tra o x y hx hy, show H - 1 - (H - 1 - x) = x by omega]

end Go.Proofs.Ytibbkaoghbmncaa.B
