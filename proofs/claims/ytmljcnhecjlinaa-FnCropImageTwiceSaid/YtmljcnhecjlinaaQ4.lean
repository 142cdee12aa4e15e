-- Written by a program of this session (the kit's printer, with hand-proved contracts for the functions that it does not take).
import Derived.Test.YtmljcnhecjlinaaQ0
import Derived.Test.YtmljcnhecjlinaaQ1
import Derived.Test.YtmljcnhecjlinaaQ3
import Derived.Test.YtmljcnhecjlinaaQ9
namespace Go.Proofs.Ytmljcnhecjlinaa.Q
open Go.RowKit Go.Proofs.YtmljcnhecjlinaaW.PrintWords Go.Proofs.YtmljcnhecjlinaaW.PrintLast Go.Proofs.YtmljcnhecjlinaaW.PrintMore
attribute [local go_sem] max2_int min2_int max_two min_two max_three min_three max_four min_four   -- for this text's walks alone
set_option linter.unusedVariables false
set_option linter.unusedSimpArgs false

/-! ### impl_CropImage: function 12 (by hand) -/
-- GIVEN loop.example/pixelworks/impl.CropImage
-- ROUNDS no
-- MAKING yes
def okBox (w h x y bw bh : Int) : Bool := decide (0 ≤ x ∧ x < w ∧ 0 ≤ y ∧ y < h ∧ 1 ≤ bw ∧ bw ≤ w - x ∧ 1 ≤ bh ∧ bh ≤ h - y)
def impl_CropImage.f (a0_0 : Int) (a0_1 : Int) (a0_2 : Int) (l0_3 : List Int) (a1_0 : Int) (a1_1 : Int) (a1_2 : Int) (a1_3 : Int) : Option (Int × Int × Int × List Int × Bool) :=
  if B.okImg a0_0 a0_1 a0_2 l0_3 = true ∧ okBox a0_0 a0_1 a1_0 a1_1 a1_2 a1_3 = true then some (a1_2, a1_3, a0_2, B.tab a1_2.toNat a1_3.toNat (fun x y => B.pix l0_3 a0_0.toNat a0_2.toNat (a1_0.toNat + x) (a1_1.toNat + y)), true) else some (0, 0, 0, [], false)
theorem isBoxOn_ok (w h p : Int) (D : List Int) (x y bw bh : Int) (o : B.ImgI w h p D) : impl_isBoxOn.f w h p D x y bw bh = some (okBox w h x y bw bh) := by
  obtain ⟨a1, a2, a3, a4, _⟩ := o
  unfold impl_isBoxOn.f okBox
  by_cases c1 : x ≥ 0
  · rw [if_pos c1]
    by_cases c2 : x < w
    · rw [if_pos c2, B.w64 (x := w - x) (by omega) (by omega)]
      by_cases c3 : y ≥ 0
      · rw [if_pos c3]
        by_cases c4 : y < h
        · rw [if_pos c4, B.w64 (x := h - y) (by omega) (by omega)]
          by_cases c5 : bw ≥ 1
          · rw [if_pos c5]
            by_cases c6 : bw ≤ w - x
            · rw [if_pos c6]
              by_cases c7 : bh ≥ 1
              · rw [if_pos c7]
                congr 1
                rw [decide_eq_decide]
                omega
              · rw [if_neg c7]
                simp
                omega
            · rw [if_neg c6]
              simp
              omega
          · rw [if_neg c5]
            simp
            omega
        · rw [if_neg c4]
          simp
          omega
      · rw [if_neg c3]
        simp
        omega
    · rw [if_neg c2]
      simp
      omega
  · rw [if_neg c1]
    simp
    omega
set_option maxHeartbeats 2000000 in
theorem crop_pix (gm gb : Nat) (a0_0 a0_1 a0_2 : Int) (A0 : Option Addr) (c0 : Nat) (D : List Int) (b0 b1 b2 b3 : Int) (w : World) (hm : w.heap[gm]? = some (.cells #[.int .i64 a0_0, .int .i64 a0_1, .int .i64 a0_2, .slice A0 D.length c0] 28 (0, 0)))
    (hb : w.heap[gb]? = some (.cells #[.int .i64 b0, .int .i64 b1, .int .i64 b2, .int .i64 b3] 32 (0, 0))) (ho : B.ImgI a0_0 a0_1 a0_2 D) (hx : okBox a0_0 a0_1 b0 b1 b2 b3 = true) (hr : Kd.C (Kd.int .i64) w A0 D.length D) (hc : D.length ≤ c0) :
    PixG 31 #[.pointer (some ⟨gm, 0, none⟩), .pointer (some ⟨gb, 0, none⟩)] b2 b3 (fun x y => B.pix D a0_0.toNat a0_2.toNat (b0.toNat + x) (b1.toNat + y)) w := fun W x y x0 x1 y0 y1 hB => by
  have hm' := blk_below hm hB
  have hb' := blk_below hb hB
  have hr' := Kd.C_below hr hB
  have hm0 : W.cell? ⟨gm, 0, none⟩ = some (.int .i64 a0_0) := (blk_cell hm' 0).trans rfl
  have hm1 : W.cell? ⟨gm, 1, none⟩ = some (.int .i64 a0_1) := (blk_cell hm' 1).trans rfl
  have hm2 : W.cell? ⟨gm, 2, none⟩ = some (.int .i64 a0_2) := (blk_cell hm' 2).trans rfl
  have hm3 : W.cell? ⟨gm, 3, none⟩ = some (.slice A0 D.length c0) := (blk_cell hm' 3).trans rfl
  have hb0 : W.cell? ⟨gb, 0, none⟩ = some (.int .i64 b0) := (blk_cell hb' 0).trans rfl
  have hb1 : W.cell? ⟨gb, 1, none⟩ = some (.int .i64 b1) := (blk_cell hb' 1).trans rfl
  have hu28 := Try.underlying28
  unfold okBox at hx
  rw [decide_eq_true_eq] at hx
  have hd := ho
  obtain ⟨d1, d2, d3, d4, _⟩ := hd
  obtain ⟨sx, hsx⟩ : ∃ s : Int, wrap64 (b0 + x) = s := ⟨_, rfl⟩
  obtain ⟨sy, hsy⟩ : ∃ s : Int, wrap64 (b1 + y) = s := ⟨_, rfl⟩
  have ex : sx = b0 + x := by rw [← hsx]; exact B.w64 (by omega) (by omega)
  have ey : sy = b1 + y := by rw [← hsy]; exact B.w64 (by omega) (by omega)
  have hsx' : IntKind.i64.wrap (b0 + x) = sx := (i64_w _).trans hsx
  have hsy' : IntKind.i64.wrap (b1 + y) = sy := (i64_w _).trans hsy
  have e1 : b0.toNat + x.toNat = sx.toNat := by omega
  have e2 : b1.toNat + y.toNat = sy.toNat := by omega
  have HC := at_calls a0_0 a0_1 a0_2 sx sy A0 c0 D W ho ⟨by omega, by omega⟩ ⟨by omega, by omega⟩ hr' hc
  simp only [e1, e2]
  clear e1 e2 ex ey hx ho d1 d2 d3 d4 hr' hr hc hm hb hm' hb' hB x0 x1 y0 y1
  generalize B.pix D a0_0.toNat a0_2.toNat sx.toNat sy.toNat = px at HC ⊢
  go_enter Try.func31, Try.ntmps31
  go_wp2_with fail
  refine HC.mono ?_
  rintro e w' ⟨A1, c1, rfl, hc1, hC, hb⟩
  go_wp2
  go_ret
  exact ⟨A1, c1, rfl, hc1, hC, hb⟩
set_option maxHeartbeats 4000000 in
theorem crop_no (a0_0 : Int) (a0_1 : Int) (a0_2 : Int) (A0_3 : Option Addr) (c0_3 : Nat) (l0_3 : List Int) (a1_0 : Int) (a1_1 : Int) (a1_2 : Int) (a1_3 : Int) (w : World) (hr0_3 : Kd.C (Kd.int .i64) w A0_3 l0_3.length l0_3) (hc0_3 : l0_3.length ≤ c0_3) (hv : B.okImg a0_0 a0_1 a0_2 l0_3 = false) :
    Calls Try.prog 12 #[.agg #[.int .i64 a0_0, .int .i64 a0_1, .int .i64 a0_2, .slice A0_3 l0_3.length c0_3], .agg #[.int .i64 a1_0, .int .i64 a1_1, .int .i64 a1_2, .int .i64 a1_3]] w fun e w' => ∃ v3_ : Value, e = .returned (.tuple #[.agg #[.int .i64 0, .int .i64 0, .int .i64 0, v3_], .bool false]) ∧ Kd.R (Kd.int .i64) 3 w' w.heap.size (fun _ => True) v3_ [] ∧ Below w.heap.size w w' := by
  have hu28 := Try.underlying28
  have hu32 := Try.underlying32
  have H1 := Aside0.mk (fun (W : World) (hW : Below w.heap.size w W) => impl_isImage.calls a0_0 a0_1 a0_2 A0_3 c0_3 l0_3 false W (Kd.C_below hr0_3 hW) hc0_3 (by rw [isImage_ok, hv]))
  have BM : Aside0 ((((w.alloc (.cells #[.int .i64 a0_0, .int .i64 a0_1, .int .i64 a0_2, .slice A0_3 l0_3.length c0_3] 28)).alloc (.cells #[.int .i64 a1_0, .int .i64 a1_1, .int .i64 a1_2, .int .i64 a1_3] 32)).alloc (.cells #[.int .i64 0, .int .i64 0, .int .i64 0, .slice none 0 0] 28)).heap[w.heap.size]? = some (.cells #[.int .i64 a0_0, .int .i64 a0_1, .int .i64 a0_2, .slice A0_3 l0_3.length c0_3] 28 (0, 0))) := ⟨(blk_alloc (blk_alloc (heap_alloc_new w (.cells #[.int .i64 a0_0, .int .i64 a0_1, .int .i64 a0_2, .slice A0_3 l0_3.length c0_3] 28)) _) _)⟩
  have BB : Aside0 ((((w.alloc (.cells #[.int .i64 a0_0, .int .i64 a0_1, .int .i64 a0_2, .slice A0_3 l0_3.length c0_3] 28)).alloc (.cells #[.int .i64 a1_0, .int .i64 a1_1, .int .i64 a1_2, .int .i64 a1_3] 32)).alloc (.cells #[.int .i64 0, .int .i64 0, .int .i64 0, .slice none 0 0] 28)).heap[w.heap.size + 1]? = some (.cells #[.int .i64 a1_0, .int .i64 a1_1, .int .i64 a1_2, .int .i64 a1_3] 32 (0, 0))) := ⟨(blk_alloc (by simpa using heap_alloc_new (w.alloc (.cells #[.int .i64 a0_0, .int .i64 a0_1, .int .i64 a0_2, .slice A0_3 l0_3.length c0_3] 28)) (.cells #[.int .i64 a1_0, .int .i64 a1_1, .int .i64 a1_2, .int .i64 a1_3] 32)) _)⟩
  have BZ : Aside0 ((((w.alloc (.cells #[.int .i64 a0_0, .int .i64 a0_1, .int .i64 a0_2, .slice A0_3 l0_3.length c0_3] 28)).alloc (.cells #[.int .i64 a1_0, .int .i64 a1_1, .int .i64 a1_2, .int .i64 a1_3] 32)).alloc (.cells #[.int .i64 0, .int .i64 0, .int .i64 0, .slice none 0 0] 28)).heap[w.heap.size + 2]? = some (.cells #[.int .i64 0, .int .i64 0, .int .i64 0, .slice none 0 0] 28 (0, 0))) := ⟨(by simpa using heap_alloc_new ((w.alloc (.cells #[.int .i64 a0_0, .int .i64 a0_1, .int .i64 a0_2, .slice A0_3 l0_3.length c0_3] 28)).alloc (.cells #[.int .i64 a1_0, .int .i64 a1_1, .int .i64 a1_2, .int .i64 a1_3] 32)) (.cells #[.int .i64 0, .int .i64 0, .int .i64 0, .slice none 0 0] 28))⟩
  have HB : Aside0 (Below w.heap.size w (((w.alloc (.cells #[.int .i64 a0_0, .int .i64 a0_1, .int .i64 a0_2, .slice A0_3 l0_3.length c0_3] 28)).alloc (.cells #[.int .i64 a1_0, .int .i64 a1_1, .int .i64 a1_2, .int .i64 a1_3] 32)).alloc (.cells #[.int .i64 0, .int .i64 0, .int .i64 0, .slice none 0 0] 28))) := ⟨(below_alloc (below_alloc (below_alloc (Below.refl _ _) _) _) _)⟩
  clear hv hr0_3 hc0_3
  go_enter Try.func12, Try.ntmps12
  go_wp2_with fail
  refine (H1.out _ HB.out).mono ?_
  rintro e w1 ⟨rfl, hb1⟩
  have n0_ := Aside0.mk (blk_below BM.out hb1)
  have n1_ := Aside0.mk (blk_below BB.out hb1)
  have n2_ := Aside0.mk (blk_below BZ.out hb1)
  have nb_ := Aside0.mk (below_step HB.out hb1)
  clear BM BB BZ HB hb1
  have BM := n0_
  have BB := n1_
  have BZ := n2_
  have HB := nb_
  clear n0_ n1_ n2_ nb_
  have hcBM0 := B.bc BM 0
  have hcBM1 := B.bc BM 1
  have hcBM2 := B.bc BM 2
  have hcBM3 := B.bc BM 3
  have hcBB0 := B.bc BB 0
  have hcBB1 := B.bc BB 1
  have hcBB2 := B.bc BB 2
  have hcBB3 := B.bc BB 3
  have hcBZ0 := B.bc BZ 0
  have hcBZ1 := B.bc BZ 1
  have hcBZ2 := B.bc BZ 2
  have hcBZ3 := B.bc BZ 3
  have hfBZ0 := blk_frozen BZ.out 0
  have hfBZ1 := blk_frozen BZ.out 1
  have hfBZ2 := blk_frozen BZ.out 2
  have hfBZ3 := blk_frozen BZ.out 3
  go_wp2
  refine bodyPost_ret (results_ct rfl _ _ (w.heap.size + 2) 28 #[.int .i64 0, .int .i64 0, .int .i64 0, .slice none 0 0] (0, 0) _ rfl (by first | exact BZ.out | (refine blk_put (cs := #[.int .i64 0, .int .i64 0, .int .i64 0, .slice none 0 0]) ?_ 3 _ rfl; refine blk_put (cs := #[.int .i64 0, .int .i64 0, .int .i64 0, .slice none 0 0]) ?_ 2 _ rfl; refine blk_put (cs := #[.int .i64 0, .int .i64 0, .int .i64 0, .slice none 0 0]) ?_ 1 _ rfl; refine blk_put (cs := #[.int .i64 0, .int .i64 0, .int .i64 0, .slice none 0 0]) ?_ 0 _ rfl; exact BZ.out)) Try.underlying28 rfl (by kernel_rfl)) rfl ?_
  exact ⟨_, by first | rfl | (simp; done), Kd.R_nil _ _ _ _ _, by first | exact HB.out | exact (below_set (below_set (below_set (below_set HB.out (by omega)) (by omega)) (by omega)) (by omega))⟩
set_option maxHeartbeats 4000000 in
theorem crop_box (a0_0 : Int) (a0_1 : Int) (a0_2 : Int) (A0_3 : Option Addr) (c0_3 : Nat) (l0_3 : List Int) (a1_0 : Int) (a1_1 : Int) (a1_2 : Int) (a1_3 : Int) (w : World) (hr0_3 : Kd.C (Kd.int .i64) w A0_3 l0_3.length l0_3) (hc0_3 : l0_3.length ≤ c0_3) (hv : B.okImg a0_0 a0_1 a0_2 l0_3 = true) (hb : okBox a0_0 a0_1 a1_0 a1_1 a1_2 a1_3 = false) :
    Calls Try.prog 12 #[.agg #[.int .i64 a0_0, .int .i64 a0_1, .int .i64 a0_2, .slice A0_3 l0_3.length c0_3], .agg #[.int .i64 a1_0, .int .i64 a1_1, .int .i64 a1_2, .int .i64 a1_3]] w fun e w' => ∃ v3_ : Value, e = .returned (.tuple #[.agg #[.int .i64 0, .int .i64 0, .int .i64 0, v3_], .bool false]) ∧ Kd.R (Kd.int .i64) 3 w' w.heap.size (fun _ => True) v3_ [] ∧ Below w.heap.size w w' := by
  have hu28 := Try.underlying28
  have hu32 := Try.underlying32
  have H1 := Aside0.mk (fun (W : World) (hW : Below w.heap.size w W) => impl_isImage.calls a0_0 a0_1 a0_2 A0_3 c0_3 l0_3 true W (Kd.C_below hr0_3 hW) hc0_3 (by rw [isImage_ok, hv]))
  have H2 := Aside0.mk (fun (W : World) (hW : Below w.heap.size w W) => impl_isBoxOn.calls a0_0 a0_1 a0_2 A0_3 c0_3 l0_3 a1_0 a1_1 a1_2 a1_3 false W (Kd.C_below hr0_3 hW) hc0_3 (by rw [isBoxOn_ok _ _ _ _ _ _ _ _ (B.okImg_img hv).1, hb]))
  have BM : Aside0 ((((w.alloc (.cells #[.int .i64 a0_0, .int .i64 a0_1, .int .i64 a0_2, .slice A0_3 l0_3.length c0_3] 28)).alloc (.cells #[.int .i64 a1_0, .int .i64 a1_1, .int .i64 a1_2, .int .i64 a1_3] 32)).alloc (.cells #[.int .i64 0, .int .i64 0, .int .i64 0, .slice none 0 0] 28)).heap[w.heap.size]? = some (.cells #[.int .i64 a0_0, .int .i64 a0_1, .int .i64 a0_2, .slice A0_3 l0_3.length c0_3] 28 (0, 0))) := ⟨(blk_alloc (blk_alloc (heap_alloc_new w (.cells #[.int .i64 a0_0, .int .i64 a0_1, .int .i64 a0_2, .slice A0_3 l0_3.length c0_3] 28)) _) _)⟩
  have BB : Aside0 ((((w.alloc (.cells #[.int .i64 a0_0, .int .i64 a0_1, .int .i64 a0_2, .slice A0_3 l0_3.length c0_3] 28)).alloc (.cells #[.int .i64 a1_0, .int .i64 a1_1, .int .i64 a1_2, .int .i64 a1_3] 32)).alloc (.cells #[.int .i64 0, .int .i64 0, .int .i64 0, .slice none 0 0] 28)).heap[w.heap.size + 1]? = some (.cells #[.int .i64 a1_0, .int .i64 a1_1, .int .i64 a1_2, .int .i64 a1_3] 32 (0, 0))) := ⟨(blk_alloc (by simpa using heap_alloc_new (w.alloc (.cells #[.int .i64 a0_0, .int .i64 a0_1, .int .i64 a0_2, .slice A0_3 l0_3.length c0_3] 28)) (.cells #[.int .i64 a1_0, .int .i64 a1_1, .int .i64 a1_2, .int .i64 a1_3] 32)) _)⟩
  have BZ : Aside0 ((((w.alloc (.cells #[.int .i64 a0_0, .int .i64 a0_1, .int .i64 a0_2, .slice A0_3 l0_3.length c0_3] 28)).alloc (.cells #[.int .i64 a1_0, .int .i64 a1_1, .int .i64 a1_2, .int .i64 a1_3] 32)).alloc (.cells #[.int .i64 0, .int .i64 0, .int .i64 0, .slice none 0 0] 28)).heap[w.heap.size + 2]? = some (.cells #[.int .i64 0, .int .i64 0, .int .i64 0, .slice none 0 0] 28 (0, 0))) := ⟨(by simpa using heap_alloc_new ((w.alloc (.cells #[.int .i64 a0_0, .int .i64 a0_1, .int .i64 a0_2, .slice A0_3 l0_3.length c0_3] 28)).alloc (.cells #[.int .i64 a1_0, .int .i64 a1_1, .int .i64 a1_2, .int .i64 a1_3] 32)) (.cells #[.int .i64 0, .int .i64 0, .int .i64 0, .slice none 0 0] 28))⟩
  have HB : Aside0 (Below w.heap.size w (((w.alloc (.cells #[.int .i64 a0_0, .int .i64 a0_1, .int .i64 a0_2, .slice A0_3 l0_3.length c0_3] 28)).alloc (.cells #[.int .i64 a1_0, .int .i64 a1_1, .int .i64 a1_2, .int .i64 a1_3] 32)).alloc (.cells #[.int .i64 0, .int .i64 0, .int .i64 0, .slice none 0 0] 28))) := ⟨(below_alloc (below_alloc (below_alloc (Below.refl _ _) _) _) _)⟩
  clear hb hv hr0_3 hc0_3
  go_enter Try.func12, Try.ntmps12
  go_wp2_with fail
  refine (H1.out _ HB.out).mono ?_
  rintro e w1 ⟨rfl, hb1⟩
  have n0_ := Aside0.mk (blk_below BM.out hb1)
  have n1_ := Aside0.mk (blk_below BB.out hb1)
  have n2_ := Aside0.mk (blk_below BZ.out hb1)
  have nb_ := Aside0.mk (below_step HB.out hb1)
  clear BM BB BZ HB hb1
  have BM := n0_
  have BB := n1_
  have BZ := n2_
  have HB := nb_
  clear n0_ n1_ n2_ nb_
  have hcBM0 := B.bc BM 0
  have hcBM1 := B.bc BM 1
  have hcBM2 := B.bc BM 2
  have hcBM3 := B.bc BM 3
  have hcBB0 := B.bc BB 0
  have hcBB1 := B.bc BB 1
  have hcBB2 := B.bc BB 2
  have hcBB3 := B.bc BB 3
  go_wp2_with fail
  refine (H2.out _ HB.out).mono ?_
  rintro e w2 ⟨rfl, hb2⟩
  clear hcBM0 hcBM1 hcBM2 hcBM3
  clear hcBB0 hcBB1 hcBB2 hcBB3
  have n0_ := Aside0.mk (blk_below BM.out hb2)
  have n1_ := Aside0.mk (blk_below BB.out hb2)
  have n2_ := Aside0.mk (blk_below BZ.out hb2)
  have nb_ := Aside0.mk (below_step HB.out hb2)
  clear BM BB BZ HB hb2
  have BM := n0_
  have BB := n1_
  have BZ := n2_
  have HB := nb_
  clear n0_ n1_ n2_ nb_
  have hcBM0 := B.bc BM 0
  have hcBM1 := B.bc BM 1
  have hcBM2 := B.bc BM 2
  have hcBM3 := B.bc BM 3
  have hcBB0 := B.bc BB 0
  have hcBB1 := B.bc BB 1
  have hcBB2 := B.bc BB 2
  have hcBB3 := B.bc BB 3
  have hcBZ0 := B.bc BZ 0
  have hcBZ1 := B.bc BZ 1
  have hcBZ2 := B.bc BZ 2
  have hcBZ3 := B.bc BZ 3
  have hfBZ0 := blk_frozen BZ.out 0
  have hfBZ1 := blk_frozen BZ.out 1
  have hfBZ2 := blk_frozen BZ.out 2
  have hfBZ3 := blk_frozen BZ.out 3
  go_wp2
  refine bodyPost_ret (results_ct rfl _ _ (w.heap.size + 2) 28 #[.int .i64 0, .int .i64 0, .int .i64 0, .slice none 0 0] (0, 0) _ rfl (by first | exact BZ.out | (refine blk_put (cs := #[.int .i64 0, .int .i64 0, .int .i64 0, .slice none 0 0]) ?_ 3 _ rfl; refine blk_put (cs := #[.int .i64 0, .int .i64 0, .int .i64 0, .slice none 0 0]) ?_ 2 _ rfl; refine blk_put (cs := #[.int .i64 0, .int .i64 0, .int .i64 0, .slice none 0 0]) ?_ 1 _ rfl; refine blk_put (cs := #[.int .i64 0, .int .i64 0, .int .i64 0, .slice none 0 0]) ?_ 0 _ rfl; exact BZ.out)) Try.underlying28 rfl (by kernel_rfl)) rfl ?_
  exact ⟨_, by first | rfl | (simp; done), Kd.R_nil _ _ _ _ _, by first | exact HB.out | exact (below_set (below_set (below_set (below_set HB.out (by omega)) (by omega)) (by omega)) (by omega))⟩
set_option maxHeartbeats 4000000 in
theorem crop_yes (a0_0 : Int) (a0_1 : Int) (a0_2 : Int) (A0_3 : Option Addr) (c0_3 : Nat) (l0_3 : List Int) (a1_0 : Int) (a1_1 : Int) (a1_2 : Int) (a1_3 : Int) (w : World) (hr0_3 : Kd.C (Kd.int .i64) w A0_3 l0_3.length l0_3) (hc0_3 : l0_3.length ≤ c0_3) (hv : B.okImg a0_0 a0_1 a0_2 l0_3 = true) (hb : okBox a0_0 a0_1 a1_0 a1_1 a1_2 a1_3 = true) :
    Calls Try.prog 12 #[.agg #[.int .i64 a0_0, .int .i64 a0_1, .int .i64 a0_2, .slice A0_3 l0_3.length c0_3], .agg #[.int .i64 a1_0, .int .i64 a1_1, .int .i64 a1_2, .int .i64 a1_3]] w fun e w' => ∃ v3_ : Value, e = .returned (.tuple #[.agg #[.int .i64 a1_2, .int .i64 a1_3, .int .i64 a0_2, v3_], .bool true]) ∧ Kd.R (Kd.int .i64) 3 w' w.heap.size (fun _ => True) v3_ (B.tab a1_2.toNat a1_3.toNat (fun x y => B.pix l0_3 a0_0.toNat a0_2.toNat (a1_0.toNat + x) (a1_1.toNat + y))) ∧ Below w.heap.size w w' := by
  have hu28 := Try.underlying28
  have hu32 := Try.underlying32
  have H1 := Aside0.mk (fun (W : World) (hW : Below w.heap.size w W) => impl_isImage.calls a0_0 a0_1 a0_2 A0_3 c0_3 l0_3 true W (Kd.C_below hr0_3 hW) hc0_3 (by rw [isImage_ok, hv]))
  have H2 := Aside0.mk (fun (W : World) (hW : Below w.heap.size w W) => impl_isBoxOn.calls a0_0 a0_1 a0_2 A0_3 c0_3 l0_3 a1_0 a1_1 a1_2 a1_3 true W (Kd.C_below hr0_3 hW) hc0_3 (by rw [isBoxOn_ok _ _ _ _ _ _ _ _ (B.okImg_img hv).1, hb]))
  have ho := (B.okImg_img hv).1
  have hbx : 1 ≤ a1_2 ∧ a1_2 ≤ 16 ∧ 1 ≤ a1_3 ∧ a1_3 ≤ 16 := by
    have hd := hb
    unfold okBox at hd
    rw [decide_eq_true_eq] at hd
    obtain ⟨d1, d2, d3, d4, _⟩ := ho
    omega
  have hpl : ∀ x y, x < a1_2.toNat → y < a1_3.toNat → (B.pix l0_3 a0_0.toNat a0_2.toNat (a1_0.toNat + x) (a1_1.toNat + y)).length ≤ 4 := fun x y _ _ => by
    unfold B.pix B.chunk
    rw [List.length_take]
    have := ho.2.2.2.2.2.1
    omega
  have H3 := Aside0.mk (fun (W : World) (hW : Below w.heap.size w W) (hm : W.heap[w.heap.size]? = some (.cells #[.int .i64 a0_0, .int .i64 a0_1, .int .i64 a0_2, .slice A0_3 l0_3.length c0_3] 28 (0, 0))) (hbb : W.heap[w.heap.size + 1]? = some (.cells #[.int .i64 a1_0, .int .i64 a1_1, .int .i64 a1_2, .int .i64 a1_3] 32 (0, 0))) => imageBy_calls a1_2 a1_3 a0_2 31 #[.pointer (some ⟨w.heap.size, 0, none⟩), .pointer (some ⟨w.heap.size + 1, 0, none⟩)] (call_enters Try.func31 (by kernel_rfl) rfl) (fun x y => B.pix l0_3 a0_0.toNat a0_2.toNat (a1_0.toNat + x) (a1_1.toNat + y)) W ⟨hbx.1, hbx.2.1⟩ hbx.2.2 hpl (crop_pix w.heap.size (w.heap.size + 1) a0_0 a0_1 a0_2 A0_3 c0_3 l0_3 a1_0 a1_1 a1_2 a1_3 W hm hbb ho hb (Kd.C_below hr0_3 hW) hc0_3))
  generalize B.tab a1_2.toNat a1_3.toNat (fun x y => B.pix l0_3 a0_0.toNat a0_2.toNat (a1_0.toNat + x) (a1_1.toNat + y)) = tb at H3 ⊢
  clear ho hbx hpl
  have BM : Aside0 ((((w.alloc (.cells #[.int .i64 a0_0, .int .i64 a0_1, .int .i64 a0_2, .slice A0_3 l0_3.length c0_3] 28)).alloc (.cells #[.int .i64 a1_0, .int .i64 a1_1, .int .i64 a1_2, .int .i64 a1_3] 32)).alloc (.cells #[.int .i64 0, .int .i64 0, .int .i64 0, .slice none 0 0] 28)).heap[w.heap.size]? = some (.cells #[.int .i64 a0_0, .int .i64 a0_1, .int .i64 a0_2, .slice A0_3 l0_3.length c0_3] 28 (0, 0))) := ⟨(blk_alloc (blk_alloc (heap_alloc_new w (.cells #[.int .i64 a0_0, .int .i64 a0_1, .int .i64 a0_2, .slice A0_3 l0_3.length c0_3] 28)) _) _)⟩
  have BB : Aside0 ((((w.alloc (.cells #[.int .i64 a0_0, .int .i64 a0_1, .int .i64 a0_2, .slice A0_3 l0_3.length c0_3] 28)).alloc (.cells #[.int .i64 a1_0, .int .i64 a1_1, .int .i64 a1_2, .int .i64 a1_3] 32)).alloc (.cells #[.int .i64 0, .int .i64 0, .int .i64 0, .slice none 0 0] 28)).heap[w.heap.size + 1]? = some (.cells #[.int .i64 a1_0, .int .i64 a1_1, .int .i64 a1_2, .int .i64 a1_3] 32 (0, 0))) := ⟨(blk_alloc (by simpa using heap_alloc_new (w.alloc (.cells #[.int .i64 a0_0, .int .i64 a0_1, .int .i64 a0_2, .slice A0_3 l0_3.length c0_3] 28)) (.cells #[.int .i64 a1_0, .int .i64 a1_1, .int .i64 a1_2, .int .i64 a1_3] 32)) _)⟩
  have BZ : Aside0 ((((w.alloc (.cells #[.int .i64 a0_0, .int .i64 a0_1, .int .i64 a0_2, .slice A0_3 l0_3.length c0_3] 28)).alloc (.cells #[.int .i64 a1_0, .int .i64 a1_1, .int .i64 a1_2, .int .i64 a1_3] 32)).alloc (.cells #[.int .i64 0, .int .i64 0, .int .i64 0, .slice none 0 0] 28)).heap[w.heap.size + 2]? = some (.cells #[.int .i64 0, .int .i64 0, .int .i64 0, .slice none 0 0] 28 (0, 0))) := ⟨(by simpa using heap_alloc_new ((w.alloc (.cells #[.int .i64 a0_0, .int .i64 a0_1, .int .i64 a0_2, .slice A0_3 l0_3.length c0_3] 28)).alloc (.cells #[.int .i64 a1_0, .int .i64 a1_1, .int .i64 a1_2, .int .i64 a1_3] 32)) (.cells #[.int .i64 0, .int .i64 0, .int .i64 0, .slice none 0 0] 28))⟩
  have HB : Aside0 (Below w.heap.size w (((w.alloc (.cells #[.int .i64 a0_0, .int .i64 a0_1, .int .i64 a0_2, .slice A0_3 l0_3.length c0_3] 28)).alloc (.cells #[.int .i64 a1_0, .int .i64 a1_1, .int .i64 a1_2, .int .i64 a1_3] 32)).alloc (.cells #[.int .i64 0, .int .i64 0, .int .i64 0, .slice none 0 0] 28))) := ⟨(below_alloc (below_alloc (below_alloc (Below.refl _ _) _) _) _)⟩
  clear hb hv hr0_3 hc0_3
  go_enter Try.func12, Try.ntmps12
  go_wp2_with fail
  refine (H1.out _ HB.out).mono ?_
  rintro e w1 ⟨rfl, hb1⟩
  have n0_ := Aside0.mk (blk_below BM.out hb1)
  have n1_ := Aside0.mk (blk_below BB.out hb1)
  have n2_ := Aside0.mk (blk_below BZ.out hb1)
  have nb_ := Aside0.mk (below_step HB.out hb1)
  clear BM BB BZ HB hb1
  have BM := n0_
  have BB := n1_
  have BZ := n2_
  have HB := nb_
  clear n0_ n1_ n2_ nb_
  have hcBM0 := B.bc BM 0
  have hcBM1 := B.bc BM 1
  have hcBM2 := B.bc BM 2
  have hcBM3 := B.bc BM 3
  have hcBB0 := B.bc BB 0
  have hcBB1 := B.bc BB 1
  have hcBB2 := B.bc BB 2
  have hcBB3 := B.bc BB 3
  go_wp2_with fail
  refine (H2.out _ HB.out).mono ?_
  rintro e w2 ⟨rfl, hb2⟩
  clear hcBM0 hcBM1 hcBM2 hcBM3
  clear hcBB0 hcBB1 hcBB2 hcBB3
  have n0_ := Aside0.mk (blk_below BM.out hb2)
  have n1_ := Aside0.mk (blk_below BB.out hb2)
  have n2_ := Aside0.mk (blk_below BZ.out hb2)
  have nb_ := Aside0.mk (below_step HB.out hb2)
  clear BM BB BZ HB hb2
  have BM := n0_
  have BB := n1_
  have BZ := n2_
  have HB := nb_
  clear n0_ n1_ n2_ nb_
  have hcBM0 := B.bc BM 0
  have hcBM1 := B.bc BM 1
  have hcBM2 := B.bc BM 2
  have hcBM3 := B.bc BM 3
  have hcBB0 := B.bc BB 0
  have hcBB1 := B.bc BB 1
  have hcBB2 := B.bc BB 2
  have hcBB3 := B.bc BB 3
  go_wp2_with fail
  refine (H3.out _ HB.out BM.out BB.out).mono ?_
  rintro e w3 ⟨v, rfl, hrow, hb3⟩
  clear hcBM0 hcBM1 hcBM2 hcBM3
  clear hcBB0 hcBB1 hcBB2 hcBB3
  have HO := Aside0.mk (Kd.R_lower hrow HB.out.size)
  clear hrow
  have n0_ := Aside0.mk (blk_below BM.out hb3)
  have n1_ := Aside0.mk (blk_below BB.out hb3)
  have n2_ := Aside0.mk (blk_below BZ.out hb3)
  have nb_ := Aside0.mk (below_step HB.out hb3)
  clear BM BB BZ HB hb3
  have BM := n0_
  have BB := n1_
  have BZ := n2_
  have HB := nb_
  clear n0_ n1_ n2_ nb_
  obtain ⟨Av, cv, ev⟩ := Kd.R_slice HO.out
  subst ev
  have hcBZ0 := B.bc BZ 0
  have hcBZ1 := B.bc BZ 1
  have hcBZ2 := B.bc BZ 2
  have hcBZ3 := B.bc BZ 3
  have hfBZ0 := blk_frozen BZ.out 0
  have hfBZ1 := blk_frozen BZ.out 1
  have hfBZ2 := blk_frozen BZ.out 2
  have hfBZ3 := blk_frozen BZ.out 3
  go_wp2
  refine bodyPost_ret (results_ct rfl _ _ (w.heap.size + 2) 28 #[.int .i64 a1_2, .int .i64 a1_3, .int .i64 a0_2, .slice Av tb.length cv] (0, 0) _ rfl (by first | exact BZ.out | (refine blk_put (cs := #[.int .i64 a1_2, .int .i64 a1_3, .int .i64 a0_2, .slice none 0 0]) ?_ 3 _ rfl; refine blk_put (cs := #[.int .i64 a1_2, .int .i64 a1_3, .int .i64 0, .slice none 0 0]) ?_ 2 _ rfl; refine blk_put (cs := #[.int .i64 a1_2, .int .i64 0, .int .i64 0, .slice none 0 0]) ?_ 1 _ rfl; refine blk_put (cs := #[.int .i64 0, .int .i64 0, .int .i64 0, .slice none 0 0]) ?_ 0 _ rfl; exact BZ.out)) Try.underlying28 rfl (by kernel_rfl)) rfl ?_
  exact ⟨_, by first | rfl | (simp; done), Kd.R_mono (Kd.R_far (p := ⟨w.heap.size + 2, 3, none⟩) (Kd.R_far (p := ⟨w.heap.size + 2, 2, none⟩) (Kd.R_far (p := ⟨w.heap.size + 2, 1, none⟩) (Kd.R_far (p := ⟨w.heap.size + 2, 0, none⟩) (Kd.R_types HO.out BZ.out (by decide)) (fun _ hk => hk.2) (.int .i64 a1_2)) (fun _ hk => hk.2) (.int .i64 a1_3)) (fun _ hk => hk.2) (.int .i64 a0_2)) (fun _ hk => hk.2) (.slice Av tb.length cv)) (fun _ _ => trivial), by first | exact HB.out | exact (below_set (below_set (below_set (below_set HB.out (by omega)) (by omega)) (by omega)) (by omega))⟩
theorem impl_CropImage.calls (a0_0 : Int) (a0_1 : Int) (a0_2 : Int) (A0_3 : Option Addr) (c0_3 : Nat) (l0_3 : List Int) (a1_0 : Int) (a1_1 : Int) (a1_2 : Int) (a1_3 : Int) (r1 : Int) (r2 : Int) (r3 : Int) (r4 : List Int) (r5 : Bool) (w : World) (hr0_3 : Kd.C (Kd.int .i64) w A0_3 l0_3.length l0_3) (hc0_3 : l0_3.length ≤ c0_3) (h : impl_CropImage.f a0_0 a0_1 a0_2 l0_3 a1_0 a1_1 a1_2 a1_3 = some (r1, r2, r3, r4, r5)) :
    Calls Try.prog 12 #[.agg #[.int .i64 a0_0, .int .i64 a0_1, .int .i64 a0_2, .slice A0_3 l0_3.length c0_3], .agg #[.int .i64 a1_0, .int .i64 a1_1, .int .i64 a1_2, .int .i64 a1_3]] w fun e w' => ∃ v3_ : Value, e = .returned (.tuple #[.agg #[.int .i64 r1, .int .i64 r2, .int .i64 r3, v3_], .bool r5]) ∧ Kd.R (Kd.int .i64) 3 w' w.heap.size (fun _ => True) v3_ r4 ∧ Below w.heap.size w w' := by
  unfold impl_CropImage.f at h
  by_cases hv : B.okImg a0_0 a0_1 a0_2 l0_3 = true
  · by_cases hb : okBox a0_0 a0_1 a1_0 a1_1 a1_2 a1_3 = true
    · rw [if_pos ⟨hv, hb⟩] at h
      simp only [Option.some.injEq, Prod.mk.injEq] at h
      obtain ⟨rfl, rfl, rfl, rfl, rfl⟩ := h
      exact crop_yes a0_0 a0_1 a0_2 A0_3 c0_3 l0_3 a1_0 a1_1 a1_2 a1_3 w hr0_3 hc0_3 hv hb
    · rw [if_neg (fun g => hb g.2)] at h
      simp only [Option.some.injEq, Prod.mk.injEq] at h
      obtain ⟨rfl, rfl, rfl, rfl, rfl⟩ := h
      exact crop_box a0_0 a0_1 a0_2 A0_3 c0_3 l0_3 a1_0 a1_1 a1_2 a1_3 w hr0_3 hc0_3 hv (Bool.eq_false_iff.2 hb)
  · rw [if_neg (fun g => hv g.1)] at h
    simp only [Option.some.injEq, Prod.mk.injEq] at h
    obtain ⟨rfl, rfl, rfl, rfl, rfl⟩ := h
    exact crop_no a0_0 a0_1 a0_2 A0_3 c0_3 l0_3 a1_0 a1_1 a1_2 a1_3 w hr0_3 hc0_3 (Bool.eq_false_iff.2 hv)

end Go.Proofs.Ytmljcnhecjlinaa.Q
