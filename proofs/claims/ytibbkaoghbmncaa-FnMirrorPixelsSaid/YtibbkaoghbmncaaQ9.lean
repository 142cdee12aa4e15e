-- Written by a program of this session (the kit's printer, with hand-proved contracts for the functions that it does not take).
import Derived.Test.YtibbkaoghbmncaaQ0
import Derived.Test.YtibbkaoghbmncaaQ1
import Derived.Test.YtibbkaoghbmncaaQ12
namespace Go.Proofs.Ytibbkaoghbmncaa.Q
open Go.RowKit Go.Proofs.YtibbkaoghbmncaaW.PrintWords Go.Proofs.YtibbkaoghbmncaaW.PrintLast Go.Proofs.YtibbkaoghbmncaaW.PrintMore
attribute [local go_sem] max2_int min2_int max_two min_two max_three min_three max_four min_four   -- for this text's walks alone
set_option linter.unusedVariables false
set_option linter.unusedSimpArgs false

/-! ### impl_TransposeImage: function 15 (by hand) -/
-- GIVEN loop.example/pixelworks/impl.TransposeImage
-- ROUNDS no
-- MAKING yes
def transposePx (W p : Nat) (D : List Int) (x y : Nat) : List Int := B.pix D W p y x
def impl_TransposeImage.f (a0_0 : Int) (a0_1 : Int) (a0_2 : Int) (l0_3 : List Int) : Option (Int × Int × Int × List Int) :=
  if B.okImg a0_0 a0_1 a0_2 l0_3 = true then some (a0_1, a0_0, a0_2, B.tab a0_1.toNat a0_0.toNat (transposePx a0_0.toNat a0_2.toNat l0_3)) else some (0, 0, 0, [])
theorem transpose_pix (gm : Nat) (a0_0 : Int) (a0_1 : Int) (a0_2 : Int) (A0_3 : Option Addr) (c0_3 : Nat) (l0_3 : List Int) (w : World) (hm : w.heap[gm]? = some (.cells #[.int .i64 a0_0, .int .i64 a0_1, .int .i64 a0_2, .slice A0_3 l0_3.length c0_3] 26 (0, 0))) (ho : B.ImgI a0_0 a0_1 a0_2 l0_3) (hr : Kd.C (Kd.int .i64) w A0_3 l0_3.length l0_3) (hc : l0_3.length ≤ c0_3) :
    PixG 42 #[.pointer (some ⟨gm, 0, none⟩)] a0_1 a0_0 (transposePx a0_0.toNat a0_2.toNat l0_3) w := fun W x y x0 x1 y0 y1 hB => by
  have hm' := blk_below hm hB
  have hr' := Kd.C_below hr hB
  have hm0 : W.cell? ⟨gm, 0, none⟩ = some (.int .i64 a0_0) := (blk_cell hm' 0).trans rfl
  have hm1 : W.cell? ⟨gm, 1, none⟩ = some (.int .i64 a0_1) := (blk_cell hm' 1).trans rfl
  have hm2 : W.cell? ⟨gm, 2, none⟩ = some (.int .i64 a0_2) := (blk_cell hm' 2).trans rfl
  have hm3 : W.cell? ⟨gm, 3, none⟩ = some (.slice A0_3 l0_3.length c0_3) := (blk_cell hm' 3).trans rfl
  have hu28 := Try.underlying26
  have hd := ho
  obtain ⟨d1, d2, d3, d4, _⟩ := hd
  have HC := at_calls a0_0 a0_1 a0_2 y x A0_3 c0_3 l0_3 W ho ⟨by omega, by omega⟩ ⟨by omega, by omega⟩ hr' hc
  unfold transposePx
  clear ho hr hc hm hr' hm' hB x0 x1 y0 y1 d1 d2 d3 d4
  generalize B.pix l0_3 a0_0.toNat a0_2.toNat y.toNat x.toNat = px at HC ⊢
  go_enter Try.func42, Try.ntmps42
  go_wp2_with fail
  refine HC.mono ?_
  rintro e w' ⟨A1, c1, rfl, hc1, hC, hb⟩
  go_wp2
  go_ret
  exact ⟨A1, c1, rfl, hc1, hC, hb⟩
set_option maxHeartbeats 4000000 in
theorem transpose_no (a0_0 : Int) (a0_1 : Int) (a0_2 : Int) (A0_3 : Option Addr) (c0_3 : Nat) (l0_3 : List Int) (w : World) (hr0_3 : Kd.C (Kd.int .i64) w A0_3 l0_3.length l0_3) (hc0_3 : l0_3.length ≤ c0_3) (hv : B.okImg a0_0 a0_1 a0_2 l0_3 = false) :
    Calls Try.prog 15 #[.agg #[.int .i64 a0_0, .int .i64 a0_1, .int .i64 a0_2, .slice A0_3 l0_3.length c0_3]] w fun e w' => ∃ v3_ : Value, e = .returned (.agg #[.int .i64 0, .int .i64 0, .int .i64 0, v3_]) ∧ Kd.R (Kd.int .i64) 3 w' w.heap.size (fun _ => True) v3_ [] ∧ Below w.heap.size w w' := by
  have hu28 := Try.underlying26
  have H1 := Aside0.mk (fun (W : World) (hW : Below w.heap.size w W) => impl_isImage.calls a0_0 a0_1 a0_2 A0_3 c0_3 l0_3 false W (Kd.C_below hr0_3 hW) hc0_3 (by rw [isImage_ok, hv]))
  have BM : Aside0 (((w.alloc (.cells #[.int .i64 a0_0, .int .i64 a0_1, .int .i64 a0_2, .slice A0_3 l0_3.length c0_3] 26)).alloc (.cells #[.int .i64 0, .int .i64 0, .int .i64 0, .slice none 0 0] 26)).heap[w.heap.size]? = some (.cells #[.int .i64 a0_0, .int .i64 a0_1, .int .i64 a0_2, .slice A0_3 l0_3.length c0_3] 26 (0, 0))) := ⟨(blk_alloc (heap_alloc_new w (.cells #[.int .i64 a0_0, .int .i64 a0_1, .int .i64 a0_2, .slice A0_3 l0_3.length c0_3] 26)) _)⟩
  have BZ : Aside0 (((w.alloc (.cells #[.int .i64 a0_0, .int .i64 a0_1, .int .i64 a0_2, .slice A0_3 l0_3.length c0_3] 26)).alloc (.cells #[.int .i64 0, .int .i64 0, .int .i64 0, .slice none 0 0] 26)).heap[w.heap.size + 1]? = some (.cells #[.int .i64 0, .int .i64 0, .int .i64 0, .slice none 0 0] 26 (0, 0))) := ⟨(by simpa using heap_alloc_new (w.alloc (.cells #[.int .i64 a0_0, .int .i64 a0_1, .int .i64 a0_2, .slice A0_3 l0_3.length c0_3] 26)) (.cells #[.int .i64 0, .int .i64 0, .int .i64 0, .slice none 0 0] 26))⟩
  have HB : Aside0 (Below w.heap.size w ((w.alloc (.cells #[.int .i64 a0_0, .int .i64 a0_1, .int .i64 a0_2, .slice A0_3 l0_3.length c0_3] 26)).alloc (.cells #[.int .i64 0, .int .i64 0, .int .i64 0, .slice none 0 0] 26))) := ⟨(below_alloc (below_alloc (Below.refl _ _) _) _)⟩
  clear hv hr0_3 hc0_3
  go_enter Try.func15, Try.ntmps15
  go_wp2_with fail
  refine (H1.out _ HB.out).mono ?_
  rintro e w1 ⟨rfl, hb1⟩
  have n0_ := Aside0.mk (blk_below BM.out hb1)
  have n1_ := Aside0.mk (blk_below BZ.out hb1)
  have nb_ := Aside0.mk (below_step HB.out hb1)
  clear BM BZ HB hb1
  have BM := n0_
  have BZ := n1_
  have HB := nb_
  clear n0_ n1_ nb_
  have hcBM0 := B.bc BM 0
  have hcBM1 := B.bc BM 1
  have hcBM2 := B.bc BM 2
  have hcBM3 := B.bc BM 3
  have hcBZ0 := B.bc BZ 0
  have hcBZ1 := B.bc BZ 1
  have hcBZ2 := B.bc BZ 2
  have hcBZ3 := B.bc BZ 3
  have hfBZ0 := blk_frozen BZ.out 0
  have hfBZ1 := blk_frozen BZ.out 1
  have hfBZ2 := blk_frozen BZ.out 2
  have hfBZ3 := blk_frozen BZ.out 3
  go_wp2
  refine bodyPost_ret (results_cell_row rfl _ _ (w.heap.size + 1) 26 #[.int .i64 0, .int .i64 0, .int .i64 0, .slice none 0 0] (0, 0) _ rfl (by first | exact BZ.out | (refine blk_put (cs := #[.int .i64 0, .int .i64 0, .int .i64 0, .slice none 0 0]) ?_ 3 _ rfl; refine blk_put (cs := #[.int .i64 0, .int .i64 0, .int .i64 0, .slice none 0 0]) ?_ 2 _ rfl; refine blk_put (cs := #[.int .i64 0, .int .i64 0, .int .i64 0, .slice none 0 0]) ?_ 1 _ rfl; refine blk_put (cs := #[.int .i64 0, .int .i64 0, .int .i64 0, .slice none 0 0]) ?_ 0 _ rfl; exact BZ.out)) Try.underlying26 rfl (by kernel_rfl)) rfl ?_
  exact ⟨_, by first | rfl | (simp; done), Kd.R_nil _ _ _ _ _, by first | exact HB.out | exact (below_set (below_set (below_set (below_set HB.out (by omega)) (by omega)) (by omega)) (by omega))⟩
set_option maxHeartbeats 4000000 in
theorem transpose_yes (a0_0 : Int) (a0_1 : Int) (a0_2 : Int) (A0_3 : Option Addr) (c0_3 : Nat) (l0_3 : List Int) (w : World) (hr0_3 : Kd.C (Kd.int .i64) w A0_3 l0_3.length l0_3) (hc0_3 : l0_3.length ≤ c0_3) (hv : B.okImg a0_0 a0_1 a0_2 l0_3 = true) :
    Calls Try.prog 15 #[.agg #[.int .i64 a0_0, .int .i64 a0_1, .int .i64 a0_2, .slice A0_3 l0_3.length c0_3]] w fun e w' => ∃ v3_ : Value, e = .returned (.agg #[.int .i64 a0_1, .int .i64 a0_0, .int .i64 a0_2, v3_]) ∧ Kd.R (Kd.int .i64) 3 w' w.heap.size (fun _ => True) v3_ (B.tab a0_1.toNat a0_0.toNat (transposePx a0_0.toNat a0_2.toNat l0_3)) ∧ Below w.heap.size w w' := by
  have hu28 := Try.underlying26
  have H1 := Aside0.mk (fun (W : World) (hW : Below w.heap.size w W) => impl_isImage.calls a0_0 a0_1 a0_2 A0_3 c0_3 l0_3 true W (Kd.C_below hr0_3 hW) hc0_3 (by rw [isImage_ok, hv]))
  have ho := (B.okImg_img hv).1
  have hpl : ∀ x y, x < a0_1.toNat → y < a0_0.toNat → ((transposePx a0_0.toNat a0_2.toNat l0_3) x y).length ≤ 4 := fun x y _ _ => by
    have := ho.2.2.2.2.2.1
    unfold transposePx B.pix B.chunk
    rw [List.length_take]
    omega
  have H3 := Aside0.mk (fun (W : World) (hW : Below w.heap.size w W) (hm : W.heap[w.heap.size]? = some (.cells #[.int .i64 a0_0, .int .i64 a0_1, .int .i64 a0_2, .slice A0_3 l0_3.length c0_3] 26 (0, 0))) => imageBy_calls a0_1 a0_0 a0_2 42 #[.pointer (some ⟨w.heap.size, 0, none⟩)] (call_enters Try.func42 (by kernel_rfl) rfl) (transposePx a0_0.toNat a0_2.toNat l0_3) W ⟨ho.2.2.1, ho.2.2.2.1⟩ ⟨ho.1, ho.2.1⟩ hpl (transpose_pix w.heap.size a0_0 a0_1 a0_2 A0_3 c0_3 l0_3 W hm ho (Kd.C_below hr0_3 hW) hc0_3))
  generalize B.tab a0_1.toNat a0_0.toNat (transposePx a0_0.toNat a0_2.toNat l0_3) = tb at H3 ⊢
  clear ho hpl
  have BM : Aside0 (((w.alloc (.cells #[.int .i64 a0_0, .int .i64 a0_1, .int .i64 a0_2, .slice A0_3 l0_3.length c0_3] 26)).alloc (.cells #[.int .i64 0, .int .i64 0, .int .i64 0, .slice none 0 0] 26)).heap[w.heap.size]? = some (.cells #[.int .i64 a0_0, .int .i64 a0_1, .int .i64 a0_2, .slice A0_3 l0_3.length c0_3] 26 (0, 0))) := ⟨(blk_alloc (heap_alloc_new w (.cells #[.int .i64 a0_0, .int .i64 a0_1, .int .i64 a0_2, .slice A0_3 l0_3.length c0_3] 26)) _)⟩
  have BZ : Aside0 (((w.alloc (.cells #[.int .i64 a0_0, .int .i64 a0_1, .int .i64 a0_2, .slice A0_3 l0_3.length c0_3] 26)).alloc (.cells #[.int .i64 0, .int .i64 0, .int .i64 0, .slice none 0 0] 26)).heap[w.heap.size + 1]? = some (.cells #[.int .i64 0, .int .i64 0, .int .i64 0, .slice none 0 0] 26 (0, 0))) := ⟨(by simpa using heap_alloc_new (w.alloc (.cells #[.int .i64 a0_0, .int .i64 a0_1, .int .i64 a0_2, .slice A0_3 l0_3.length c0_3] 26)) (.cells #[.int .i64 0, .int .i64 0, .int .i64 0, .slice none 0 0] 26))⟩
  have HB : Aside0 (Below w.heap.size w ((w.alloc (.cells #[.int .i64 a0_0, .int .i64 a0_1, .int .i64 a0_2, .slice A0_3 l0_3.length c0_3] 26)).alloc (.cells #[.int .i64 0, .int .i64 0, .int .i64 0, .slice none 0 0] 26))) := ⟨(below_alloc (below_alloc (Below.refl _ _) _) _)⟩
  clear hv hr0_3 hc0_3
  go_enter Try.func15, Try.ntmps15
  go_wp2_with fail
  refine (H1.out _ HB.out).mono ?_
  rintro e w1 ⟨rfl, hb1⟩
  have n0_ := Aside0.mk (blk_below BM.out hb1)
  have n1_ := Aside0.mk (blk_below BZ.out hb1)
  have nb_ := Aside0.mk (below_step HB.out hb1)
  clear BM BZ HB hb1
  have BM := n0_
  have BZ := n1_
  have HB := nb_
  clear n0_ n1_ nb_
  have hcBM0 := B.bc BM 0
  have hcBM1 := B.bc BM 1
  have hcBM2 := B.bc BM 2
  have hcBM3 := B.bc BM 3
  go_wp2_with fail
  refine (H3.out _ HB.out BM.out).mono ?_
  rintro e w3 ⟨v, rfl, hrow, hb3⟩
  clear hcBM0 hcBM1 hcBM2 hcBM3
  have HO := Aside0.mk (Kd.R_lower hrow HB.out.size)
  clear hrow
  have n0_ := Aside0.mk (blk_below BM.out hb3)
  have n1_ := Aside0.mk (blk_below BZ.out hb3)
  have nb_ := Aside0.mk (below_step HB.out hb3)
  clear BM BZ HB hb3
  have BM := n0_
  have BZ := n1_
  have HB := nb_
  clear n0_ n1_ nb_
  obtain ⟨Av, cv, ev⟩ := Kd.R_slice HO.out
  subst ev
  have hcBZ0 := B.bc BZ 0
  have hcBZ1 := B.bc BZ 1
  have hcBZ2 := B.bc BZ 2
  have hcBZ3 := B.bc BZ 3
  have hfBZ0 := blk_frozen BZ.out 0
  have hfBZ1 := blk_frozen BZ.out 1
  have hfBZ2 := blk_frozen BZ.out 2
  have hfBZ3 := blk_frozen BZ.out 3
  go_wp2
  refine bodyPost_ret (results_cell_row rfl _ _ (w.heap.size + 1) 26 #[.int .i64 a0_1, .int .i64 a0_0, .int .i64 a0_2, .slice Av tb.length cv] (0, 0) _ rfl (by first | exact BZ.out | (refine blk_put (cs := #[.int .i64 a0_1, .int .i64 a0_0, .int .i64 a0_2, .slice none 0 0]) ?_ 3 _ rfl; refine blk_put (cs := #[.int .i64 a0_1, .int .i64 a0_0, .int .i64 0, .slice none 0 0]) ?_ 2 _ rfl; refine blk_put (cs := #[.int .i64 a0_1, .int .i64 0, .int .i64 0, .slice none 0 0]) ?_ 1 _ rfl; refine blk_put (cs := #[.int .i64 0, .int .i64 0, .int .i64 0, .slice none 0 0]) ?_ 0 _ rfl; exact BZ.out)) Try.underlying26 rfl (by kernel_rfl)) rfl ?_
  exact ⟨_, by first | rfl | (simp; done), Kd.R_mono (Kd.R_far (p := ⟨w.heap.size + 1, 3, none⟩) (Kd.R_far (p := ⟨w.heap.size + 1, 2, none⟩) (Kd.R_far (p := ⟨w.heap.size + 1, 1, none⟩) (Kd.R_far (p := ⟨w.heap.size + 1, 0, none⟩) (Kd.R_types HO.out BZ.out (by decide)) (fun _ hk => hk.2) (.int .i64 a0_1)) (fun _ hk => hk.2) (.int .i64 a0_0)) (fun _ hk => hk.2) (.int .i64 a0_2)) (fun _ hk => hk.2) (.slice Av tb.length cv)) (fun _ _ => trivial), by first | exact HB.out | exact (below_set (below_set (below_set (below_set HB.out (by omega)) (by omega)) (by omega)) (by omega))⟩
theorem impl_TransposeImage.calls (a0_0 : Int) (a0_1 : Int) (a0_2 : Int) (A0_3 : Option Addr) (c0_3 : Nat) (l0_3 : List Int) (r1 : Int) (r2 : Int) (r3 : Int) (r4 : List Int) (w : World) (hr0_3 : Kd.C (Kd.int .i64) w A0_3 l0_3.length l0_3) (hc0_3 : l0_3.length ≤ c0_3) (h : impl_TransposeImage.f a0_0 a0_1 a0_2 l0_3 = some (r1, r2, r3, r4)) :
    Calls Try.prog 15 #[.agg #[.int .i64 a0_0, .int .i64 a0_1, .int .i64 a0_2, .slice A0_3 l0_3.length c0_3]] w fun e w' => ∃ v3_ : Value, e = .returned (.agg #[.int .i64 r1, .int .i64 r2, .int .i64 r3, v3_]) ∧ Kd.R (Kd.int .i64) 3 w' w.heap.size (fun _ => True) v3_ r4 ∧ Below w.heap.size w w' := by
  unfold impl_TransposeImage.f at h
  by_cases hv : B.okImg a0_0 a0_1 a0_2 l0_3 = true
  · rw [if_pos hv] at h
    simp only [Option.some.injEq, Prod.mk.injEq] at h
    obtain ⟨rfl, rfl, rfl, rfl⟩ := h
    exact transpose_yes a0_0 a0_1 a0_2 A0_3 c0_3 l0_3 w hr0_3 hc0_3 hv
  · rw [if_neg hv] at h
    simp only [Option.some.injEq, Prod.mk.injEq] at h
    obtain ⟨rfl, rfl, rfl, rfl⟩ := h
    exact transpose_no a0_0 a0_1 a0_2 A0_3 c0_3 l0_3 w hr0_3 hc0_3 (Bool.eq_false_iff.2 hv)

end Go.Proofs.Ytibbkaoghbmncaa.Q
