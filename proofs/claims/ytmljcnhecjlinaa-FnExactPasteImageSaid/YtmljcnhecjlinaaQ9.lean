-- Written by a program of this session (the kit's printer, with hand-proved contracts for the functions that it does not take).
import Derived.Test.YtmljcnhecjlinaaQ0
import Derived.Test.YtmljcnhecjlinaaQ1
namespace Go.Proofs.Ytmljcnhecjlinaa.Q
open Go.RowKit Go.Proofs.YtmljcnhecjlinaaW.PrintWords Go.Proofs.YtmljcnhecjlinaaW.PrintLast Go.Proofs.YtmljcnhecjlinaaW.PrintMore
attribute [local go_sem] max2_int min2_int max_two min_two max_three min_three max_four min_four   -- for this text's walks alone
set_option linter.unusedVariables false
set_option linter.unusedSimpArgs false

/-! ### impl_Image_at: function 32 (by hand) -/
-- GIVEN (loop.example/pixelworks/impl.Image).at
-- AUX yes
set_option maxHeartbeats 2000000 in
theorem at_calls (a0_0 a0_1 a0_2 ax ay : Int) (A0 : Option Addr) (c0 : Nat) (D : List Int) (w : World) (ho : B.ImgI a0_0 a0_1 a0_2 D) (hx : 0 ≤ ax ∧ ax < a0_0) (hy : 0 ≤ ay ∧ ay < a0_1)
    (hr : Kd.C (Kd.int .i64) w A0 D.length D) (hc : D.length ≤ c0) :
    Calls Try.prog 32 #[.agg #[.int .i64 a0_0, .int .i64 a0_1, .int .i64 a0_2, .slice A0 D.length c0], .int .i64 ax, .int .i64 ay] w fun e w' =>
      ∃ A1 c1, e = .returned (.slice A1 (B.pix D a0_0.toNat a0_2.toNat ax.toNat ay.toNat).length c1) ∧ (B.pix D a0_0.toNat a0_2.toNat ax.toNat ay.toNat).length ≤ c1 ∧
        Kd.C (Kd.int .i64) w' A1 (B.pix D a0_0.toNat a0_2.toNat ax.toNat ay.toNat).length (B.pix D a0_0.toNat a0_2.toNat ax.toNat ay.toNat) ∧ Below w.heap.size w w' := by
  obtain ⟨i1, i2, i3, i4, i5, i6, i7⟩ := ho.idx hx hy
  have hp : 1 ≤ a0_2 ∧ a0_2 ≤ 4 := ⟨ho.2.2.2.2.1, ho.2.2.2.2.2.1⟩
  obtain ⟨n, hn⟩ : ∃ n : Int, wrap64 (wrap64 (wrap64 (ay * a0_0) + ax) * a0_2) = n := ⟨_, rfl⟩
  have hn2 : n = (ay * a0_0 + ax) * a0_2 := by rw [← hn, i1, i2, i3]
  rw [← hn2] at i4 i5 i6 i7
  have hpx : (D.take (n + a0_2).toNat).drop n.toNat = B.pix D a0_0.toNat a0_2.toNat ax.toNat ay.toNat := by
    rw [i7]
    exact B.pix_mid D _ _ _ _ _ (by omega)
  have hw : wrap64 (n + a0_2) = n + a0_2 := B.w64 (by omega) (by omega)
  obtain ⟨i0, hi0, _, hsz, _⟩ := info_parts info3
  obtain ⟨A1, hcut, hA1, hC1⟩ := print_mid_of (P := Try.prog) (Value.int .i64) 0 22 3 .i64 .i64 Try.underlying22 hi0 hsz A0 c0 D n (n + a0_2) i4 (by omega) i5 hc
  rw [hpx] at hcut hA1 hC1
  have HR := Aside0.mk (Kd.C_of_reads (h1 := fun _ => rfl) (hA1 _ (Kd.reads_of_C hr)))
  have HC := Aside0.mk hC1
  generalize B.pix D a0_0.toNat a0_2.toNat ax.toNat ay.toNat = px at hcut HR HC
  have c1 := eq_true i4
  have c2 : decide (0 ≤ n) = true := decide_eq_true i4
  have hu28 := Try.underlying28
  have hn' : (IntKind.i64.wrap (wrap64 (wrap64 (ay * a0_0) + ax) * a0_2)) = n := (i64_w _).trans hn
  clear ho hx hy hr hc i1 i2 i3 i4 i5 i6 i7 hn2 hpx hi0 hsz hA1 hC1 hp
  go_enter Try.func32, Try.ntmps32
  go_wp2
  go_ret
  exact ⟨A1, _, rfl, HC.out, Kd.C_alloc HR.out _, below_alloc (Below.refl _ _) _⟩

/-! ### impl_PixelAt: function 20 (by hand) -/
-- GIVEN loop.example/pixelworks/impl.PixelAt
-- ROUNDS no
-- MAKING yes
def onImg (w h x y : Int) : Bool := (decide (0 ≤ x) && decide (x < w)) && (decide (0 ≤ y) && decide (y < h))
def impl_PixelAt.f (a0_0 : Int) (a0_1 : Int) (a0_2 : Int) (l0_3 : List Int) (a1 : Int) (a2 : Int) : Option (List Int) :=
  if B.okImg a0_0 a0_1 a0_2 l0_3 = true ∧ onImg a0_0 a0_1 a1 a2 = true then some (B.pix l0_3 a0_0.toNat a0_2.toNat a1.toNat a2.toNat) else some []
set_option maxHeartbeats 4000000 in
theorem pixel_no (a0_0 : Int) (a0_1 : Int) (a0_2 : Int) (A0_3 : Option Addr) (c0_3 : Nat) (l0_3 : List Int) (a1 : Int) (a2 : Int) (w : World) (hr0_3 : Kd.C (Kd.int .i64) w A0_3 l0_3.length l0_3) (hc0_3 : l0_3.length ≤ c0_3) (hv : B.okImg a0_0 a0_1 a0_2 l0_3 = false) :
    Calls Try.prog 20 #[.agg #[.int .i64 a0_0, .int .i64 a0_1, .int .i64 a0_2, .slice A0_3 l0_3.length c0_3], .int .i64 a1, .int .i64 a2] w fun e w' => ∃ v0_ : Value, e = .returned (v0_) ∧ Kd.R (Kd.int .i64) 3 w' w.heap.size (fun _ => True) v0_ [] ∧ Below w.heap.size w w' := by
  have hu28 := Try.underlying28
  have H1 := Aside0.mk (fun (W : World) (hW : Below w.heap.size w W) => impl_isImage.calls a0_0 a0_1 a0_2 A0_3 c0_3 l0_3 false W (Kd.C_below hr0_3 hW) hc0_3 (by rw [isImage_ok, hv]))
  have BM : Aside0 ((w.alloc (.cells #[.int .i64 a0_0, .int .i64 a0_1, .int .i64 a0_2, .slice A0_3 l0_3.length c0_3] 28)).heap[w.heap.size]? = some (.cells #[.int .i64 a0_0, .int .i64 a0_1, .int .i64 a0_2, .slice A0_3 l0_3.length c0_3] 28 (0, 0))) := ⟨(heap_alloc_new w (.cells #[.int .i64 a0_0, .int .i64 a0_1, .int .i64 a0_2, .slice A0_3 l0_3.length c0_3] 28))⟩
  have HB : Aside0 (Below w.heap.size w (w.alloc (.cells #[.int .i64 a0_0, .int .i64 a0_1, .int .i64 a0_2, .slice A0_3 l0_3.length c0_3] 28))) := ⟨(below_alloc (Below.refl _ _) _)⟩
  clear hv hr0_3 hc0_3
  go_enter Try.func20, Try.ntmps20
  go_wp2_with fail
  refine (H1.out _ HB.out).mono ?_
  rintro e w1 ⟨rfl, hb1⟩
  have n0_ := Aside0.mk (blk_below BM.out hb1)
  have nb_ := Aside0.mk (below_step HB.out hb1)
  clear BM HB hb1
  have BM := n0_
  have HB := nb_
  clear n0_ nb_
  have hcBM0 := B.bc BM 0
  have hcBM1 := B.bc BM 1
  have hcBM2 := B.bc BM 2
  have hcBM3 := B.bc BM 3
  go_wp2
  go_ret
  exact ⟨_, rfl, Kd.R_nil _ _ _ _ _, HB.out⟩
set_option maxHeartbeats 4000000 in
theorem pixel_x0 (a0_0 : Int) (a0_1 : Int) (a0_2 : Int) (A0_3 : Option Addr) (c0_3 : Nat) (l0_3 : List Int) (a1 : Int) (a2 : Int) (w : World) (hr0_3 : Kd.C (Kd.int .i64) w A0_3 l0_3.length l0_3) (hc0_3 : l0_3.length ≤ c0_3) (hv : B.okImg a0_0 a0_1 a0_2 l0_3 = true) (t1 : a1 < 0) :
    Calls Try.prog 20 #[.agg #[.int .i64 a0_0, .int .i64 a0_1, .int .i64 a0_2, .slice A0_3 l0_3.length c0_3], .int .i64 a1, .int .i64 a2] w fun e w' => ∃ v0_ : Value, e = .returned (v0_) ∧ Kd.R (Kd.int .i64) 3 w' w.heap.size (fun _ => True) v0_ [] ∧ Below w.heap.size w w' := by
  have hu28 := Try.underlying28
  have H1 := Aside0.mk (fun (W : World) (hW : Below w.heap.size w W) => impl_isImage.calls a0_0 a0_1 a0_2 A0_3 c0_3 l0_3 true W (Kd.C_below hr0_3 hW) hc0_3 (by rw [isImage_ok, hv]))
  have u1 : decide (a1 < 0) = true := decide_eq_true t1
  clear t1
  have BM : Aside0 ((w.alloc (.cells #[.int .i64 a0_0, .int .i64 a0_1, .int .i64 a0_2, .slice A0_3 l0_3.length c0_3] 28)).heap[w.heap.size]? = some (.cells #[.int .i64 a0_0, .int .i64 a0_1, .int .i64 a0_2, .slice A0_3 l0_3.length c0_3] 28 (0, 0))) := ⟨(heap_alloc_new w (.cells #[.int .i64 a0_0, .int .i64 a0_1, .int .i64 a0_2, .slice A0_3 l0_3.length c0_3] 28))⟩
  have HB : Aside0 (Below w.heap.size w (w.alloc (.cells #[.int .i64 a0_0, .int .i64 a0_1, .int .i64 a0_2, .slice A0_3 l0_3.length c0_3] 28))) := ⟨(below_alloc (Below.refl _ _) _)⟩
  clear hv hr0_3 hc0_3
  go_enter Try.func20, Try.ntmps20
  go_wp2_with fail
  refine (H1.out _ HB.out).mono ?_
  rintro e w1 ⟨rfl, hb1⟩
  have n0_ := Aside0.mk (blk_below BM.out hb1)
  have nb_ := Aside0.mk (below_step HB.out hb1)
  clear BM HB hb1
  have BM := n0_
  have HB := nb_
  clear n0_ nb_
  have hcBM0 := B.bc BM 0
  have hcBM1 := B.bc BM 1
  have hcBM2 := B.bc BM 2
  have hcBM3 := B.bc BM 3
  go_wp2
  go_ret
  exact ⟨_, rfl, Kd.R_nil _ _ _ _ _, HB.out⟩
set_option maxHeartbeats 4000000 in
theorem pixel_x1 (a0_0 : Int) (a0_1 : Int) (a0_2 : Int) (A0_3 : Option Addr) (c0_3 : Nat) (l0_3 : List Int) (a1 : Int) (a2 : Int) (w : World) (hr0_3 : Kd.C (Kd.int .i64) w A0_3 l0_3.length l0_3) (hc0_3 : l0_3.length ≤ c0_3) (hv : B.okImg a0_0 a0_1 a0_2 l0_3 = true) (t1 : ¬ a1 < 0) (t2 : a0_0 ≤ a1) :
    Calls Try.prog 20 #[.agg #[.int .i64 a0_0, .int .i64 a0_1, .int .i64 a0_2, .slice A0_3 l0_3.length c0_3], .int .i64 a1, .int .i64 a2] w fun e w' => ∃ v0_ : Value, e = .returned (v0_) ∧ Kd.R (Kd.int .i64) 3 w' w.heap.size (fun _ => True) v0_ [] ∧ Below w.heap.size w w' := by
  have hu28 := Try.underlying28
  have H1 := Aside0.mk (fun (W : World) (hW : Below w.heap.size w W) => impl_isImage.calls a0_0 a0_1 a0_2 A0_3 c0_3 l0_3 true W (Kd.C_below hr0_3 hW) hc0_3 (by rw [isImage_ok, hv]))
  have u1 : decide (a1 < 0) = false := decide_eq_false t1
  clear t1
  have u2 : decide (a0_0 ≤ a1) = true := decide_eq_true t2
  clear t2
  have BM : Aside0 ((w.alloc (.cells #[.int .i64 a0_0, .int .i64 a0_1, .int .i64 a0_2, .slice A0_3 l0_3.length c0_3] 28)).heap[w.heap.size]? = some (.cells #[.int .i64 a0_0, .int .i64 a0_1, .int .i64 a0_2, .slice A0_3 l0_3.length c0_3] 28 (0, 0))) := ⟨(heap_alloc_new w (.cells #[.int .i64 a0_0, .int .i64 a0_1, .int .i64 a0_2, .slice A0_3 l0_3.length c0_3] 28))⟩
  have HB : Aside0 (Below w.heap.size w (w.alloc (.cells #[.int .i64 a0_0, .int .i64 a0_1, .int .i64 a0_2, .slice A0_3 l0_3.length c0_3] 28))) := ⟨(below_alloc (Below.refl _ _) _)⟩
  clear hv hr0_3 hc0_3
  go_enter Try.func20, Try.ntmps20
  go_wp2_with fail
  refine (H1.out _ HB.out).mono ?_
  rintro e w1 ⟨rfl, hb1⟩
  have n0_ := Aside0.mk (blk_below BM.out hb1)
  have nb_ := Aside0.mk (below_step HB.out hb1)
  clear BM HB hb1
  have BM := n0_
  have HB := nb_
  clear n0_ nb_
  have hcBM0 := B.bc BM 0
  have hcBM1 := B.bc BM 1
  have hcBM2 := B.bc BM 2
  have hcBM3 := B.bc BM 3
  go_wp2
  go_ret
  exact ⟨_, rfl, Kd.R_nil _ _ _ _ _, HB.out⟩
set_option maxHeartbeats 4000000 in
theorem pixel_y0 (a0_0 : Int) (a0_1 : Int) (a0_2 : Int) (A0_3 : Option Addr) (c0_3 : Nat) (l0_3 : List Int) (a1 : Int) (a2 : Int) (w : World) (hr0_3 : Kd.C (Kd.int .i64) w A0_3 l0_3.length l0_3) (hc0_3 : l0_3.length ≤ c0_3) (hv : B.okImg a0_0 a0_1 a0_2 l0_3 = true) (t1 : ¬ a1 < 0) (t2 : ¬ a0_0 ≤ a1) (t3 : a2 < 0) :
    Calls Try.prog 20 #[.agg #[.int .i64 a0_0, .int .i64 a0_1, .int .i64 a0_2, .slice A0_3 l0_3.length c0_3], .int .i64 a1, .int .i64 a2] w fun e w' => ∃ v0_ : Value, e = .returned (v0_) ∧ Kd.R (Kd.int .i64) 3 w' w.heap.size (fun _ => True) v0_ [] ∧ Below w.heap.size w w' := by
  have hu28 := Try.underlying28
  have H1 := Aside0.mk (fun (W : World) (hW : Below w.heap.size w W) => impl_isImage.calls a0_0 a0_1 a0_2 A0_3 c0_3 l0_3 true W (Kd.C_below hr0_3 hW) hc0_3 (by rw [isImage_ok, hv]))
  have u1 : decide (a1 < 0) = false := decide_eq_false t1
  clear t1
  have u2 : decide (a0_0 ≤ a1) = false := decide_eq_false t2
  clear t2
  have u3 : decide (a2 < 0) = true := decide_eq_true t3
  clear t3
  have BM : Aside0 ((w.alloc (.cells #[.int .i64 a0_0, .int .i64 a0_1, .int .i64 a0_2, .slice A0_3 l0_3.length c0_3] 28)).heap[w.heap.size]? = some (.cells #[.int .i64 a0_0, .int .i64 a0_1, .int .i64 a0_2, .slice A0_3 l0_3.length c0_3] 28 (0, 0))) := ⟨(heap_alloc_new w (.cells #[.int .i64 a0_0, .int .i64 a0_1, .int .i64 a0_2, .slice A0_3 l0_3.length c0_3] 28))⟩
  have HB : Aside0 (Below w.heap.size w (w.alloc (.cells #[.int .i64 a0_0, .int .i64 a0_1, .int .i64 a0_2, .slice A0_3 l0_3.length c0_3] 28))) := ⟨(below_alloc (Below.refl _ _) _)⟩
  clear hv hr0_3 hc0_3
  go_enter Try.func20, Try.ntmps20
  go_wp2_with fail
  refine (H1.out _ HB.out).mono ?_
  rintro e w1 ⟨rfl, hb1⟩
  have n0_ := Aside0.mk (blk_below BM.out hb1)
  have nb_ := Aside0.mk (below_step HB.out hb1)
  clear BM HB hb1
  have BM := n0_
  have HB := nb_
  clear n0_ nb_
  have hcBM0 := B.bc BM 0
  have hcBM1 := B.bc BM 1
  have hcBM2 := B.bc BM 2
  have hcBM3 := B.bc BM 3
  go_wp2
  go_ret
  exact ⟨_, rfl, Kd.R_nil _ _ _ _ _, HB.out⟩
set_option maxHeartbeats 4000000 in
theorem pixel_y1 (a0_0 : Int) (a0_1 : Int) (a0_2 : Int) (A0_3 : Option Addr) (c0_3 : Nat) (l0_3 : List Int) (a1 : Int) (a2 : Int) (w : World) (hr0_3 : Kd.C (Kd.int .i64) w A0_3 l0_3.length l0_3) (hc0_3 : l0_3.length ≤ c0_3) (hv : B.okImg a0_0 a0_1 a0_2 l0_3 = true) (t1 : ¬ a1 < 0) (t2 : ¬ a0_0 ≤ a1) (t3 : ¬ a2 < 0) (t4 : a0_1 ≤ a2) :
    Calls Try.prog 20 #[.agg #[.int .i64 a0_0, .int .i64 a0_1, .int .i64 a0_2, .slice A0_3 l0_3.length c0_3], .int .i64 a1, .int .i64 a2] w fun e w' => ∃ v0_ : Value, e = .returned (v0_) ∧ Kd.R (Kd.int .i64) 3 w' w.heap.size (fun _ => True) v0_ [] ∧ Below w.heap.size w w' := by
  have hu28 := Try.underlying28
  have H1 := Aside0.mk (fun (W : World) (hW : Below w.heap.size w W) => impl_isImage.calls a0_0 a0_1 a0_2 A0_3 c0_3 l0_3 true W (Kd.C_below hr0_3 hW) hc0_3 (by rw [isImage_ok, hv]))
  have u1 : decide (a1 < 0) = false := decide_eq_false t1
  clear t1
  have u2 : decide (a0_0 ≤ a1) = false := decide_eq_false t2
  clear t2
  have u3 : decide (a2 < 0) = false := decide_eq_false t3
  clear t3
  have u4 : decide (a0_1 ≤ a2) = true := decide_eq_true t4
  clear t4
  have BM : Aside0 ((w.alloc (.cells #[.int .i64 a0_0, .int .i64 a0_1, .int .i64 a0_2, .slice A0_3 l0_3.length c0_3] 28)).heap[w.heap.size]? = some (.cells #[.int .i64 a0_0, .int .i64 a0_1, .int .i64 a0_2, .slice A0_3 l0_3.length c0_3] 28 (0, 0))) := ⟨(heap_alloc_new w (.cells #[.int .i64 a0_0, .int .i64 a0_1, .int .i64 a0_2, .slice A0_3 l0_3.length c0_3] 28))⟩
  have HB : Aside0 (Below w.heap.size w (w.alloc (.cells #[.int .i64 a0_0, .int .i64 a0_1, .int .i64 a0_2, .slice A0_3 l0_3.length c0_3] 28))) := ⟨(below_alloc (Below.refl _ _) _)⟩
  clear hv hr0_3 hc0_3
  go_enter Try.func20, Try.ntmps20
  go_wp2_with fail
  refine (H1.out _ HB.out).mono ?_
  rintro e w1 ⟨rfl, hb1⟩
  have n0_ := Aside0.mk (blk_below BM.out hb1)
  have nb_ := Aside0.mk (below_step HB.out hb1)
  clear BM HB hb1
  have BM := n0_
  have HB := nb_
  clear n0_ nb_
  have hcBM0 := B.bc BM 0
  have hcBM1 := B.bc BM 1
  have hcBM2 := B.bc BM 2
  have hcBM3 := B.bc BM 3
  go_wp2
  go_ret
  exact ⟨_, rfl, Kd.R_nil _ _ _ _ _, HB.out⟩
set_option maxHeartbeats 4000000 in
theorem pixel_yes (a0_0 : Int) (a0_1 : Int) (a0_2 : Int) (A0_3 : Option Addr) (c0_3 : Nat) (l0_3 : List Int) (a1 : Int) (a2 : Int) (w : World) (hr0_3 : Kd.C (Kd.int .i64) w A0_3 l0_3.length l0_3) (hc0_3 : l0_3.length ≤ c0_3) (hv : B.okImg a0_0 a0_1 a0_2 l0_3 = true) (t1 : ¬ a1 < 0) (t2 : ¬ a0_0 ≤ a1) (t3 : ¬ a2 < 0) (t4 : ¬ a0_1 ≤ a2) :
    Calls Try.prog 20 #[.agg #[.int .i64 a0_0, .int .i64 a0_1, .int .i64 a0_2, .slice A0_3 l0_3.length c0_3], .int .i64 a1, .int .i64 a2] w fun e w' => ∃ v0_ : Value, e = .returned (v0_) ∧ Kd.R (Kd.int .i64) 3 w' w.heap.size (fun _ => True) v0_ (B.pix l0_3 a0_0.toNat a0_2.toNat a1.toNat a2.toNat) ∧ Below w.heap.size w w' := by
  have hu28 := Try.underlying28
  have H1 := Aside0.mk (fun (W : World) (hW : Below w.heap.size w W) => impl_isImage.calls a0_0 a0_1 a0_2 A0_3 c0_3 l0_3 true W (Kd.C_below hr0_3 hW) hc0_3 (by rw [isImage_ok, hv]))
  have H2 := Aside0.mk (fun (W : World) (hW : Below w.heap.size w W) => at_calls a0_0 a0_1 a0_2 a1 a2 A0_3 c0_3 l0_3 W (B.okImg_img hv).1 ⟨by omega, by omega⟩ ⟨by omega, by omega⟩ (Kd.C_below hr0_3 hW) hc0_3)
  have hpl : (B.pix l0_3 a0_0.toNat a0_2.toNat a1.toNat a2.toNat).length ≤ 4 := by
    have := (B.okImg_img hv).1.2.2.2.2.2.1
    unfold B.pix B.chunk
    rw [List.length_take]
    omega
  generalize (B.pix l0_3 a0_0.toNat a0_2.toNat a1.toNat a2.toNat) = px at H2 hpl ⊢
  have HPL := Aside0.mk hpl
  clear hpl
  have u1 : decide (a1 < 0) = false := decide_eq_false t1
  clear t1
  have u2 : decide (a0_0 ≤ a1) = false := decide_eq_false t2
  clear t2
  have u3 : decide (a2 < 0) = false := decide_eq_false t3
  clear t3
  have u4 : decide (a0_1 ≤ a2) = false := decide_eq_false t4
  clear t4
  have BM : Aside0 ((w.alloc (.cells #[.int .i64 a0_0, .int .i64 a0_1, .int .i64 a0_2, .slice A0_3 l0_3.length c0_3] 28)).heap[w.heap.size]? = some (.cells #[.int .i64 a0_0, .int .i64 a0_1, .int .i64 a0_2, .slice A0_3 l0_3.length c0_3] 28 (0, 0))) := ⟨(heap_alloc_new w (.cells #[.int .i64 a0_0, .int .i64 a0_1, .int .i64 a0_2, .slice A0_3 l0_3.length c0_3] 28))⟩
  have HB : Aside0 (Below w.heap.size w (w.alloc (.cells #[.int .i64 a0_0, .int .i64 a0_1, .int .i64 a0_2, .slice A0_3 l0_3.length c0_3] 28))) := ⟨(below_alloc (Below.refl _ _) _)⟩
  clear hv hr0_3 hc0_3
  go_enter Try.func20, Try.ntmps20
  go_wp2_with fail
  refine (H1.out _ HB.out).mono ?_
  rintro e w1 ⟨rfl, hb1⟩
  have n0_ := Aside0.mk (blk_below BM.out hb1)
  have nb_ := Aside0.mk (below_step HB.out hb1)
  clear BM HB hb1
  have BM := n0_
  have HB := nb_
  clear n0_ nb_
  have hcBM0 := B.bc BM 0
  have hcBM1 := B.bc BM 1
  have hcBM2 := B.bc BM 2
  have hcBM3 := B.bc BM 3
  go_wp2_with (first | ((with_reducible refine gate_dst (N := 30) rfl ?_); refine Kd.R_lit (Kd.int .i64) _ 3 ?hg (N := 30) ?hd (xs := ([] : List Int)) (inner := []) (ok := fun _ => True) (okp := fun _ => True) ?hr ?hp (fun _ hk => hk) trivial (Below.refl _ _) (Nat.le_refl _) (by simp) ?_; (case hd => rfl); (case hg => rfl); (case hr => first | (go_simp; done) | (go_simp; rfl)); (case hp => exact (Reps.none _ _)); intro v2 w2 ho2 hb2 hg_ hnew_; clear hg_ hnew_; have n0_ := Aside0.mk (blk_below BM.out hb2); have n1_ := Aside0.mk (below_step HB.out hb2); have n2_ := Aside0.mk (Kd.R_lower ho2 HB.out.size); clear BM HB hb2 ho2; have BM := n0_; have HB := n1_; have HO := n2_; clear n0_ n1_ n2_; clear hcBM0 hcBM1 hcBM2 hcBM3; have hcBM0 : w2.cell? ⟨w.heap.size, 0, none⟩ = some (.int .i64 a0_0) := (blk_cell BM.out 0).trans rfl; have hcBM1 : w2.cell? ⟨w.heap.size, 1, none⟩ = some (.int .i64 a0_1) := (blk_cell BM.out 1).trans rfl; have hcBM2 : w2.cell? ⟨w.heap.size, 2, none⟩ = some (.int .i64 a0_2) := (blk_cell BM.out 2).trans rfl; have hcBM3 : w2.cell? ⟨w.heap.size, 3, none⟩ = some (.slice A0_3 l0_3.length c0_3) := (blk_cell BM.out 3).trans rfl))
  go_wp2_with fail
  refine (H2.out _ HB.out).mono ?_
  rintro e w3 ⟨A1, c1, rfl, hc1, hC, hb3⟩
  clear hcBM0 hcBM1 hcBM2 hcBM3
  have HO3 := Aside0.mk (Kd.R_below HO.out hb3)
  have HC := Aside0.mk hC
  have n1_ := Aside0.mk (below_step HB.out hb3)
  clear HB HO hC hc1 hb3 BM
  have HB := n1_
  clear n1_
  go_wp2_with (first | ((with_reducible refine gate_builtin (b := .append) (xs := #[.tmp 30, .tmp 34]) rfl ?_); at_builtin; refine Kd.R_append_rows (Kd.int .i64) (w0 := w) w.heap.size rfl (.tmp 30) (.tmp 34) 22 3 (.int .i64 0) 8 rfl Try.underlying22 info3 rfl (by decide) (by omega) v2 [] px _ _ _ (fun _ => True) (fun _ => False) rfl rfl ?aO ?aR (fun _ _ h => h) (fun _ h => h.elim) ?aF ?aB ?aS ?aL ?_; (case aR => exact HC.out); (case aB => exact HB.out); (case aF => exact (fun _ _ => trivial)); (case aO => exact HO3.out); (case aS => exact HB.out.size); (case aL => have := HPL.out; simp only [List.length_nil]; omega); intro v4 w4 ho4 hb4 hg4 hat4; rw [List.nil_append] at ho4; have n0_ := Aside0.mk hb4; have n1_ := Aside0.mk ho4; clear HB HO3 HC hb4 ho4 hg4 hat4; have HB := n0_; have HO := n1_; clear n0_ n1_))
  go_ret
  exact ⟨_, rfl, HO.out, HB.out⟩
theorem impl_PixelAt.calls (a0_0 : Int) (a0_1 : Int) (a0_2 : Int) (A0_3 : Option Addr) (c0_3 : Nat) (l0_3 : List Int) (a1 : Int) (a2 : Int) (r : List Int) (w : World) (hr0_3 : Kd.C (Kd.int .i64) w A0_3 l0_3.length l0_3) (hc0_3 : l0_3.length ≤ c0_3) (h : impl_PixelAt.f a0_0 a0_1 a0_2 l0_3 a1 a2 = some r) :
    Calls Try.prog 20 #[.agg #[.int .i64 a0_0, .int .i64 a0_1, .int .i64 a0_2, .slice A0_3 l0_3.length c0_3], .int .i64 a1, .int .i64 a2] w fun e w' => ∃ v0_ : Value, e = .returned (v0_) ∧ Kd.R (Kd.int .i64) 3 w' w.heap.size (fun _ => True) v0_ r ∧ Below w.heap.size w w' := by
  unfold impl_PixelAt.f at h
  by_cases hv : B.okImg a0_0 a0_1 a0_2 l0_3 = true
  case neg =>
    exact (by
    rw [if_neg (fun g => hv g.1)] at h
    obtain rfl := Option.some.inj h
    exact pixel_no a0_0 a0_1 a0_2 A0_3 c0_3 l0_3 a1 a2 w hr0_3 hc0_3 (Bool.eq_false_iff.2 hv))
  by_cases t1 : a1 < 0
  · exact (by
    rw [if_neg (fun g => by have := g.2; simp only [onImg, Bool.and_eq_true, decide_eq_true_eq] at this; omega)] at h
    obtain rfl := Option.some.inj h
    exact pixel_x0 a0_0 a0_1 a0_2 A0_3 c0_3 l0_3 a1 a2 w hr0_3 hc0_3 hv t1)
  by_cases t2 : a0_0 ≤ a1
  · exact (by
    rw [if_neg (fun g => by have := g.2; simp only [onImg, Bool.and_eq_true, decide_eq_true_eq] at this; omega)] at h
    obtain rfl := Option.some.inj h
    exact pixel_x1 a0_0 a0_1 a0_2 A0_3 c0_3 l0_3 a1 a2 w hr0_3 hc0_3 hv t1 t2)
  by_cases t3 : a2 < 0
  · exact (by
    rw [if_neg (fun g => by have := g.2; simp only [onImg, Bool.and_eq_true, decide_eq_true_eq] at this; omega)] at h
    obtain rfl := Option.some.inj h
    exact pixel_y0 a0_0 a0_1 a0_2 A0_3 c0_3 l0_3 a1 a2 w hr0_3 hc0_3 hv t1 t2 t3)
  by_cases t4 : a0_1 ≤ a2
  · exact (by
    rw [if_neg (fun g => by have := g.2; simp only [onImg, Bool.and_eq_true, decide_eq_true_eq] at this; omega)] at h
    obtain rfl := Option.some.inj h
    exact pixel_y1 a0_0 a0_1 a0_2 A0_3 c0_3 l0_3 a1 a2 w hr0_3 hc0_3 hv t1 t2 t3 t4)
  have hon : onImg a0_0 a0_1 a1 a2 = true := by
    simp only [onImg, Bool.and_eq_true, decide_eq_true_eq]
    omega
  rw [if_pos ⟨hv, hon⟩] at h
  obtain rfl := Option.some.inj h
  exact pixel_yes a0_0 a0_1 a0_2 A0_3 c0_3 l0_3 a1 a2 w hr0_3 hc0_3 hv t1 t2 t3 t4

end Go.Proofs.Ytmljcnhecjlinaa.Q
