-- Written by a program of this session (the kit's printer, with hand-proved contracts for the functions that it does not take).
import Derived.Test.YtpadegboplcapaaQ0
import Derived.Test.YtpadegboplcapaaQ5
import Derived.Test.YtpadegboplcapaaQ6
import Derived.Test.YtpadegboplcapaaQ7
namespace Go.Proofs.Ytpadegboplcapaa.Q
open Go.RowKit Go.Proofs.YtpadegboplcapaaW.PrintWords Go.Proofs.YtpadegboplcapaaW.PrintLast Go.Proofs.YtpadegboplcapaaW.PrintMore
attribute [local go_sem] max2_int min2_int max_two min_two max_three min_three max_four min_four   -- for this text's walks alone
set_option linter.unusedVariables false
set_option linter.unusedSimpArgs false

/-! ### impl_PassData: function 18 (by hand) -/
-- GIVEN loop.example/pixelworks/impl.PassData
-- ROUNDS yes
-- MAKING yes
/-- The pixels of columns and rows, row by row. -/
def passRow (w p : Nat) (D cs : List Int) (y : Int) : List Int := cs.flatMap fun x => B.pix D w p x.toNat y.toNat
def passAll (w p : Nat) (D rs cs : List Int) : List Int := rs.flatMap (passRow w p D cs)
def pre1 (w p : Nat) (D rs cs : List Int) (i : Nat) : List Int := passAll w p D (rs.take i) cs
def pre2 (w p : Nat) (D rs cs : List Int) (i j : Nat) (y : Int) : List Int := pre1 w p D rs cs i ++ passRow w p D (cs.take j) y
theorem take_rd (l : List Int) (x : Int) (h0 : 0 ≤ x) (h1 : x < (l.length : Int)) : l.take (x + 1).toNat = l.take x.toNat ++ [rd l x] := by
  have h2 : x.toNat < l.length := by omega
  rw [show (x + 1).toNat = x.toNat + 1 by omega, List.take_succ_eq_append_getElem h2]
  unfold rd
  simp [h2]
theorem rd_mem (l : List Int) (x : Int) (h0 : 0 ≤ x) (h1 : x < (l.length : Int)) : rd l x ∈ l := by
  have h2 : x.toNat < l.length := by omega
  unfold rd
  simp [h2]
theorem pre1_zero (w p : Nat) (D rs cs : List Int) : pre1 w p D rs cs 0 = [] := by simp [pre1, passAll]
theorem pre1_all (w p : Nat) (D rs cs : List Int) : pre1 w p D rs cs rs.length = passAll w p D rs cs := by simp [pre1]
theorem pre2_zero (w p : Nat) (D rs cs : List Int) (i : Nat) (y : Int) : pre2 w p D rs cs i 0 y = pre1 w p D rs cs i := by simp [pre2, passRow]
theorem pre2_step (w p : Nat) (D rs cs : List Int) (i : Nat) (y x : Int) (h0 : 0 ≤ x) (h1 : x < (cs.length : Int)) : pre2 w p D rs cs i x.toNat y ++ B.pix D w p (rd cs x).toNat y.toNat = pre2 w p D rs cs i (x + 1).toNat y := by
  unfold pre2 passRow
  rw [take_rd cs x h0 h1, List.flatMap_append, List.append_assoc]
  simp
theorem pre2_all (w p : Nat) (D rs cs : List Int) (y : Int) (h0 : 0 ≤ y) (h1 : y < (rs.length : Int)) : pre2 w p D rs cs y.toNat cs.length (rd rs y) = pre1 w p D rs cs (y + 1).toNat := by
  unfold pre2 pre1 passAll
  rw [take_rd rs y h0 h1, List.flatMap_append, List.take_length]
  simp
theorem pre1_le (w p : Nat) (D rs cs : List Int) (i : Nat) : (pre1 w p D rs cs i).length ≤ (passAll w p D rs cs).length := by
  unfold pre1 passAll
  conv => rhs; rw [← List.take_append_drop i rs, List.flatMap_append, List.length_append]
  omega
theorem passRow_le (w p : Nat) (D cs : List Int) (j : Nat) (y : Int) : (passRow w p D (cs.take j) y).length ≤ (passRow w p D cs y).length := by
  unfold passRow
  conv => rhs; rw [← List.take_append_drop j cs, List.flatMap_append, List.length_append]
  omega
theorem pre2_le (w p : Nat) (D rs cs : List Int) (j : Nat) (y : Int) (h0 : 0 ≤ y) (h1 : y < (rs.length : Int)) : (pre2 w p D rs cs y.toNat j (rd rs y)).length ≤ (passAll w p D rs cs).length := by
  refine Nat.le_trans ?_ (pre1_le w p D rs cs (y + 1).toNat)
  rw [← pre2_all w p D rs cs y h0 h1]
  unfold pre2
  rw [List.length_append, List.length_append, List.take_length]
  have := passRow_le w p D cs j (rd rs y)
  omega
def passOk (w h : Int) (rs cs : List Int) (n : Nat) : Bool := (cs.all fun x => decide (0 ≤ x) && decide (x < w)) && ((rs.all fun y => decide (0 ≤ y) && decide (y < h)) && (decide (rs.length ≤ 1000) && (decide (cs.length ≤ 1000) && decide (n ≤ 10000))))
def impl_PassData.f (k : Nat) (a0_0 : Int) (a0_1 : Int) (a0_2 : Int) (l0_3 : List Int) (a1 : Int) : Option (List Int) :=
  if B.okImg a0_0 a0_1 a0_2 l0_3 = true ∧ 0 ≤ a1 ∧ a1 ≤ 6 then
    (impl_passOf.f a1).bind fun t => (impl_pass_rows.f k t.1 t.2.1 t.2.2.1 t.2.2.2 a0_1).bind fun rs => (impl_pass_columns.f k t.1 t.2.1 t.2.2.1 t.2.2.2 a0_0).bind fun cs =>
      if passOk a0_0 a0_1 rs cs (passAll a0_0.toNat a0_2.toNat l0_3 rs cs).length = true then some (passAll a0_0.toNat a0_2.toNat l0_3 rs cs) else none
  else some []
theorem impl_PassData.mono : ∀ a0 a1 a2 a3 a4 k, LeO (impl_PassData.f k a0 a1 a2 a3 a4) (impl_PassData.f (k + 1) a0 a1 a2 a3 a4) := by
  intro a0 a1 a2 a3 a4 k
  unfold impl_PassData.f
  refine LeO.ite (LeO.bind (LeO.refl _) fun _ => LeO.bind (impl_pass_rows.mono _ _ _ _ _ _) fun _ => LeO.bind (impl_pass_columns.mono _ _ _ _ _ _) fun _ => LeO.refl _) (LeO.refl _)
set_option maxHeartbeats 4000000 in
theorem pass_no (a0_0 : Int) (a0_1 : Int) (a0_2 : Int) (A0_3 : Option Addr) (c0_3 : Nat) (l0_3 : List Int) (a1 : Int) (w : World) (hr0_3 : Kd.C (Kd.int .i64) w A0_3 l0_3.length l0_3) (hc0_3 : l0_3.length ≤ c0_3) (hv : B.okImg a0_0 a0_1 a0_2 l0_3 = false) :
    Calls Try.prog 18 #[.agg #[.int .i64 a0_0, .int .i64 a0_1, .int .i64 a0_2, .slice A0_3 l0_3.length c0_3], .int .i64 a1] w fun e w' => ∃ v0_ : Value, e = .returned (v0_) ∧ Kd.R (Kd.int .i64) 3 w' w.heap.size (fun _ => True) v0_ [] ∧ Below w.heap.size w w' := by
  have hu28 := Try.underlying34
  have H1 := Aside0.mk (fun (W : World) (hW : Below w.heap.size w W) => impl_isImage.calls a0_0 a0_1 a0_2 A0_3 c0_3 l0_3 false W (Kd.C_below hr0_3 hW) hc0_3 (by rw [isImage_ok, hv]))
  have BM : Aside0 ((w.alloc (.cells #[.int .i64 a0_0, .int .i64 a0_1, .int .i64 a0_2, .slice A0_3 l0_3.length c0_3] 34)).heap[w.heap.size]? = some (.cells #[.int .i64 a0_0, .int .i64 a0_1, .int .i64 a0_2, .slice A0_3 l0_3.length c0_3] 34 (0, 0))) := ⟨(heap_alloc_new w (.cells #[.int .i64 a0_0, .int .i64 a0_1, .int .i64 a0_2, .slice A0_3 l0_3.length c0_3] 34))⟩
  have HB : Aside0 (Below w.heap.size w (w.alloc (.cells #[.int .i64 a0_0, .int .i64 a0_1, .int .i64 a0_2, .slice A0_3 l0_3.length c0_3] 34))) := ⟨(below_alloc (Below.refl _ _) _)⟩
  clear hv hr0_3 hc0_3
  go_enter Try.func18, Try.ntmps18
  go_wp2_with fail
  refine (H1.out _ HB.out).mono ?_
  rintro e w1 ⟨rfl, hb1⟩
  have n0_ := Aside0.mk (blk_below BM.out hb1)
  have nb_ := Aside0.mk (below_step HB.out hb1)
  clear BM HB hb1
  have BM := n0_
  have HB := nb_
  clear n0_ nb_
  have hcBM0 := B.bc BM 0
  have hcBM1 := B.bc BM 1
  have hcBM2 := B.bc BM 2
  have hcBM3 := B.bc BM 3
  go_wp2
  go_ret
  exact ⟨_, rfl, Kd.R_nil _ _ _ _ _, HB.out⟩
set_option maxHeartbeats 4000000 in
theorem pass_lo (a0_0 : Int) (a0_1 : Int) (a0_2 : Int) (A0_3 : Option Addr) (c0_3 : Nat) (l0_3 : List Int) (a1 : Int) (w : World) (hr0_3 : Kd.C (Kd.int .i64) w A0_3 l0_3.length l0_3) (hc0_3 : l0_3.length ≤ c0_3) (hv : B.okImg a0_0 a0_1 a0_2 l0_3 = true) (t1 : a1 < 0) :
    Calls Try.prog 18 #[.agg #[.int .i64 a0_0, .int .i64 a0_1, .int .i64 a0_2, .slice A0_3 l0_3.length c0_3], .int .i64 a1] w fun e w' => ∃ v0_ : Value, e = .returned (v0_) ∧ Kd.R (Kd.int .i64) 3 w' w.heap.size (fun _ => True) v0_ [] ∧ Below w.heap.size w w' := by
  have hu28 := Try.underlying34
  have H1 := Aside0.mk (fun (W : World) (hW : Below w.heap.size w W) => impl_isImage.calls a0_0 a0_1 a0_2 A0_3 c0_3 l0_3 true W (Kd.C_below hr0_3 hW) hc0_3 (by rw [isImage_ok, hv]))
  have u1 : decide (a1 < 0) = true := decide_eq_true t1
  clear t1
  have BM : Aside0 ((w.alloc (.cells #[.int .i64 a0_0, .int .i64 a0_1, .int .i64 a0_2, .slice A0_3 l0_3.length c0_3] 34)).heap[w.heap.size]? = some (.cells #[.int .i64 a0_0, .int .i64 a0_1, .int .i64 a0_2, .slice A0_3 l0_3.length c0_3] 34 (0, 0))) := ⟨(heap_alloc_new w (.cells #[.int .i64 a0_0, .int .i64 a0_1, .int .i64 a0_2, .slice A0_3 l0_3.length c0_3] 34))⟩
  have HB : Aside0 (Below w.heap.size w (w.alloc (.cells #[.int .i64 a0_0, .int .i64 a0_1, .int .i64 a0_2, .slice A0_3 l0_3.length c0_3] 34))) := ⟨(below_alloc (Below.refl _ _) _)⟩
  clear hv hr0_3 hc0_3
  go_enter Try.func18, Try.ntmps18
  go_wp2_with fail
  refine (H1.out _ HB.out).mono ?_
  rintro e w1 ⟨rfl, hb1⟩
  have n0_ := Aside0.mk (blk_below BM.out hb1)
  have nb_ := Aside0.mk (below_step HB.out hb1)
  clear BM HB hb1
  have BM := n0_
  have HB := nb_
  clear n0_ nb_
  have hcBM0 := B.bc BM 0
  have hcBM1 := B.bc BM 1
  have hcBM2 := B.bc BM 2
  have hcBM3 := B.bc BM 3
  go_wp2
  go_ret
  exact ⟨_, rfl, Kd.R_nil _ _ _ _ _, HB.out⟩
set_option maxHeartbeats 4000000 in
theorem pass_hi (a0_0 : Int) (a0_1 : Int) (a0_2 : Int) (A0_3 : Option Addr) (c0_3 : Nat) (l0_3 : List Int) (a1 : Int) (w : World) (hr0_3 : Kd.C (Kd.int .i64) w A0_3 l0_3.length l0_3) (hc0_3 : l0_3.length ≤ c0_3) (hv : B.okImg a0_0 a0_1 a0_2 l0_3 = true) (t1 : ¬ a1 < 0) (t2 : 6 < a1) :
    Calls Try.prog 18 #[.agg #[.int .i64 a0_0, .int .i64 a0_1, .int .i64 a0_2, .slice A0_3 l0_3.length c0_3], .int .i64 a1] w fun e w' => ∃ v0_ : Value, e = .returned (v0_) ∧ Kd.R (Kd.int .i64) 3 w' w.heap.size (fun _ => True) v0_ [] ∧ Below w.heap.size w w' := by
  have hu28 := Try.underlying34
  have H1 := Aside0.mk (fun (W : World) (hW : Below w.heap.size w W) => impl_isImage.calls a0_0 a0_1 a0_2 A0_3 c0_3 l0_3 true W (Kd.C_below hr0_3 hW) hc0_3 (by rw [isImage_ok, hv]))
  have u1 : decide (a1 < 0) = false := decide_eq_false t1
  clear t1
  have u2 : decide (6 < a1) = true := decide_eq_true t2
  clear t2
  have BM : Aside0 ((w.alloc (.cells #[.int .i64 a0_0, .int .i64 a0_1, .int .i64 a0_2, .slice A0_3 l0_3.length c0_3] 34)).heap[w.heap.size]? = some (.cells #[.int .i64 a0_0, .int .i64 a0_1, .int .i64 a0_2, .slice A0_3 l0_3.length c0_3] 34 (0, 0))) := ⟨(heap_alloc_new w (.cells #[.int .i64 a0_0, .int .i64 a0_1, .int .i64 a0_2, .slice A0_3 l0_3.length c0_3] 34))⟩
  have HB : Aside0 (Below w.heap.size w (w.alloc (.cells #[.int .i64 a0_0, .int .i64 a0_1, .int .i64 a0_2, .slice A0_3 l0_3.length c0_3] 34))) := ⟨(below_alloc (Below.refl _ _) _)⟩
  clear hv hr0_3 hc0_3
  go_enter Try.func18, Try.ntmps18
  go_wp2_with fail
  refine (H1.out _ HB.out).mono ?_
  rintro e w1 ⟨rfl, hb1⟩
  have n0_ := Aside0.mk (blk_below BM.out hb1)
  have nb_ := Aside0.mk (below_step HB.out hb1)
  clear BM HB hb1
  have BM := n0_
  have HB := nb_
  clear n0_ nb_
  have hcBM0 := B.bc BM 0
  have hcBM1 := B.bc BM 1
  have hcBM2 := B.bc BM 2
  have hcBM3 := B.bc BM 3
  go_wp2
  go_ret
  exact ⟨_, rfl, Kd.R_nil _ _ _ _ _, HB.out⟩
set_option maxHeartbeats 8000000 in
set_option maxRecDepth 100000 in
theorem pass_yes (k : Nat) (p1 p2 p3 p4 : Int) (rs cs : List Int) (a0_0 : Int) (a0_1 : Int) (a0_2 : Int) (A0_3 : Option Addr) (c0_3 : Nat) (l0_3 : List Int) (a1 : Int) (w : World) (hr0_3 : Kd.C (Kd.int .i64) w A0_3 l0_3.length l0_3) (hc0_3 : l0_3.length ≤ c0_3) (hv : B.okImg a0_0 a0_1 a0_2 l0_3 = true) (t1 : ¬ a1 < 0) (t2 : ¬ 6 < a1) (hT : impl_passOf.f a1 = some (p1, p2, p3, p4)) (hrs : impl_pass_rows.f k p1 p2 p3 p4 a0_1 = some rs) (hcs : impl_pass_columns.f k p1 p2 p3 p4 a0_0 = some cs) (hok : passOk a0_0 a0_1 rs cs (passAll a0_0.toNat a0_2.toNat l0_3 rs cs).length = true) :
    Calls Try.prog 18 #[.agg #[.int .i64 a0_0, .int .i64 a0_1, .int .i64 a0_2, .slice A0_3 l0_3.length c0_3], .int .i64 a1] w fun e w' => ∃ v0_ : Value, e = .returned (v0_) ∧ Kd.R (Kd.int .i64) 3 w' w.heap.size (fun _ => True) v0_ (passAll a0_0.toNat a0_2.toNat l0_3 rs cs) ∧ Below w.heap.size w w' := by
  have hu28 := Try.underlying34
  have hu56 := Try.underlying56
  have hK : (∀ x ∈ cs, 0 ≤ x ∧ x < a0_0) ∧ (∀ y ∈ rs, 0 ≤ y ∧ y < a0_1) ∧ rs.length ≤ 1000 ∧ cs.length ≤ 1000 ∧ (passAll a0_0.toNat a0_2.toNat l0_3 rs cs).length ≤ 10000 := by
    have h := hok
    unfold passOk at h
    simp only [Bool.and_eq_true, List.all_eq_true, decide_eq_true_eq] at h
    exact h
  have HK := Aside0.mk hK
  have ho := (B.okImg_img hv).1
  have H1 := Aside0.mk (fun (W : World) (hW : Below w.heap.size w W) => impl_isImage.calls a0_0 a0_1 a0_2 A0_3 c0_3 l0_3 true W (Kd.C_below hr0_3 hW) hc0_3 (by rw [isImage_ok, hv]))
  have H2 := Aside0.mk (fun (W : World) => impl_passOf.calls a1 p1 p2 p3 p4 W hT)
  have H3 := Aside0.mk (fun (W : World) => impl_pass_rows.calls k p1 p2 p3 p4 a0_1 rs W hrs)
  have H4 := Aside0.mk (fun (W : World) => impl_pass_columns.calls k p1 p2 p3 p4 a0_0 cs W hcs)
  have H5 := Aside0.mk (fun (W : World) (hW : Below w.heap.size w W) (x y : Int) (hx : 0 ≤ x ∧ x < a0_0) (hy : 0 ≤ y ∧ y < a0_1) => at_calls a0_0 a0_1 a0_2 x y A0_3 c0_3 l0_3 W ho hx hy (Kd.C_below hr0_3 hW) hc0_3)
  have hpl : ∀ x y, (B.pix l0_3 a0_0.toNat a0_2.toNat x y).length ≤ 4 := fun x y => by
    have := ho.2.2.2.2.2.1
    unfold B.pix B.chunk
    rw [List.length_take]
    omega
  have HPL := Aside0.mk hpl
  have u1 : decide (a1 < 0) = false := decide_eq_false t1
  have u2 : decide (6 < a1) = false := decide_eq_false t2
  clear hK ho hpl hok hT hrs hcs t1 t2
  have BM : Aside0 ((w.alloc (.cells #[.int .i64 a0_0, .int .i64 a0_1, .int .i64 a0_2, .slice A0_3 l0_3.length c0_3] 34)).heap[w.heap.size]? = some (.cells #[.int .i64 a0_0, .int .i64 a0_1, .int .i64 a0_2, .slice A0_3 l0_3.length c0_3] 34 (0, 0))) := ⟨(heap_alloc_new w (.cells #[.int .i64 a0_0, .int .i64 a0_1, .int .i64 a0_2, .slice A0_3 l0_3.length c0_3] 34))⟩
  have HB : Aside0 (Below w.heap.size w (w.alloc (.cells #[.int .i64 a0_0, .int .i64 a0_1, .int .i64 a0_2, .slice A0_3 l0_3.length c0_3] 34))) := ⟨(below_alloc (Below.refl _ _) _)⟩
  clear hv hr0_3 hc0_3
  go_enter Try.func18, Try.ntmps18
  go_wp2_with fail
  refine (H1.out _ HB.out).mono ?_
  rintro e w1 ⟨rfl, hb1⟩
  have n0_ := Aside0.mk (blk_below BM.out hb1)
  have nb_ := Aside0.mk (below_step HB.out hb1)
  clear BM HB hb1
  have BM := n0_
  have HB := nb_
  clear n0_ nb_
  have hcBM0 := B.bc BM 0
  have hcBM1 := B.bc BM 1
  have hcBM2 := B.bc BM 2
  have hcBM3 := B.bc BM 3
  clear H1
  go_upto_region 5 with (first | ((with_reducible refine gate_dst (N := 22) rfl ?_); refine Kd.R_lit (Kd.int .i64) _ 3 ?hg (N := 22) ?hd (xs := ([] : List Int)) (inner := []) (ok := fun _ => True) (okp := fun _ => True) ?hr ?hp (fun _ hk => hk) trivial (Below.refl _ _) (Nat.le_refl _) (by simp) ?_; (case hd => rfl); (case hg => rfl); (case hr => first | (go_simp; done) | (go_simp; rfl)); (case hp => exact (Reps.none _ _)); intro v2 w2 ho2 hb2 hg_ hnew_; clear hg_ hnew_; have n0_ := Aside0.mk (blk_below BM.out hb2); have n1_ := Aside0.mk (below_step HB.out hb2); have n2_ := Aside0.mk (Kd.R_lower ho2 HB.out.size); clear BM HB hb2 ho2; have BM := n0_; have HB := n1_; have HO := n2_; clear n0_ n1_ n2_; clear hcBM0 hcBM1 hcBM2 hcBM3) | ((with_reducible refine gate_callee (f := 39) rfl ?_); refine goesL_ (some 24) rfl rfl Try.func39 (by kernel_rfl) rfl #[.int .i64 a1] rfl B.am ?_; refine (H2.out _).mono ?_; rintro e w3 ⟨rfl, hb⟩; refine ⟨_, rfl, ?_⟩; have n0_ := Aside0.mk (Kd.R_below (B.kr HO) hb); have n1_ := Aside0.mk (blk_below (B.kb BM) hb); have n2_ := Aside0.mk (below_step (B.bl HB) hb); clear HO BM HB hb; have HO := n0_; have BM := n1_; have HB := n2_; clear n0_ n1_ n2_) | ((with_reducible refine gate_dst (N := 6) rfl ?_); refine box_event ?hg (N := 6) ?hd (cs := #[.int .i64 0, .int .i64 0, .int .i64 0, .int .i64 0]) (t := 56) ?hr ?_; (case hd => rfl); (case hg => rfl); (case hr => first | (go_simp; done) | (go_simp; rfl)); intro gp hg w4 hbox hb; have n0_ := Aside0.mk (Kd.R_below (B.kr HO) hb); have n1_ := Aside0.mk (blk_below (B.kb BM) hb); have n2_ := Aside0.mk (below_step (B.bl HB) hb); have n3_ := Aside0.mk hbox; have n4_ := Aside0.mk (B.nle hg (below_size (B.bl HB))); have n5_ := Aside0.mk (B.nlt hg (blk_lt (B.kb BM))); clear HO BM HB; have HO := n0_; have BM := n1_; have HB := n2_; have BP := n3_; have GP := n4_; have NMP := n5_; clear n0_ n1_ n2_ n3_ n4_ n5_; clear hb hbox hg; have hp0 : w4.cell? ⟨gp, 0, none⟩ = some (.int .i64 0) := B.bc BP 0; have hp1 : w4.cell? ⟨gp, 1, none⟩ = some (.int .i64 0) := B.bc BP 1; have hp2 : w4.cell? ⟨gp, 2, none⟩ = some (.int .i64 0) := B.bc BP 2; have hp3 : w4.cell? ⟨gp, 3, none⟩ = some (.int .i64 0) := B.bc BP 3; have hq0 := blk_frozen BP.out 0; have hq1 := blk_frozen BP.out 1; have hq2 := blk_frozen BP.out 2; have hq3 := blk_frozen BP.out 3))
  (try simp only [Act.put, List.setIfInBounds_toArray, List.set_cons_zero, List.set_cons_succ])
  have n0_ : Aside0 (Kd.R (Kd.int .i64) 3 ((((w4.setCell ⟨gp, 0, none⟩ (.int .i64 p1)).setCell ⟨gp, 1, none⟩ (.int .i64 p2)).setCell ⟨gp, 2, none⟩ (.int .i64 p3)).setCell ⟨gp, 3, none⟩ (.int .i64 p4)) w.heap.size (fun _ => True) v2 []) := ⟨Kd.R_mono (B.rf4 HO BP) (fun _ _ => trivial)⟩
  have n1_ : Aside0 (((((w4.setCell ⟨gp, 0, none⟩ (.int .i64 p1)).setCell ⟨gp, 1, none⟩ (.int .i64 p2)).setCell ⟨gp, 2, none⟩ (.int .i64 p3)).setCell ⟨gp, 3, none⟩ (.int .i64 p4)).heap[w.heap.size]? = some (.cells #[.int .i64 a0_0, .int .i64 a0_1, .int .i64 a0_2, .slice A0_3 l0_3.length c0_3] 34 (0, 0))) := ⟨B.bf4 BM NMP⟩
  have n2_ : Aside0 (((((w4.setCell ⟨gp, 0, none⟩ (.int .i64 p1)).setCell ⟨gp, 1, none⟩ (.int .i64 p2)).setCell ⟨gp, 2, none⟩ (.int .i64 p3)).setCell ⟨gp, 3, none⟩ (.int .i64 p4)).heap[gp]? = some (.cells #[.int .i64 p1, .int .i64 p2, .int .i64 p3, .int .i64 p4] 56 (0, 0))) := ⟨B.bp4 BP⟩
  have n3_ : Aside0 (Below w.heap.size w ((((w4.setCell ⟨gp, 0, none⟩ (.int .i64 p1)).setCell ⟨gp, 1, none⟩ (.int .i64 p2)).setCell ⟨gp, 2, none⟩ (.int .i64 p3)).setCell ⟨gp, 3, none⟩ (.int .i64 p4))) := ⟨below_set (below_set (below_set (below_set HB.out GP.out) GP.out) GP.out) GP.out⟩
  clear HO BM BP HB hp0 hp1 hp2 hp3 hq0 hq1 hq2 hq3 H2
  have HO := n0_
  have BM := n1_
  have BP := n2_
  have HB := n3_
  clear n0_ n1_ n2_ n3_
  generalize ((((w4.setCell ⟨gp, 0, none⟩ (.int .i64 p1)).setCell ⟨gp, 1, none⟩ (.int .i64 p2)).setCell ⟨gp, 2, none⟩ (.int .i64 p3)).setCell ⟨gp, 3, none⟩ (.int .i64 p4)) = w5 at HO BM BP HB ⊢
  have hm0 : w5.cell? ⟨w.heap.size, 0, none⟩ = some (.int .i64 a0_0) := (blk_cell BM.out 0).trans rfl
  have hm1 : w5.cell? ⟨w.heap.size, 1, none⟩ = some (.int .i64 a0_1) := (blk_cell BM.out 1).trans rfl
  have hm2 : w5.cell? ⟨w.heap.size, 2, none⟩ = some (.int .i64 a0_2) := (blk_cell BM.out 2).trans rfl
  have hm3 : w5.cell? ⟨w.heap.size, 3, none⟩ = some (.slice A0_3 l0_3.length c0_3) := (blk_cell BM.out 3).trans rfl
  have hp0 : w5.cell? ⟨gp, 0, none⟩ = some (.int .i64 p1) := B.bc BP 0
  have hp1 : w5.cell? ⟨gp, 1, none⟩ = some (.int .i64 p2) := B.bc BP 1
  have hp2 : w5.cell? ⟨gp, 2, none⟩ = some (.int .i64 p3) := B.bc BP 2
  have hp3 : w5.cell? ⟨gp, 3, none⟩ = some (.int .i64 p4) := B.bc BP 3
  go_wp2_with fail
  refine (H3.out _).mono ?_
  rintro e w6 ⟨vr, rfl, hr0, hb6⟩
  clear hm0 hm1 hm2 hm3 hp0 hp1 hp2 hp3 H3
  have HRS := Aside0.mk (Kd.R_tight rfl (Kd.R_lower hr0 HB.out.size))
  have HN := Aside0.mk (show ∀ j, some j = vr.ownBlock → some j ≠ v2.ownBlock from fun j h1 h2 => absurd (Kd.R_lt HO.out j h2.symm) (Nat.not_lt.2 (Kd.R_base hr0 j h1.symm)))
  clear hr0
  have n0_ := Aside0.mk (Kd.R_below HO.out hb6)
  have n1_ := Aside0.mk (blk_below BM.out hb6)
  have n2_ := Aside0.mk (blk_below BP.out hb6)
  have n3_ := Aside0.mk (below_step HB.out hb6)
  clear HO BM BP HB hb6
  have HO := n0_
  have BM := n1_
  have BP := n2_
  have HB := n3_
  clear n0_ n1_ n2_ n3_
  obtain ⟨Ar, cr, er⟩ := Kd.R_slice HRS.out
  subst er
  go_wp2
  go_loopg [5, 30] rs.length (fun gg v5 v30 wr => ∃ (y : Int) (vo : Value), vo = v5 ∧ v30 = .int .i64 y ∧ Aside0 (0 ≤ y ∧ y ≤ (rs.length : Int) ∧ rs.length - y.toNat ≤ gg) ∧ Aside0 (wr.heap[w.heap.size]? = some (.cells #[.int .i64 a0_0, .int .i64 a0_1, .int .i64 a0_2, .slice A0_3 l0_3.length c0_3] 34 (0, 0))) ∧ Aside0 (wr.heap[gp]? = some (.cells #[.int .i64 p1, .int .i64 p2, .int .i64 p3, .int .i64 p4] 56 (0, 0))) ∧ Aside0 (Kd.R (Kd.int .i64) 3 wr w.heap.size (fun j => some j = (.slice Ar rs.length cr : Value).ownBlock) (.slice Ar rs.length cr : Value) rs) ∧ Aside0 (Kd.R (Kd.int .i64) 3 wr w.heap.size (fun _ => True) vo (pre1 a0_0.toNat a0_2.toNat l0_3 rs cs y.toNat)) ∧ Aside0 (∀ j, some j = (.slice Ar rs.length cr : Value).ownBlock → some j ≠ vo.ownBlock) ∧ Aside0 (Below w.heap.size w wr))
  case atStart => exact ⟨0, _, rfl, rfl, ⟨by omega⟩, BM, BP, HRS, ⟨by rw [show (0 : Int).toNat = 0 from rfl, pre1_zero]; exact HO.out⟩, HN, HB⟩
  case round =>
    clear HO BM BP HRS HN HB
    obtain ⟨y, vo, rfl, rfl, HY, BM, BP, HRS, HO, HN, HB⟩ := hrel
    by_cases cy : y < (rs.length : Int)
    · have cyb : decide (y < (rs.length : Int)) = true := decide_eq_true cy
      have HCY := Aside0.mk cy
      have p1' : 0 ≤ y := HY.out.1
      have q1' : y < (rs.length : Int) := cy
      clear cy
      obtain ⟨gr, cr', er, gb, gl, HG⟩ := Kd.R_form HRS.out (by omega)
      injection er with ea_ en_ ec_
      subst ea_
      subst ec_
      clear en_ gb gl HG
      obtain ⟨hx0, hf0⟩ := Kd.R_celln 0 HRS.out y p1' q1'
      replace hx0 := hx0.trans (show _ = some (Value.int .i64 (rd rs y)) from rfl)
      have hyr := HK.out.2.1 (rd rs y) (rd_mem rs y p1' q1')
      replace p1' := eq_true p1'
      replace q1' := eq_true q1'
      generalize hz : rd rs y = yv at hx0 hyr
      have HZ := Aside0.mk hz
      have HYV := Aside0.mk hyr
      clear hz hyr
      have hm0 : wr.cell? ⟨w.heap.size, 0, none⟩ = some (.int .i64 a0_0) := (blk_cell BM.out 0).trans rfl
      have hm1 : wr.cell? ⟨w.heap.size, 1, none⟩ = some (.int .i64 a0_1) := (blk_cell BM.out 1).trans rfl
      have hm2 : wr.cell? ⟨w.heap.size, 2, none⟩ = some (.int .i64 a0_2) := (blk_cell BM.out 2).trans rfl
      have hm3 : wr.cell? ⟨w.heap.size, 3, none⟩ = some (.slice A0_3 l0_3.length c0_3) := (blk_cell BM.out 3).trans rfl
      have hp0 : wr.cell? ⟨gp, 0, none⟩ = some (.int .i64 p1) := B.bc BP 0
      have hp1 : wr.cell? ⟨gp, 1, none⟩ = some (.int .i64 p2) := B.bc BP 1
      have hp2 : wr.cell? ⟨gp, 2, none⟩ = some (.int .i64 p3) := B.bc BP 2
      have hp3 : wr.cell? ⟨gp, 3, none⟩ = some (.int .i64 p4) := B.bc BP 3
      go_wp2_with fail
      refine (H4.out _).mono ?_
      rintro e w7 ⟨vc, rfl, hc0, hb7⟩
      clear hm0 hm1 hm2 hm3 hp0 hp1 hp2 hp3 hx0 hf0
      have HCS := Aside0.mk (Kd.R_tight rfl (Kd.R_lower hc0 HB.out.size))
      have HNC := Aside0.mk (show ∀ j, some j = vc.ownBlock → some j ≠ vo.ownBlock from fun j h1 h2 => absurd (Kd.R_lt HO.out j h2.symm) (Nat.not_lt.2 (Kd.R_base hc0 j h1.symm)))
      clear hc0
      have n0_ := Aside0.mk (Kd.R_below HO.out hb7)
      have n1_ := Aside0.mk (Kd.R_below HRS.out hb7)
      have n2_ := Aside0.mk (blk_below BM.out hb7)
      have n3_ := Aside0.mk (blk_below BP.out hb7)
      have n4_ := Aside0.mk (below_step HB.out hb7)
      clear HO HRS BM BP HB hb7
      have HO := n0_
      have HRS := n1_
      have BM := n2_
      have BP := n3_
      have HB := n4_
      clear n0_ n1_ n2_ n3_ n4_
      obtain ⟨Ac, cc, ec⟩ := Kd.R_slice HCS.out
      subst ec
      go_wp2
      go_loopg [5, 39] cs.length (fun gg v5 v39 wi => ∃ (x : Int) (vi : Value), vi = v5 ∧ v39 = .int .i64 x ∧ Aside0 (0 ≤ x ∧ x ≤ (cs.length : Int) ∧ cs.length - x.toNat ≤ gg) ∧ Aside0 (wi.heap[w.heap.size]? = some (.cells #[.int .i64 a0_0, .int .i64 a0_1, .int .i64 a0_2, .slice A0_3 l0_3.length c0_3] 34 (0, 0))) ∧ Aside0 (wi.heap[gp]? = some (.cells #[.int .i64 p1, .int .i64 p2, .int .i64 p3, .int .i64 p4] 56 (0, 0))) ∧ Aside0 (Kd.R (Kd.int .i64) 3 wi w.heap.size (fun j => some j = (.slice (some ⟨gr, 0, none⟩) rs.length cr : Value).ownBlock) (.slice (some ⟨gr, 0, none⟩) rs.length cr : Value) rs) ∧ Aside0 (Kd.R (Kd.int .i64) 3 wi w.heap.size (fun j => some j = (.slice Ac cs.length cc : Value).ownBlock) (.slice Ac cs.length cc : Value) cs) ∧ Aside0 (Kd.R (Kd.int .i64) 3 wi w.heap.size (fun _ => True) vi (pre2 a0_0.toNat a0_2.toNat l0_3 rs cs y.toNat x.toNat yv)) ∧ Aside0 (∀ j, some j = (.slice (some ⟨gr, 0, none⟩) rs.length cr : Value).ownBlock → some j ≠ vi.ownBlock) ∧ Aside0 (∀ j, some j = (.slice Ac cs.length cc : Value).ownBlock → some j ≠ vi.ownBlock) ∧ Aside0 (Below w.heap.size w wi))
      case atStart => exact ⟨0, _, rfl, rfl, ⟨by omega⟩, BM, BP, HRS, HCS, ⟨by rw [show (0 : Int).toNat = 0 from rfl, pre2_zero]; exact HO.out⟩, HN, HNC, HB⟩
      case round =>
        clear HO BM BP HRS HCS HN HNC HB
        obtain ⟨x, vi, rfl, rfl, HX, BM, BP, HRS, HCS, HO, HN, HNC, HB⟩ := hrel
        by_cases cx : x < (cs.length : Int)
        · have cxb : decide (x < (cs.length : Int)) = true := decide_eq_true cx
          have HCX := Aside0.mk cx
          have p2' : 0 ≤ x := HX.out.1
          have q2' : x < (cs.length : Int) := cx
          clear cx
          obtain ⟨gc, cc', ec, gb, gl, HG⟩ := Kd.R_form HCS.out (by omega)
          injection ec with ea_ en_ ec_
          subst ea_
          subst ec_
          clear en_ gb gl HG
          obtain ⟨hx0, hf0⟩ := Kd.R_celln 0 HCS.out x p2' q2'
          replace hx0 := hx0.trans (show _ = some (Value.int .i64 (rd cs x)) from rfl)
          have hxr := HK.out.1 (rd cs x) (rd_mem cs x p2' q2')
          have HST := Aside0.mk (pre2_step a0_0.toNat a0_2.toNat l0_3 rs cs y.toNat yv x p2' q2')
          have HLE := Aside0.mk (pre2_le a0_0.toNat a0_2.toNat l0_3 rs cs x.toNat y HY.out.1 HCY.out)
          rw [HZ.out] at HLE
          have HW : Aside0 (wrap64 (x + 1) = x + 1) := ⟨B.w64 (by omega) (by have := HK.out.2.2.2.1; omega)⟩
          replace p2' := eq_true p2'
          replace q2' := eq_true q2'
          generalize rd cs x = xv at hx0 hxr HST
          have HXV := Aside0.mk hxr
          clear hxr
          generalize hout : pre2 a0_0.toNat a0_2.toNat l0_3 rs cs y.toNat x.toNat yv = out at HO HST HLE
          clear hout
          have hm0 : wr.cell? ⟨w.heap.size, 0, none⟩ = some (.int .i64 a0_0) := (blk_cell BM.out 0).trans rfl
          have hm1 : wr.cell? ⟨w.heap.size, 1, none⟩ = some (.int .i64 a0_1) := (blk_cell BM.out 1).trans rfl
          have hm2 : wr.cell? ⟨w.heap.size, 2, none⟩ = some (.int .i64 a0_2) := (blk_cell BM.out 2).trans rfl
          have hm3 : wr.cell? ⟨w.heap.size, 3, none⟩ = some (.slice A0_3 l0_3.length c0_3) := (blk_cell BM.out 3).trans rfl
          obtain ⟨Av, cv, ev⟩ := Kd.R_slice HO.out
          have HEV := Aside0.mk ev
          clear ev
          go_wp2_with fail
          refine (H5.out _ HB.out xv yv HXV.out HYV.out).mono ?_
          rintro e w8 ⟨A1, c1, rfl, hc1, hC, hb8⟩
          clear hm0 hm1 hm2 hm3 hx0 hf0
          have HC := Aside0.mk hC
          have HP4 := Aside0.mk (HPL.out xv.toNat yv.toNat)
          generalize B.pix l0_3 a0_0.toNat a0_2.toNat xv.toNat yv.toNat = px at HC HST HP4
          clear hC hc1
          have n0_ := Aside0.mk (Kd.R_below HO.out hb8)
          have n1_ := Aside0.mk (Kd.R_below HRS.out hb8)
          have n2_ := Aside0.mk (Kd.R_below HCS.out hb8)
          have n3_ := Aside0.mk (blk_below BM.out hb8)
          have n4_ := Aside0.mk (blk_below BP.out hb8)
          have n5_ := Aside0.mk (below_step HB.out hb8)
          clear HO HRS HCS BM BP HB hb8
          have HO := n0_
          have HRS := n1_
          have HCS := n2_
          have BM := n3_
          have BP := n4_
          have HB := n5_
          clear n0_ n1_ n2_ n3_ n4_ n5_
          go_wp2_with (first | ((with_reducible refine gate_builtin (b := .append) (xs := #[.tmp 43, .tmp 47]) rfl ?_); at_builtin; refine Kd.R_append_rows (Kd.int .i64) (w0 := w) w.heap.size rfl (.tmp 43) (.tmp 47) 32 3 (.int .i64 0) 8 rfl Try.underlying32 info3 rfl (by decide) (by omega) vi out px _ _ _ (fun _ => True) (fun _ => False) rfl rfl ?aO ?aR (fun _ _ h => h) (fun _ h => h.elim) ?aF ?aB ?aS ?aL ?_; (case aR => exact HC.out); (case aB => exact HB.out); (case aF => exact (fun _ _ => trivial)); (case aO => exact HO.out); (case aS => exact HB.out.size); (case aL => have := HP4.out; have := HLE.out; have := HK.out.2.2.2.2; omega); intro v9 w9 ho9 hb9 hg9 hat9; rw [HST.out] at ho9; have n0_ := Aside0.mk ho9; have n1_ := Aside0.mk (Kd.R_grown HRS.out hg9 HN.out); have n2_ := Aside0.mk (Kd.R_grown HCS.out hg9 HNC.out); have n3_ := Aside0.mk (blk_grown BM.out hg9 (Kd.R_ne HO.out BM.out (by decide))); have n4_ := Aside0.mk (blk_grown BP.out hg9 (Kd.R_ne HO.out BP.out (by decide))); have n5_ := Aside0.mk hb9; have n6_ := Aside0.mk (B.apart_grown HN.out (Kd.R_lt HRS.out) hat9); have n7_ := Aside0.mk (B.apart_grown HNC.out (Kd.R_lt HCS.out) hat9); clear HO HRS HCS BM BP HB HN HNC ho9 hb9 hg9 hat9 HC; have HO := n0_; have HRS := n1_; have HCS := n2_; have BM := n3_; have BP := n4_; have HB := n5_; have HN := n6_; have HNC := n7_; clear n0_ n1_ n2_ n3_ n4_ n5_ n6_ n7_))
          go_roundg (cs.length - (x + 1).toNat)
          case measure => have := HX.out; have := HCX.out; omega
          case rel =>
            refine ⟨wrap64 (x + 1), _, rfl, rfl, ⟨?_⟩, BM, BP, HRS, HCS, ⟨?_⟩, HN, HNC, HB⟩
            · rw [HW.out]; have := HX.out; have := HCX.out; omega
            · rw [HW.out]; exact HO.out
        · have cxb : decide (x < (cs.length : Int)) = false := decide_eq_false cx
          have ex : x.toNat = cs.length := by have := HX.out; omega
          have HA := Aside0.mk (pre2_all a0_0.toNat a0_2.toNat l0_3 rs cs y HY.out.1 HCY.out)
          rw [HZ.out] at HA
          rw [ex, HA.out] at HO
          clear ex cx HA
          have HW : Aside0 (wrap64 (y + 1) = y + 1) := ⟨B.w64 (by have := HY.out; omega) (by have := HK.out.2.2.1; have := HCY.out; omega)⟩
          go_wp2
          go_roundg (rs.length - (y + 1).toNat)
          case measure => have := HY.out; have := HCY.out; omega
          case rel =>
            refine ⟨wrap64 (y + 1), _, rfl, rfl, ⟨?_⟩, BM, BP, HRS, ⟨?_⟩, HN, HB⟩
            · rw [HW.out]; have := HY.out; have := HCY.out; omega
            · rw [HW.out]; exact HO.out
    · have cyb : decide (y < (rs.length : Int)) = false := decide_eq_false cy
      have ey : y.toNat = rs.length := by have := HY.out; omega
      rw [ey, pre1_all] at HO
      clear ey cy
      go_wp2
      go_ret
      exact ⟨_, rfl, HO.out, HB.out⟩
theorem impl_PassData.calls (k : Nat) (a0_0 : Int) (a0_1 : Int) (a0_2 : Int) (A0_3 : Option Addr) (c0_3 : Nat) (l0_3 : List Int) (a1 : Int) (r : List Int) (w : World) (hr0_3 : Kd.C (Kd.int .i64) w A0_3 l0_3.length l0_3) (hc0_3 : l0_3.length ≤ c0_3) (h : impl_PassData.f k a0_0 a0_1 a0_2 l0_3 a1 = some r) :
    Calls Try.prog 18 #[.agg #[.int .i64 a0_0, .int .i64 a0_1, .int .i64 a0_2, .slice A0_3 l0_3.length c0_3], .int .i64 a1] w fun e w' => ∃ v0_ : Value, e = .returned (v0_) ∧ Kd.R (Kd.int .i64) 3 w' w.heap.size (fun _ => True) v0_ r ∧ Below w.heap.size w w' := by
  unfold impl_PassData.f at h
  by_cases hv : B.okImg a0_0 a0_1 a0_2 l0_3 = true
  case neg =>
    exact (by
    rw [if_neg (fun g => hv g.1)] at h
    obtain rfl := Option.some.inj h
    exact pass_no a0_0 a0_1 a0_2 A0_3 c0_3 l0_3 a1 w hr0_3 hc0_3 (Bool.eq_false_iff.2 hv))
  by_cases t1 : a1 < 0
  · exact (by
    rw [if_neg (fun g => by have := g.2; omega)] at h
    obtain rfl := Option.some.inj h
    exact pass_lo a0_0 a0_1 a0_2 A0_3 c0_3 l0_3 a1 w hr0_3 hc0_3 hv t1)
  by_cases t2 : 6 < a1
  · exact (by
    rw [if_neg (fun g => by have := g.2; omega)] at h
    obtain rfl := Option.some.inj h
    exact pass_hi a0_0 a0_1 a0_2 A0_3 c0_3 l0_3 a1 w hr0_3 hc0_3 hv t1 t2)
  rw [if_pos ⟨hv, by omega, by omega⟩] at h
  obtain ⟨⟨p1, p2, p3, p4⟩, hT, h⟩ := Option.bind_eq_some_iff.mp h
  obtain ⟨rs, hrs, h⟩ := Option.bind_eq_some_iff.mp h
  obtain ⟨cs, hcs, h⟩ := Option.bind_eq_some_iff.mp h
  by_cases hok : passOk a0_0 a0_1 rs cs (passAll a0_0.toNat a0_2.toNat l0_3 rs cs).length = true
  · rw [if_pos hok] at h
    obtain rfl := Option.some.inj h
    exact pass_yes k p1 p2 p3 p4 rs cs a0_0 a0_1 a0_2 A0_3 c0_3 l0_3 a1 w hr0_3 hc0_3 hv t1 t2 hT hrs hcs hok
  · rw [if_neg hok] at h
    cases h

/-! ### impl_ValidImage: function 19 -/
def impl_ValidImage.f (a0_0 : Int) (a0_1 : Int) (a0_2 : Int) (l0_3 : List Int) : Option (Bool) := (impl_isImage.f a0_0 a0_1 a0_2 l0_3).bind fun t338 => (some t338)
set_option maxHeartbeats 8000000 in
set_option maxRecDepth 100000 in
theorem impl_ValidImage.calls (a0_0 : Int) (a0_1 : Int) (a0_2 : Int) (A0_3 : Option Addr) (c0_3 : Nat) (l0_3 : List Int) (r : Bool) (w : World) (hr0_3 : Kd.C (Kd.int .i64) w A0_3 l0_3.length l0_3) (hc0_3 : l0_3.length ≤ c0_3) (h : impl_ValidImage.f a0_0 a0_1 a0_2 l0_3 = some r) :
    Calls Try.prog 19 #[.agg #[.int .i64 a0_0, .int .i64 a0_1, .int .i64 a0_2, .slice A0_3 l0_3.length c0_3]] w fun e w' => e = .returned (.bool r) ∧ Below w.heap.size w w' := by
  have hu34 := Try.underlying34
  have HR0_3 := Aside0.mk hr0_3
  have HC0_3 := Aside0.mk hc0_3
  clear hr0_3 hc0_3
  have HB := Aside0.mk (Below.refl w.heap.size w)
  have H : ((impl_isImage.f a0_0 a0_1 a0_2 l0_3).bind fun t338 => (some t338)) = some r := h
  clear h
  replace H := Option.bind_eq_some_iff.mp H
  obtain ⟨t338, A20, H⟩ := H
  replace H : (some t338) = some r := H
  have A2 := Aside0.mk A20
  clear A20
  obtain rfl := Option.some.inj H
  simp only [Option.some.injEq, Prod.mk.injEq] at H
  obtain ⟨rfl⟩ := H
  go_enter Try.func19, Try.ntmps19
  go_wp2_with (first | ((with_reducible refine gate_dst (N := 1) rfl ?_); refine box_event ?hg (N := 1) ?hd (cs := #[.int .i64 a0_0, .int .i64 a0_1, .int .i64 a0_2, .slice A0_3 l0_3.length c0_3]) (t := 34) ?hr ?_; (case hd => rfl); (case hg => rfl); (case hr => first | (go_simp; done) | (go_simp; rfl)); intro gb337 hg w3 hbox hb; have n0_ := Aside0.mk (below_step (B.bl HB) hb); have n1_ := Aside0.mk (hbox); have n2_ := Aside0.mk (B.nle hg (below_size (B.bl HB))); have n3_ := Aside0.mk (B.nle hg (below_size (B.bl HB))); clear HB; have HB := n0_; have BK337 := n1_; have GW337 := n2_; have GE337 := n3_; clear n0_ n1_ n2_ n3_; clear hb hbox hg; have hcz4_0 : w3.cell? ⟨gb337, 0, none⟩ = some (.int .i64 a0_0) := B.bc BK337 0; have hcz4_1 : w3.cell? ⟨gb337, 1, none⟩ = some (.int .i64 a0_1) := B.bc BK337 1; have hcz4_2 : w3.cell? ⟨gb337, 2, none⟩ = some (.int .i64 a0_2) := B.bc BK337 2; have hcz4_3 : w3.cell? ⟨gb337, 3, none⟩ = some (.slice A0_3 l0_3.length c0_3) := B.bc BK337 3; have hfz4_0 := blk_frozen BK337.out 0; have hfz4_1 := blk_frozen BK337.out 1; have hfz4_2 := blk_frozen BK337.out 2; have hfz4_3 := blk_frozen BK337.out 3) | ((with_reducible refine gate_callee (f := 51) rfl ?_); refine goesL_ (some 4) rfl rfl Try.func51 (by kernel_rfl) rfl #[.agg #[.int .i64 a0_0, .int .i64 a0_1, .int .i64 a0_2, .slice A0_3 l0_3.length c0_3]] rfl B.am ?_; (with_reducible refine (impl_isImage.calls a0_0 a0_1 a0_2 _ _ l0_3 t338 _ ?side1 ?side2 A2.out).mono ?_); (case side1 => exact B.kc (Kd.C_below HR0_3.out HB.out)); (case side2 => exact HC0_3.out); rintro e w5 ⟨rfl, hb⟩; refine ⟨_, rfl, ?_⟩; have n0_ := Aside0.mk (blk_below (B.kb BK337) hb); have n1_ := Aside0.mk (below_step (B.bl HB) hb); clear BK337 HB; have BK337 := n0_; have HB := n1_; clear n0_ n1_; (try clear hb); (try clear hb2); (try clear hk); (try clear hi)))
  go_ret
  exact ⟨by first | rfl | (simp [errW_none, errW_some] <;> rfl) | (simp [*, errW_none, errW_some] <;> rfl), B.bl HB⟩

/-! ### laws_FnJoinPasses: function 5 -/
mutual
def laws_FnJoinPasses.j0 : Nat → List (List Int) → Bool → Bool → Bool → Int → Int → Int → List Int → Int → Int → Int → List Int → Option (Bool)
  | 0, _, _, _, _, _, _, _, _, _, _, _, _ => none
  | k + 1, x6, x8, x10, x50, x353000, x353001, x353002, x353003, x361000, x361001, x361002, x361003 => if x50 = true then ((laws_equalImage.f k x353000 x353001 x353002 x353003 x361000 x361001 x361002 x361003).bind fun t362 => (if t362 = true then (some (x8 == x10)) else (some false))) else (laws_FnJoinPasses.l0 k x6 0 x353000 x353001 x353002 x353003)
def laws_FnJoinPasses.l0 : Nat → List (List Int) → Int → Int → Int → Int → List Int → Option (Bool)
  | 0, _, _, _, _, _, _ => none
  | k + 1, x6, x11, x353000, x353001, x353002, x353003 => if x11 < 7 then ((impl_PassData.f k x353000 x353001 x353002 x353003 x11).bind fun t364 => (if 0 ≤ x11 then (if x11 < (x6.length : Int) then ((laws_equalInts.f k t364 (rd_L1 x6 x11)).bind fun t368 => (if t368 = true then (laws_FnJoinPasses.l0 k x6 (wrap64 (x11 + 1)) x353000 x353001 x353002 x353003) else (some false))) else (none)) else (none))) else ((impl_ValidImage.f x353000 x353001 x353002 x353003).bind fun t363 => (some t363))
end
def laws_FnJoinPasses.f (k : Nat) (l0 : List Int) : Option (Bool) := if (l0.length : Int) > 1048576 then (some true) else ((spec_DrawJoinPasses.f k l0).bind fun bt339 => ((impl_JoinPasses.f k bt339.1 bt339.2.1 bt339.2.2.1 bt339.2.2.2).bind fun bt345 => ((spec_JoinPasses.f k bt339.1 bt339.2.1 bt339.2.2.1 bt339.2.2.2).bind fun bt353 => ((laws_equalImage.f k bt345.1 bt345.2.1 bt345.2.2.1 bt345.2.2.2.1 bt353.1 bt353.2.1 bt353.2.2.1 bt353.2.2.2.1).bind fun t361 => (if t361 = true then (if (bt345.2.2.2.2 != bt353.2.2.2.2) = true then (laws_FnJoinPasses.j0 k bt339.2.2.2 bt345.2.2.2.2 bt353.2.2.2.2 true bt345.1 bt345.2.1 bt345.2.2.1 bt345.2.2.2.1 bt353.1 bt353.2.1 bt353.2.2.1 bt353.2.2.2.1) else (laws_FnJoinPasses.j0 k bt339.2.2.2 bt345.2.2.2.2 bt353.2.2.2.2 (!bt345.2.2.2.2) bt345.1 bt345.2.1 bt345.2.2.1 bt345.2.2.2.1 bt353.1 bt353.2.1 bt353.2.2.1 bt353.2.2.2.1)) else (laws_FnJoinPasses.j0 k bt339.2.2.2 bt345.2.2.2.2 bt353.2.2.2.2 true bt345.1 bt345.2.1 bt345.2.2.1 bt345.2.2.2.1 bt353.1 bt353.2.1 bt353.2.2.1 bt353.2.2.2.1))))))
theorem laws_FnJoinPasses.mono_l : ∀ k, (∀ y0 y1 y2 y3 y4 y5 y6 y7 y8 y9 y10 y11, LeO (laws_FnJoinPasses.j0 k y0 y1 y2 y3 y4 y5 y6 y7 y8 y9 y10 y11) (laws_FnJoinPasses.j0 (k + 1) y0 y1 y2 y3 y4 y5 y6 y7 y8 y9 y10 y11)) ∧ (∀ y0 y1 y2 y3 y4 y5, LeO (laws_FnJoinPasses.l0 k y0 y1 y2 y3 y4 y5) (laws_FnJoinPasses.l0 (k + 1) y0 y1 y2 y3 y4 y5))
  | 0 => ⟨fun _ _ _ _ _ _ _ _ _ _ _ _ r h => by simp [laws_FnJoinPasses.j0] at h, fun _ _ _ _ _ _ r h => by simp [laws_FnJoinPasses.l0] at h⟩
  | k + 1 => by
    obtain ⟨ih0, ih1⟩ := laws_FnJoinPasses.mono_l k
    refine ⟨?_, ?_⟩
    · intro y0 y1 y2 y3 y4 y5 y6 y7 y8 y9 y10 y11
      unfold laws_FnJoinPasses.j0
      repeat' first
      | (with_reducible exact ih0 _ _ _ _ _ _ _ _ _ _ _ _)
      | (with_reducible exact ih1 _ _ _ _ _ _)
      | (with_reducible exact impl_JoinPasses.mono _ _ _ _ _)
      | (with_reducible exact impl_PassData.mono _ _ _ _ _ _)
      | (with_reducible exact laws_equalImage.mono _ _ _ _ _ _ _ _ _)
      | (with_reducible exact laws_equalInts.mono _ _ _)
      | (with_reducible exact spec_DrawJoinPasses.mono _ _)
      | (with_reducible exact spec_JoinPasses.mono _ _ _ _ _)
      | (with_reducible exact LeO.refl _)
      | (with_reducible exact LeO.none _)
      | (with_reducible refine LeO.ite ?_ ?_)
      | (with_reducible refine LeO.bind ?_ (fun _ => ?_))
      | exact ih0 _ _ _ _ _ _ _ _ _ _ _ _
      | exact ih1 _ _ _ _ _ _
      | exact impl_JoinPasses.mono _ _ _ _ _
      | exact impl_PassData.mono _ _ _ _ _ _
      | exact laws_equalImage.mono _ _ _ _ _ _ _ _ _
      | exact laws_equalInts.mono _ _ _
      | exact spec_DrawJoinPasses.mono _ _
      | exact spec_JoinPasses.mono _ _ _ _ _
      | exact LeO.none _
      | refine LeO.ite ?_ ?_
      | refine LeO.bind ?_ (fun _ => ?_)
    intro y0 y1 y2 y3 y4 y5
    unfold laws_FnJoinPasses.l0
    repeat' first
    | (with_reducible exact ih0 _ _ _ _ _ _ _ _ _ _ _ _)
    | (with_reducible exact ih1 _ _ _ _ _ _)
    | (with_reducible exact impl_JoinPasses.mono _ _ _ _ _)
    | (with_reducible exact impl_PassData.mono _ _ _ _ _ _)
    | (with_reducible exact laws_equalImage.mono _ _ _ _ _ _ _ _ _)
    | (with_reducible exact laws_equalInts.mono _ _ _)
    | (with_reducible exact spec_DrawJoinPasses.mono _ _)
    | (with_reducible exact spec_JoinPasses.mono _ _ _ _ _)
    | (with_reducible exact LeO.refl _)
    | (with_reducible exact LeO.none _)
    | (with_reducible refine LeO.ite ?_ ?_)
    | (with_reducible refine LeO.bind ?_ (fun _ => ?_))
    | exact ih0 _ _ _ _ _ _ _ _ _ _ _ _
    | exact ih1 _ _ _ _ _ _
    | exact impl_JoinPasses.mono _ _ _ _ _
    | exact impl_PassData.mono _ _ _ _ _ _
    | exact laws_equalImage.mono _ _ _ _ _ _ _ _ _
    | exact laws_equalInts.mono _ _ _
    | exact spec_DrawJoinPasses.mono _ _
    | exact spec_JoinPasses.mono _ _ _ _ _
    | exact LeO.none _
    | refine LeO.ite ?_ ?_
    | refine LeO.bind ?_ (fun _ => ?_)
theorem laws_FnJoinPasses.mono : ∀ a0 k, LeO (laws_FnJoinPasses.f k a0) (laws_FnJoinPasses.f (k + 1) a0) := by
  intro a0 k
  obtain ⟨ih0, ih1⟩ := laws_FnJoinPasses.mono_l k
  unfold laws_FnJoinPasses.f
  repeat' first
      | (with_reducible exact ih0 _ _ _ _ _ _ _ _ _ _ _ _)
      | (with_reducible exact ih1 _ _ _ _ _ _)
      | (with_reducible exact impl_JoinPasses.mono _ _ _ _ _)
      | (with_reducible exact impl_PassData.mono _ _ _ _ _ _)
      | (with_reducible exact laws_equalImage.mono _ _ _ _ _ _ _ _ _)
      | (with_reducible exact laws_equalInts.mono _ _ _)
      | (with_reducible exact spec_DrawJoinPasses.mono _ _)
      | (with_reducible exact spec_JoinPasses.mono _ _ _ _ _)
      | (with_reducible exact LeO.refl _)
      | (with_reducible exact LeO.none _)
      | (with_reducible refine LeO.ite ?_ ?_)
      | (with_reducible refine LeO.bind ?_ (fun _ => ?_))
      | exact ih0 _ _ _ _ _ _ _ _ _ _ _ _
      | exact ih1 _ _ _ _ _ _
      | exact impl_JoinPasses.mono _ _ _ _ _
      | exact impl_PassData.mono _ _ _ _ _ _
      | exact laws_equalImage.mono _ _ _ _ _ _ _ _ _
      | exact laws_equalInts.mono _ _ _
      | exact spec_DrawJoinPasses.mono _ _
      | exact spec_JoinPasses.mono _ _ _ _ _
      | exact LeO.none _
      | refine LeO.ite ?_ ?_
      | refine LeO.bind ?_ (fun _ => ?_)
def laws_FnJoinPasses.T11 : Bool × List (List Nat × List Nat) := (true, [([], []), ([], []), ([0, 1], [0, 1]), ([], []), ([], []), ([3, 4], [3, 4]), ([5], [5]), ([2, 6, 2], [2, 6]), ([7], [7])])
def laws_FnJoinPasses.B11 : List Nat := [0, 0, 3, 0, 0, 24, 56, 127, 255]
theorem laws_FnJoinPasses.tab11 : rtab .any (opsOf Try.f5 11) = laws_FnJoinPasses.T11 := by kernel_rfl
theorem laws_FnJoinPasses.bits11 : waitsOk laws_FnJoinPasses.T11.2 laws_FnJoinPasses.B11 = true := by kernel_rfl
set_option maxHeartbeats 8000000 in
set_option maxRecDepth 100000 in
theorem laws_FnJoinPasses.calls (k : Nat) (A0 : Option Addr) (c0 : Nat) (l0 : List Int) (r : Bool) (w : World) (hr0 : Kd.C (Kd.int .u8) w A0 l0.length l0) (hc0 : l0.length ≤ c0) (h : laws_FnJoinPasses.f k l0 = some r) (ht_ : Aside0 (r = true)) :
    Calls Try.prog 5 #[.slice A0 l0.length c0] w fun e w' => e = .returned (.bool r) ∧ Below w.heap.size w w' := by
  have hu34 := Try.underlying34
  have HR0 := Aside0.mk hr0
  have HC0 := Aside0.mk hc0
  clear hr0 hc0
  have HB := Aside0.mk (Below.refl w.heap.size w)
  have H : (if (l0.length : Int) > 1048576 then (some true) else ((spec_DrawJoinPasses.f k l0).bind fun bt339 => ((impl_JoinPasses.f k bt339.1 bt339.2.1 bt339.2.2.1 bt339.2.2.2).bind fun bt345 => ((spec_JoinPasses.f k bt339.1 bt339.2.1 bt339.2.2.1 bt339.2.2.2).bind fun bt353 => ((laws_equalImage.f k bt345.1 bt345.2.1 bt345.2.2.1 bt345.2.2.2.1 bt353.1 bt353.2.1 bt353.2.2.1 bt353.2.2.2.1).bind fun t361 => (if t361 = true then (if (bt345.2.2.2.2 != bt353.2.2.2.2) = true then (laws_FnJoinPasses.j0 k bt339.2.2.2 bt345.2.2.2.2 bt353.2.2.2.2 true bt345.1 bt345.2.1 bt345.2.2.1 bt345.2.2.2.1 bt353.1 bt353.2.1 bt353.2.2.1 bt353.2.2.2.1) else (laws_FnJoinPasses.j0 k bt339.2.2.2 bt345.2.2.2.2 bt353.2.2.2.2 (!bt345.2.2.2.2) bt345.1 bt345.2.1 bt345.2.2.1 bt345.2.2.2.1 bt353.1 bt353.2.1 bt353.2.2.1 bt353.2.2.2.1)) else (laws_FnJoinPasses.j0 k bt339.2.2.2 bt345.2.2.2.2 bt353.2.2.2.2 true bt345.1 bt345.2.1 bt345.2.2.1 bt345.2.2.2.1 bt353.1 bt353.2.1 bt353.2.2.1 bt353.2.2.2.1))))))) = some r := h
  clear h
  by_cases c2 : (l0.length : Int) > 1048576
  · rw [if_pos c2] at H
    have c2b0 : decide (1048576 < (l0.length : Int)) = true := decide_eq_true c2
    have c2b1 : decide (1048576 < l0.length) = true := decide_eq_true (by omega)
    clear c2
    obtain rfl := Option.some.inj H
    simp only [Option.some.injEq, Prod.mk.injEq] at H
    obtain ⟨rfl⟩ := H
    go_enter Try.func5, Try.ntmps5
    go_wp2
    go_ret
    exact ⟨by first | rfl | (simp [errW_none, errW_some] <;> rfl) | (simp [*, errW_none, errW_some] <;> rfl), B.bl HB⟩
  rw [if_neg c2] at H
  have c2b0 : decide (1048576 < (l0.length : Int)) = false := decide_eq_false c2
  have c2b1 : decide (1048576 < l0.length) = false := decide_eq_false (by omega)
  clear c2
  replace H := Option.bind_eq_some_iff.mp H
  obtain ⟨⟨t339, t340, t341, t342⟩, A30, H⟩ := H
  replace H : ((impl_JoinPasses.f k t339 t340 t341 t342).bind fun bt345 => ((spec_JoinPasses.f k t339 t340 t341 t342).bind fun bt353 => ((laws_equalImage.f k bt345.1 bt345.2.1 bt345.2.2.1 bt345.2.2.2.1 bt353.1 bt353.2.1 bt353.2.2.1 bt353.2.2.2.1).bind fun t361 => (if t361 = true then (if (bt345.2.2.2.2 != bt353.2.2.2.2) = true then (laws_FnJoinPasses.j0 k t342 bt345.2.2.2.2 bt353.2.2.2.2 true bt345.1 bt345.2.1 bt345.2.2.1 bt345.2.2.2.1 bt353.1 bt353.2.1 bt353.2.2.1 bt353.2.2.2.1) else (laws_FnJoinPasses.j0 k t342 bt345.2.2.2.2 bt353.2.2.2.2 (!bt345.2.2.2.2) bt345.1 bt345.2.1 bt345.2.2.1 bt345.2.2.2.1 bt353.1 bt353.2.1 bt353.2.2.1 bt353.2.2.2.1)) else (laws_FnJoinPasses.j0 k t342 bt345.2.2.2.2 bt353.2.2.2.2 true bt345.1 bt345.2.1 bt345.2.2.1 bt345.2.2.2.1 bt353.1 bt353.2.1 bt353.2.2.1 bt353.2.2.2.1))))) = some r := H
  have A3 := Aside0.mk A30
  clear A30
  replace H := Option.bind_eq_some_iff.mp H
  obtain ⟨⟨t345, t346, t347, t348, t351⟩, A40, H⟩ := H
  replace H : ((spec_JoinPasses.f k t339 t340 t341 t342).bind fun bt353 => ((laws_equalImage.f k t345 t346 t347 t348 bt353.1 bt353.2.1 bt353.2.2.1 bt353.2.2.2.1).bind fun t361 => (if t361 = true then (if (t351 != bt353.2.2.2.2) = true then (laws_FnJoinPasses.j0 k t342 t351 bt353.2.2.2.2 true t345 t346 t347 t348 bt353.1 bt353.2.1 bt353.2.2.1 bt353.2.2.2.1) else (laws_FnJoinPasses.j0 k t342 t351 bt353.2.2.2.2 (!t351) t345 t346 t347 t348 bt353.1 bt353.2.1 bt353.2.2.1 bt353.2.2.2.1)) else (laws_FnJoinPasses.j0 k t342 t351 bt353.2.2.2.2 true t345 t346 t347 t348 bt353.1 bt353.2.1 bt353.2.2.1 bt353.2.2.2.1)))) = some r := H
  have A4 := Aside0.mk A40
  clear A40
  replace H := Option.bind_eq_some_iff.mp H
  obtain ⟨⟨t353, t354, t355, t356, t359⟩, A50, H⟩ := H
  replace H : ((laws_equalImage.f k t345 t346 t347 t348 t353 t354 t355 t356).bind fun t361 => (if t361 = true then (if (t351 != t359) = true then (laws_FnJoinPasses.j0 k t342 t351 t359 true t345 t346 t347 t348 t353 t354 t355 t356) else (laws_FnJoinPasses.j0 k t342 t351 t359 (!t351) t345 t346 t347 t348 t353 t354 t355 t356)) else (laws_FnJoinPasses.j0 k t342 t351 t359 true t345 t346 t347 t348 t353 t354 t355 t356))) = some r := H
  have A5 := Aside0.mk A50
  clear A50
  have HC6 := Aside0.mk H
  clear H
  go_enter Try.func5, Try.ntmps5
  go_upto_region 6 with (first | ((with_reducible refine gate_callee (f := 13) rfl ?_); refine goesL_ (some 17) rfl rfl Try.func13 (by kernel_rfl) rfl #[.slice A0 l0.length c0] rfl B.am ?_; (with_reducible refine (spec_DrawJoinPasses.calls k _ _ l0 t339 t340 t341 t342 _ ?side1 ?side2 A3.out).mono ?_); (case side1 => exact B.kc (HR0.out)); (case side2 => exact HC0.out); rintro e w7 ⟨v343, rfl, ho0, hb⟩; refine ⟨_, rfl, ?_⟩; have n0_ := Aside0.mk (Kd.V_lower (Kd.V_mono (ok' := fun k_ => True) ho0 (fun k_ hk_ => trivial)) (below_size (B.bl HB))); have n1_ := Aside0.mk (below_step (B.bl HB) hb); clear HB; have HO344 := n0_; have HB := n1_; clear n0_ n1_; (try clear hb); (try clear hb2); (try clear hk); (try clear hi); (try clear ho0); obtain ⟨Ao8, co8, eo8⟩ := Kd.V_slice HO344.out; subst eo8) | ((with_reducible refine gate_callee (f := 14) rfl ?_); refine goesL_ (some 27) rfl rfl Try.func14 (by kernel_rfl) rfl #[.int .i64 t339, .int .i64 t340, .int .i64 t341, .slice Ao8 t342.length co8] rfl B.am ?_; (with_reducible refine (impl_JoinPasses.calls k t339 t340 t341 _ _ t342 t345 t346 t347 t348 t351 _ ?side1 ?side2 A4.out).mono ?_); (case side1 => exact B.kc ((Kd.V_reads' HO344.out).2.2)); (case side2 => exact (Kd.V_reads' HO344.out).2.1); rintro e w9 ⟨v349, rfl, ho0, hb⟩; refine ⟨_, rfl, ?_⟩; have n0_ := Aside0.mk (Kd.V_elder' (by (with_reducible repeat (first | apply Kd.V_alloc | apply Kd.V_drewN | apply Kd.V_drew)); exact HO344.out) (Kd.R_base ho0) hb); have n1_ := Aside0.mk (Kd.R_lower ho0 (below_size (B.bl HB))); have n2_ := Aside0.mk (below_step (B.bl HB) hb); clear HO344 HB; have HO344 := n0_; have HO350 := n1_; have HB := n2_; clear n0_ n1_ n2_; (try clear hb); (try clear hb2); (try clear hk); (try clear hi); (try clear ho0)) | ((with_reducible refine gate_dst (N := 7) rfl ?_); refine box_event ?hg (N := 7) ?hd (cs := #[.int .i64 0, .int .i64 0, .int .i64 0, .slice none 0 0]) (t := 34) ?hr ?_; (case hd => rfl); (case hg => rfl); (case hr => first | (go_simp; done) | (go_simp; rfl)); intro gb352 hg w10 hbox hb; have n0_ := Aside0.mk (Kd.V_below (Kd.V_elderB (by (with_reducible repeat (first | apply Kd.V_alloc | apply Kd.V_drewN | apply Kd.V_drew)); exact HO344.out) gb352 (Nat.le_of_eq hg.symm)) hb); have n1_ := Aside0.mk (Kd.R_below (B.kr HO350) hb); have n2_ := Aside0.mk (below_step (B.bl HB) hb); have n3_ := Aside0.mk (hbox); have n4_ := Aside0.mk (B.nle hg (below_size (B.bl HB))); have n5_ := Aside0.mk (B.nle hg (below_size (B.bl HB))); clear HO344 HO350 HB; have HO344 := n0_; have HO350 := n1_; have HB := n2_; have BK352 := n3_; have GW352 := n4_; have GE352 := n5_; clear n0_ n1_ n2_ n3_ n4_ n5_; clear hb hbox hg; have hcz11_0 : w10.cell? ⟨gb352, 0, none⟩ = some (.int .i64 0) := B.bc BK352 0; have hcz11_1 : w10.cell? ⟨gb352, 1, none⟩ = some (.int .i64 0) := B.bc BK352 1; have hcz11_2 : w10.cell? ⟨gb352, 2, none⟩ = some (.int .i64 0) := B.bc BK352 2; have hcz11_3 : w10.cell? ⟨gb352, 3, none⟩ = some (.slice none 0 0) := B.bc BK352 3; have hfz11_0 := blk_frozen BK352.out 0; have hfz11_1 := blk_frozen BK352.out 1; have hfz11_2 := blk_frozen BK352.out 2; have hfz11_3 := blk_frozen BK352.out 3; obtain ⟨Ao12, co12, eo12⟩ := Kd.R_slice HO350.out; subst eo12) | ((with_reducible refine gate_callee (f := 15) rfl ?_); refine goesL_ (some 35) rfl rfl Try.func15 (by kernel_rfl) rfl #[.int .i64 t339, .int .i64 t340, .int .i64 t341, .slice Ao8 t342.length co8] rfl B.am ?_; (with_reducible refine (spec_JoinPasses.calls k t339 t340 t341 _ _ t342 t353 t354 t355 t356 t359 _ ?side1 ?side2 A5.out).mono ?_); (case side1 => refine (Kd.V_reads' (e := 32) (base := w.heap.size) (ok := fun k_ => ((True ∧ some k_ ≠ (.slice Ao12 t348.length co12 : Value).ownBlock) ∧ k_ ≠ gb352)) (n := t342.length) (c := co8) ?_).2.2; exact (by (with_reducible repeat (first | apply Kd.V_alloc | apply Kd.V_drewN | apply Kd.V_drew)); exact (Kd.V_mono (Kd.V_far (p := ⟨gb352, 3, none⟩) (Kd.V_far (p := ⟨gb352, 2, none⟩) (Kd.V_far (p := ⟨gb352, 1, none⟩) (Kd.V_far (p := ⟨gb352, 0, none⟩) (Kd.V_mono HO344.out (fun k_ hk => (⟨hk, hk.2⟩ : _ ∧ k_ ≠ gb352))) (fun _ hk => hk.2) (.int .i64 t345)) (fun _ hk => hk.2) (.int .i64 t346)) (fun _ hk => hk.2) (.int .i64 t347)) (fun _ hk => hk.2) (.slice Ao12 t348.length co12)) (fun _ h_ => h_.1)))); (case side2 => exact (Kd.V_reads' HO344.out).2.1); rintro e w13 ⟨v357, rfl, ho0, hb⟩; refine ⟨_, rfl, ?_⟩; have n0_ := Aside0.mk (Kd.V_elder' (by (with_reducible repeat (first | apply Kd.V_alloc | apply Kd.V_drewN | apply Kd.V_drew)); exact (Kd.V_mono (Kd.V_far (p := ⟨gb352, 3, none⟩) (Kd.V_far (p := ⟨gb352, 2, none⟩) (Kd.V_far (p := ⟨gb352, 1, none⟩) (Kd.V_far (p := ⟨gb352, 0, none⟩) (Kd.V_mono HO344.out (fun k_ hk => (⟨hk, hk.2⟩ : _ ∧ k_ ≠ gb352))) (fun _ hk => hk.2) (.int .i64 t345)) (fun _ hk => hk.2) (.int .i64 t346)) (fun _ hk => hk.2) (.int .i64 t347)) (fun _ hk => hk.2) (.slice Ao12 t348.length co12)) (fun _ h_ => h_.1))) (Kd.R_base ho0) hb); have n1_ := Aside0.mk (Kd.R_elder' (B.kr0 (B.rs4 HO350 BK352)) (Kd.R_base ho0) hb); have n2_ := Aside0.mk (Kd.R_lower (Kd.R_new' ho0 (Kd.R_lt (B.kr0 (B.rs4 HO350 BK352)))) (below_size (B.bl HB))); have n3_ := Aside0.mk (blk_below (g := gb352) (o := .cells #[.int .i64 t345, .int .i64 t346, .int .i64 t347, .slice Ao12 t348.length co12] 34 (0, 0)) (B.kb0 (B.bp4 BK352)) hb); have n4_ := Aside0.mk (below_step (B.bl HB) hb); clear HO344 HO350 BK352 HB; have HO344 := n0_; have HO350 := n1_; have HO358 := n2_; have BK352 := n3_; have HB := n4_; clear n0_ n1_ n2_ n3_ n4_; (try clear hb); (try clear hb2); (try clear hk); (try clear hi); (try clear ho0)) | ((with_reducible refine gate_dst (N := 9) rfl ?_); refine box_event ?hg (N := 9) ?hd (cs := #[.int .i64 0, .int .i64 0, .int .i64 0, .slice none 0 0]) (t := 34) ?hr ?_; (case hd => rfl); (case hg => rfl); (case hr => first | (go_simp; done) | (go_simp; rfl)); intro gb360 hg w14 hbox hb; have n0_ := Aside0.mk (Kd.V_below (Kd.V_elderB (by (with_reducible repeat (first | apply Kd.V_alloc | apply Kd.V_drewN | apply Kd.V_drew)); exact HO344.out) gb360 (Nat.le_of_eq hg.symm)) hb); have n1_ := Aside0.mk (Kd.R_below (B.kr HO350) hb); have n2_ := Aside0.mk (Kd.R_below (B.kr HO358) hb); have n3_ := Aside0.mk (blk_below (B.kb BK352) hb); have n4_ := Aside0.mk (below_step (B.bl HB) hb); have n5_ := Aside0.mk (hbox); have n6_ := Aside0.mk (B.nle hg (below_size (B.bl HB))); have n7_ := Aside0.mk (B.nle hg (below_size (B.bl HB))); have n8_ := Aside0.mk (B.nlt hg (blk_lt (B.kb BK352))); have n9_ := Aside0.mk (B.ngt hg (blk_lt (B.kb BK352))); clear HO344 HO350 HO358 BK352 HB; have HO344 := n0_; have HO350 := n1_; have HO358 := n2_; have BK352 := n3_; have HB := n4_; have BK360 := n5_; have GW360 := n6_; have GE360 := n7_; have NB352_360 := n8_; have NB360_352 := n9_; clear n0_ n1_ n2_ n3_ n4_ n5_ n6_ n7_ n8_ n9_; clear hb hbox hg; have hnb15 := NB360_352.out; have hnc15 := NB352_360.out; have hcz16_0 : w14.cell? ⟨gb360, 0, none⟩ = some (.int .i64 0) := B.bc BK360 0; have hcz16_1 : w14.cell? ⟨gb360, 1, none⟩ = some (.int .i64 0) := B.bc BK360 1; have hcz16_2 : w14.cell? ⟨gb360, 2, none⟩ = some (.int .i64 0) := B.bc BK360 2; have hcz16_3 : w14.cell? ⟨gb360, 3, none⟩ = some (.slice none 0 0) := B.bc BK360 3; have hfz16_0 := blk_frozen BK360.out 0; have hfz16_1 := blk_frozen BK360.out 1; have hfz16_2 := blk_frozen BK360.out 2; have hfz16_3 := blk_frozen BK360.out 3; obtain ⟨Ao17, co17, eo17⟩ := Kd.R_slice HO358.out; subst eo17))
  (try simp only [Act.put, List.setIfInBounds_toArray, List.set_cons_zero, List.set_cons_succ])
  go_cut [50] (fun v50 wc => ∃ (kq : Nat) (x50_5 : Bool), v50 = .bool x50_5 ∧ Aside0 (laws_FnJoinPasses.j0 kq t342 t351 t359 x50_5 t345 t346 t347 t348 t353 t354 t355 t356 = some r) ∧ Aside0 (kq ≤ k) ∧ Aside0 (Kd.V (Kd.slice 3 (Kd.int .i64)) 32 wc w.heap.size (fun k_ => some k_ ≠ ((.slice Ao12 t348.length co12) : Value).ownBlock ∧ some k_ ≠ ((.slice Ao17 t356.length co17) : Value).ownBlock ∧ k_ ≠ gb352 ∧ k_ ≠ gb360) (.slice Ao8 t342.length co8) t342) ∧ Aside0 (Kd.R (Kd.int .i64) 3 wc w.heap.size (fun k_ => some k_ ≠ ((.slice Ao17 t356.length co17) : Value).ownBlock) (.slice Ao12 t348.length co12) t348) ∧ Aside0 (Kd.R (Kd.int .i64) 3 wc w.heap.size (fun k_ => some k_ ≠ ((.slice Ao12 t348.length co12) : Value).ownBlock) (.slice Ao17 t356.length co17) t356) ∧ Aside0 (wc.heap[gb352]? = some (.cells #[.int .i64 t345, .int .i64 t346, .int .i64 t347, (.slice Ao12 t348.length co12)] 34 (0, 0))) ∧ Aside0 (wc.heap[gb360]? = some (.cells #[.int .i64 t353, .int .i64 t354, .int .i64 t355, (.slice Ao17 t356.length co17)] 34 (0, 0))) ∧ Aside0 (Below w.heap.size w wc))
  case first =>
    have H := HC6.out
    clear HC6
    replace H := Option.bind_eq_some_iff.mp H
    obtain ⟨t361, A180, H⟩ := H
    replace H : (if t361 = true then (if (t351 != t359) = true then (laws_FnJoinPasses.j0 k t342 t351 t359 true t345 t346 t347 t348 t353 t354 t355 t356) else (laws_FnJoinPasses.j0 k t342 t351 t359 (!t351) t345 t346 t347 t348 t353 t354 t355 t356)) else (laws_FnJoinPasses.j0 k t342 t351 t359 true t345 t346 t347 t348 t353 t354 t355 t356)) = some r := H
    have A18 := Aside0.mk A180
    clear A180
    by_cases c19 : t361 = true
    · subst c19
      have H1 : (if (t351 != t359) = true then (laws_FnJoinPasses.j0 k t342 t351 t359 true t345 t346 t347 t348 t353 t354 t355 t356) else (laws_FnJoinPasses.j0 k t342 t351 t359 (!t351) t345 t346 t347 t348 t353 t354 t355 t356)) = some r := by rw [if_pos rfl] at H; exact H
      clear H
      have H := H1
      clear H1
      by_cases c20 : (t351 != t359) = true
      · rw [if_pos c20] at H
        have c20b0 : (t351 != t359) = true := c20
        (try (have c20b1 : decide (t351 = t359) = false := by simpa using c20))
        (try (have c20b2 : (t351 == t359) = false := by simpa using c20))
        (try (have c20b3 : ¬ (t351 = t359) := by simpa using c20))
        clear c20
        (first | rw [c20b0] | (simp only [i64_w, i32_w]; rw [c20b0]) | skip)
        have H' := Aside0.mk H
        clear H
        have hnb21 := NB352_360.out
        have hnc21 := NB360_352.out
        have hcz22_0 : w14.cell? ⟨gb352, 0, none⟩ = some (.int .i64 t345) := B.bc BK352 0
        have hcz22_1 : w14.cell? ⟨gb352, 1, none⟩ = some (.int .i64 t346) := B.bc BK352 1
        have hcz22_2 : w14.cell? ⟨gb352, 2, none⟩ = some (.int .i64 t347) := B.bc BK352 2
        have hcz22_3 : w14.cell? ⟨gb352, 3, none⟩ = some (.slice Ao12 t348.length co12) := B.bc BK352 3
        have hfz22_0 := blk_frozen BK352.out 0
        have hfz22_1 := blk_frozen BK352.out 1
        have hfz22_2 := blk_frozen BK352.out 2
        have hfz22_3 := blk_frozen BK352.out 3
        have hcz23_0 : w14.cell? ⟨gb360, 0, none⟩ = some (.int .i64 0) := B.bc BK360 0
        have hcz23_1 : w14.cell? ⟨gb360, 1, none⟩ = some (.int .i64 0) := B.bc BK360 1
        have hcz23_2 : w14.cell? ⟨gb360, 2, none⟩ = some (.int .i64 0) := B.bc BK360 2
        have hcz23_3 : w14.cell? ⟨gb360, 3, none⟩ = some (.slice none 0 0) := B.bc BK360 3
        have hfz23_0 := blk_frozen BK360.out 0
        have hfz23_1 := blk_frozen BK360.out 1
        have hfz23_2 := blk_frozen BK360.out 2
        have hfz23_3 := blk_frozen BK360.out 3
        go_wp2_with (first | ((with_reducible refine gate_callee (f := 16) rfl ?_); refine goesL_ (some 40) rfl rfl Try.func16 (by kernel_rfl) rfl #[.agg #[.int .i64 t345, .int .i64 t346, .int .i64 t347, .slice Ao12 t348.length co12], .agg #[.int .i64 t353, .int .i64 t354, .int .i64 t355, .slice Ao17 t356.length co17]] rfl B.am ?_; (with_reducible refine (laws_equalImage.calls k t345 t346 t347 _ _ t348 t353 t354 t355 _ _ t356 true _ ?side1 ?side2 ?side3 ?side4 A18.out).mono ?_); (case side1 => refine (Kd.R_reads' (e := 3) (base := w.heap.size) (ok := fun k_ => (True ∧ some k_ ≠ (.slice Ao17 t356.length co17 : Value).ownBlock)) (n := t348.length) (c := co12) ?_).2.2; exact (B.kr0 (B.rs4 HO350 BK360))); (case side2 => exact (Kd.R_reads' HO350.out).2.1); (case side3 => refine (Kd.R_reads' (e := 3) (base := w.heap.size) (ok := fun k_ => (True ∧ some k_ ≠ (.slice Ao12 t348.length co12 : Value).ownBlock)) (n := t356.length) (c := co17) ?_).2.2; exact (B.kr0 (B.rs4 HO358 BK360))); (case side4 => exact (Kd.R_reads' HO358.out).2.1); rintro e w24 ⟨rfl, hb⟩; refine ⟨_, rfl, ?_⟩; have n0_ := Aside0.mk (Kd.V_below (by (with_reducible repeat (first | apply Kd.V_alloc | apply Kd.V_drewN | apply Kd.V_drew)); exact (Kd.V_mono (Kd.V_far (p := ⟨gb360, 3, none⟩) (Kd.V_far (p := ⟨gb360, 2, none⟩) (Kd.V_far (p := ⟨gb360, 1, none⟩) (Kd.V_far (p := ⟨gb360, 0, none⟩) (Kd.V_mono HO344.out (fun k_ hk => (⟨hk, hk.2⟩ : _ ∧ k_ ≠ gb360))) (fun _ hk => hk.2) (.int .i64 t353)) (fun _ hk => hk.2) (.int .i64 t354)) (fun _ hk => hk.2) (.int .i64 t355)) (fun _ hk => hk.2) (.slice Ao17 t356.length co17)) (fun _ h_ => h_.1))) hb); have n1_ := Aside0.mk (Kd.R_below (B.kr0 (B.rs4 HO350 BK360)) hb); have n2_ := Aside0.mk (Kd.R_below (B.kr0 (B.rs4 HO358 BK360)) hb); have n3_ := Aside0.mk (blk_below (B.kb0 (B.bf4 BK352 NB352_360)) hb); have n4_ := Aside0.mk (blk_below (g := gb360) (o := .cells #[.int .i64 t353, .int .i64 t354, .int .i64 t355, .slice Ao17 t356.length co17] 34 (0, 0)) (B.kb0 (B.bp4 BK360)) hb); have n5_ := Aside0.mk (below_step (B.bl HB) hb); clear HO344 HO350 HO358 BK352 BK360 HB; have HO344 := n0_; have HO350 := n1_; have HO358 := n2_; have BK352 := n3_; have BK360 := n4_; have HB := n5_; clear n0_ n1_ n2_ n3_ n4_ n5_; (try clear hb); (try clear hb2); (try clear hk); (try clear hi)))
        go_meet
        case rel => exact ⟨_, (true), (by first | rfl | (simp; done) | (simp [*]; done)), H', ⟨by first | omega | exact Nat.le_refl _⟩, ⟨by (with_reducible repeat (first | apply Kd.V_alloc | apply Kd.V_drewN | apply Kd.V_drew)); exact Kd.V_mono HO344.out (fun _ hk => ⟨hk.1.1.1.2, ⟨hk.1.2, ⟨hk.1.1.2, hk.2⟩⟩⟩)⟩, ⟨B.kr0 (Kd.R_mono HO350.out (fun _ hk => hk.2))⟩, ⟨B.kr0 (Kd.R_mono HO358.out (fun _ hk => hk.2))⟩, ⟨B.kb BK352⟩, ⟨B.kb BK360⟩, ⟨B.bl HB⟩⟩
      rw [if_neg c20] at H
      have c20b0 : (t351 != t359) = false := by simpa using c20
      (try (have c20b1 : decide (t351 = t359) = true := by simpa using c20))
      (try (have c20b2 : (t351 == t359) = true := by simpa using c20))
      clear c20
      (first | rw [c20b0] | (simp only [i64_w, i32_w]; rw [c20b0]) | skip)
      have H' := Aside0.mk H
      clear H
      have hnb25 := NB352_360.out
      have hnc25 := NB360_352.out
      have hcz26_0 : w14.cell? ⟨gb352, 0, none⟩ = some (.int .i64 t345) := B.bc BK352 0
      have hcz26_1 : w14.cell? ⟨gb352, 1, none⟩ = some (.int .i64 t346) := B.bc BK352 1
      have hcz26_2 : w14.cell? ⟨gb352, 2, none⟩ = some (.int .i64 t347) := B.bc BK352 2
      have hcz26_3 : w14.cell? ⟨gb352, 3, none⟩ = some (.slice Ao12 t348.length co12) := B.bc BK352 3
      have hfz26_0 := blk_frozen BK352.out 0
      have hfz26_1 := blk_frozen BK352.out 1
      have hfz26_2 := blk_frozen BK352.out 2
      have hfz26_3 := blk_frozen BK352.out 3
      have hcz27_0 : w14.cell? ⟨gb360, 0, none⟩ = some (.int .i64 0) := B.bc BK360 0
      have hcz27_1 : w14.cell? ⟨gb360, 1, none⟩ = some (.int .i64 0) := B.bc BK360 1
      have hcz27_2 : w14.cell? ⟨gb360, 2, none⟩ = some (.int .i64 0) := B.bc BK360 2
      have hcz27_3 : w14.cell? ⟨gb360, 3, none⟩ = some (.slice none 0 0) := B.bc BK360 3
      have hfz27_0 := blk_frozen BK360.out 0
      have hfz27_1 := blk_frozen BK360.out 1
      have hfz27_2 := blk_frozen BK360.out 2
      have hfz27_3 := blk_frozen BK360.out 3
      go_wp2_with (first | ((with_reducible refine gate_callee (f := 16) rfl ?_); refine goesL_ (some 40) rfl rfl Try.func16 (by kernel_rfl) rfl #[.agg #[.int .i64 t345, .int .i64 t346, .int .i64 t347, .slice Ao12 t348.length co12], .agg #[.int .i64 t353, .int .i64 t354, .int .i64 t355, .slice Ao17 t356.length co17]] rfl B.am ?_; (with_reducible refine (laws_equalImage.calls k t345 t346 t347 _ _ t348 t353 t354 t355 _ _ t356 true _ ?side1 ?side2 ?side3 ?side4 A18.out).mono ?_); (case side1 => refine (Kd.R_reads' (e := 3) (base := w.heap.size) (ok := fun k_ => (True ∧ some k_ ≠ (.slice Ao17 t356.length co17 : Value).ownBlock)) (n := t348.length) (c := co12) ?_).2.2; exact (B.kr0 (B.rs4 HO350 BK360))); (case side2 => exact (Kd.R_reads' HO350.out).2.1); (case side3 => refine (Kd.R_reads' (e := 3) (base := w.heap.size) (ok := fun k_ => (True ∧ some k_ ≠ (.slice Ao12 t348.length co12 : Value).ownBlock)) (n := t356.length) (c := co17) ?_).2.2; exact (B.kr0 (B.rs4 HO358 BK360))); (case side4 => exact (Kd.R_reads' HO358.out).2.1); rintro e w28 ⟨rfl, hb⟩; refine ⟨_, rfl, ?_⟩; have n0_ := Aside0.mk (Kd.V_below (by (with_reducible repeat (first | apply Kd.V_alloc | apply Kd.V_drewN | apply Kd.V_drew)); exact (Kd.V_mono (Kd.V_far (p := ⟨gb360, 3, none⟩) (Kd.V_far (p := ⟨gb360, 2, none⟩) (Kd.V_far (p := ⟨gb360, 1, none⟩) (Kd.V_far (p := ⟨gb360, 0, none⟩) (Kd.V_mono HO344.out (fun k_ hk => (⟨hk, hk.2⟩ : _ ∧ k_ ≠ gb360))) (fun _ hk => hk.2) (.int .i64 t353)) (fun _ hk => hk.2) (.int .i64 t354)) (fun _ hk => hk.2) (.int .i64 t355)) (fun _ hk => hk.2) (.slice Ao17 t356.length co17)) (fun _ h_ => h_.1))) hb); have n1_ := Aside0.mk (Kd.R_below (B.kr0 (B.rs4 HO350 BK360)) hb); have n2_ := Aside0.mk (Kd.R_below (B.kr0 (B.rs4 HO358 BK360)) hb); have n3_ := Aside0.mk (blk_below (B.kb0 (B.bf4 BK352 NB352_360)) hb); have n4_ := Aside0.mk (blk_below (g := gb360) (o := .cells #[.int .i64 t353, .int .i64 t354, .int .i64 t355, .slice Ao17 t356.length co17] 34 (0, 0)) (B.kb0 (B.bp4 BK360)) hb); have n5_ := Aside0.mk (below_step (B.bl HB) hb); clear HO344 HO350 HO358 BK352 BK360 HB; have HO344 := n0_; have HO350 := n1_; have HO358 := n2_; have BK352 := n3_; have BK360 := n4_; have HB := n5_; clear n0_ n1_ n2_ n3_ n4_ n5_; (try clear hb); (try clear hb2); (try clear hk); (try clear hi)))
      go_meet
      case rel => exact ⟨_, (!t351), (by first | rfl | (simp; done) | (simp [*]; done)), H', ⟨by first | omega | exact Nat.le_refl _⟩, ⟨by (with_reducible repeat (first | apply Kd.V_alloc | apply Kd.V_drewN | apply Kd.V_drew)); exact Kd.V_mono HO344.out (fun _ hk => ⟨hk.1.1.1.2, ⟨hk.1.2, ⟨hk.1.1.2, hk.2⟩⟩⟩)⟩, ⟨B.kr0 (Kd.R_mono HO350.out (fun _ hk => hk.2))⟩, ⟨B.kr0 (Kd.R_mono HO358.out (fun _ hk => hk.2))⟩, ⟨B.kb BK352⟩, ⟨B.kb BK360⟩, ⟨B.bl HB⟩⟩
    replace c19 := Bool.eq_false_iff.mpr c19
    subst c19
    have H1 : (laws_FnJoinPasses.j0 k t342 t351 t359 true t345 t346 t347 t348 t353 t354 t355 t356) = some r := by rw [if_neg (show ¬ (false = true) by decide)] at H; exact H
    clear H
    have H := H1
    clear H1
    have H' := Aside0.mk H
    clear H
    have hnb29 := NB352_360.out
    have hnc29 := NB360_352.out
    have hcz30_0 : w14.cell? ⟨gb352, 0, none⟩ = some (.int .i64 t345) := B.bc BK352 0
    have hcz30_1 : w14.cell? ⟨gb352, 1, none⟩ = some (.int .i64 t346) := B.bc BK352 1
    have hcz30_2 : w14.cell? ⟨gb352, 2, none⟩ = some (.int .i64 t347) := B.bc BK352 2
    have hcz30_3 : w14.cell? ⟨gb352, 3, none⟩ = some (.slice Ao12 t348.length co12) := B.bc BK352 3
    have hfz30_0 := blk_frozen BK352.out 0
    have hfz30_1 := blk_frozen BK352.out 1
    have hfz30_2 := blk_frozen BK352.out 2
    have hfz30_3 := blk_frozen BK352.out 3
    have hcz31_0 : w14.cell? ⟨gb360, 0, none⟩ = some (.int .i64 0) := B.bc BK360 0
    have hcz31_1 : w14.cell? ⟨gb360, 1, none⟩ = some (.int .i64 0) := B.bc BK360 1
    have hcz31_2 : w14.cell? ⟨gb360, 2, none⟩ = some (.int .i64 0) := B.bc BK360 2
    have hcz31_3 : w14.cell? ⟨gb360, 3, none⟩ = some (.slice none 0 0) := B.bc BK360 3
    have hfz31_0 := blk_frozen BK360.out 0
    have hfz31_1 := blk_frozen BK360.out 1
    have hfz31_2 := blk_frozen BK360.out 2
    have hfz31_3 := blk_frozen BK360.out 3
    go_wp2_with (first | ((with_reducible refine gate_callee (f := 16) rfl ?_); refine goesL_ (some 40) rfl rfl Try.func16 (by kernel_rfl) rfl #[.agg #[.int .i64 t345, .int .i64 t346, .int .i64 t347, .slice Ao12 t348.length co12], .agg #[.int .i64 t353, .int .i64 t354, .int .i64 t355, .slice Ao17 t356.length co17]] rfl B.am ?_; (with_reducible refine (laws_equalImage.calls k t345 t346 t347 _ _ t348 t353 t354 t355 _ _ t356 false _ ?side1 ?side2 ?side3 ?side4 A18.out).mono ?_); (case side1 => refine (Kd.R_reads' (e := 3) (base := w.heap.size) (ok := fun k_ => (True ∧ some k_ ≠ (.slice Ao17 t356.length co17 : Value).ownBlock)) (n := t348.length) (c := co12) ?_).2.2; exact (B.kr0 (B.rs4 HO350 BK360))); (case side2 => exact (Kd.R_reads' HO350.out).2.1); (case side3 => refine (Kd.R_reads' (e := 3) (base := w.heap.size) (ok := fun k_ => (True ∧ some k_ ≠ (.slice Ao12 t348.length co12 : Value).ownBlock)) (n := t356.length) (c := co17) ?_).2.2; exact (B.kr0 (B.rs4 HO358 BK360))); (case side4 => exact (Kd.R_reads' HO358.out).2.1); rintro e w32 ⟨rfl, hb⟩; refine ⟨_, rfl, ?_⟩; have n0_ := Aside0.mk (Kd.V_below (by (with_reducible repeat (first | apply Kd.V_alloc | apply Kd.V_drewN | apply Kd.V_drew)); exact (Kd.V_mono (Kd.V_far (p := ⟨gb360, 3, none⟩) (Kd.V_far (p := ⟨gb360, 2, none⟩) (Kd.V_far (p := ⟨gb360, 1, none⟩) (Kd.V_far (p := ⟨gb360, 0, none⟩) (Kd.V_mono HO344.out (fun k_ hk => (⟨hk, hk.2⟩ : _ ∧ k_ ≠ gb360))) (fun _ hk => hk.2) (.int .i64 t353)) (fun _ hk => hk.2) (.int .i64 t354)) (fun _ hk => hk.2) (.int .i64 t355)) (fun _ hk => hk.2) (.slice Ao17 t356.length co17)) (fun _ h_ => h_.1))) hb); have n1_ := Aside0.mk (Kd.R_below (B.kr0 (B.rs4 HO350 BK360)) hb); have n2_ := Aside0.mk (Kd.R_below (B.kr0 (B.rs4 HO358 BK360)) hb); have n3_ := Aside0.mk (blk_below (B.kb0 (B.bf4 BK352 NB352_360)) hb); have n4_ := Aside0.mk (blk_below (g := gb360) (o := .cells #[.int .i64 t353, .int .i64 t354, .int .i64 t355, .slice Ao17 t356.length co17] 34 (0, 0)) (B.kb0 (B.bp4 BK360)) hb); have n5_ := Aside0.mk (below_step (B.bl HB) hb); clear HO344 HO350 HO358 BK352 BK360 HB; have HO344 := n0_; have HO350 := n1_; have HO358 := n2_; have BK352 := n3_; have BK360 := n4_; have HB := n5_; clear n0_ n1_ n2_ n3_ n4_ n5_; (try clear hb); (try clear hb2); (try clear hk); (try clear hi)))
    go_meet
    case rel => exact ⟨_, (true), (by first | rfl | (simp; done) | (simp [*]; done)), H', ⟨by first | omega | exact Nat.le_refl _⟩, ⟨by (with_reducible repeat (first | apply Kd.V_alloc | apply Kd.V_drewN | apply Kd.V_drew)); exact Kd.V_mono HO344.out (fun _ hk => ⟨hk.1.1.1.2, ⟨hk.1.2, ⟨hk.1.1.2, hk.2⟩⟩⟩)⟩, ⟨B.kr0 (Kd.R_mono HO350.out (fun _ hk => hk.2))⟩, ⟨B.kr0 (Kd.R_mono HO358.out (fun _ hk => hk.2))⟩, ⟨B.kb BK352⟩, ⟨B.kb BK360⟩, ⟨B.bl HB⟩⟩
  case rest =>
    clear HC6
    try clear c1
    try clear c2
    try clear c2b0
    try clear c2b1
    try clear p2
    try clear c5
    try clear c13
    try clear c14
    try clear c15
    try clear c16
    try clear c19
    try clear c20
    try clear c20b0
    try clear c20b1
    try clear c20b2
    try clear c21
    try clear c25
    try clear c29
    try clear hcz11_0
    try clear hcz11_1
    try clear hcz11_2
    try clear hcz11_3
    try clear hcz16_0
    try clear hcz16_1
    try clear hcz16_2
    try clear hcz16_3
    try clear hcz22_0
    try clear hcz22_1
    try clear hcz22_2
    try clear hcz22_3
    try clear hcz23_0
    try clear hcz23_1
    try clear hcz23_2
    try clear hcz23_3
    try clear hcz26_0
    try clear hcz26_1
    try clear hcz26_2
    try clear hcz26_3
    try clear hcz27_0
    try clear hcz27_1
    try clear hcz27_2
    try clear hcz27_3
    try clear hcz30_0
    try clear hcz30_1
    try clear hcz30_2
    try clear hcz30_3
    try clear hcz31_0
    try clear hcz31_1
    try clear hcz31_2
    try clear hcz31_3
    try clear hfz11_0
    try clear hfz11_1
    try clear hfz11_2
    try clear hfz11_3
    try clear hfz16_0
    try clear hfz16_1
    try clear hfz16_2
    try clear hfz16_3
    try clear hfz22_0
    try clear hfz22_1
    try clear hfz22_2
    try clear hfz22_3
    try clear hfz23_0
    try clear hfz23_1
    try clear hfz23_2
    try clear hfz23_3
    try clear hfz26_0
    try clear hfz26_1
    try clear hfz26_2
    try clear hfz26_3
    try clear hfz27_0
    try clear hfz27_1
    try clear hfz27_2
    try clear hfz27_3
    try clear hfz30_0
    try clear hfz30_1
    try clear hfz30_2
    try clear hfz30_3
    try clear hfz31_0
    try clear hfz31_1
    try clear hfz31_2
    try clear hfz31_3
    obtain ⟨kq, x50_5, rfl, HA, HJ5, HO_6, HO_353003, HO_361003, BK352, BK360, HB⟩ := hcut
    cases kq with
    | zero => exact absurd HA.out (by simp [laws_FnJoinPasses.j0])
    | succ kj5 =>
      have H := HA.out
      clear HA
      simp only [laws_FnJoinPasses.j0] at H
      by_cases c33 : x50_5 = true
      · subst c33
        have H1 : ((laws_equalImage.f kj5 t345 t346 t347 t348 t353 t354 t355 t356).bind fun t362 => (if t362 = true then (some (t351 == t359)) else (some false))) = some r := by rw [if_pos rfl] at H; exact H
        clear H
        have H := H1
        clear H1
        replace H := Option.bind_eq_some_iff.mp H
        obtain ⟨t362, A340, H⟩ := H
        replace H : (if t362 = true then (some (t351 == t359)) else (some false)) = some r := H
        have A34 := Aside0.mk A340
        clear A340
        by_cases c35 : t362 = true
        · subst c35
          have H1 : (some (t351 == t359)) = some r := by rw [if_pos rfl] at H; exact H
          clear H
          have H := H1
          clear H1
          obtain rfl := Option.some.inj H
          simp only [Option.some.injEq, Prod.mk.injEq] at H
          obtain ⟨rfl⟩ := H
          have hnb36 := NB352_360.out
          have hnc36 := NB360_352.out
          have hcz37_0 : wc.cell? ⟨gb352, 0, none⟩ = some (.int .i64 t345) := B.bc BK352 0
          have hcz37_1 : wc.cell? ⟨gb352, 1, none⟩ = some (.int .i64 t346) := B.bc BK352 1
          have hcz37_2 : wc.cell? ⟨gb352, 2, none⟩ = some (.int .i64 t347) := B.bc BK352 2
          have hcz37_3 : wc.cell? ⟨gb352, 3, none⟩ = some (.slice Ao12 t348.length co12) := B.bc BK352 3
          have hfz37_0 := blk_frozen BK352.out 0
          have hfz37_1 := blk_frozen BK352.out 1
          have hfz37_2 := blk_frozen BK352.out 2
          have hfz37_3 := blk_frozen BK352.out 3
          have hcz38_0 : wc.cell? ⟨gb360, 0, none⟩ = some (.int .i64 t353) := B.bc BK360 0
          have hcz38_1 : wc.cell? ⟨gb360, 1, none⟩ = some (.int .i64 t354) := B.bc BK360 1
          have hcz38_2 : wc.cell? ⟨gb360, 2, none⟩ = some (.int .i64 t355) := B.bc BK360 2
          have hcz38_3 : wc.cell? ⟨gb360, 3, none⟩ = some (.slice Ao17 t356.length co17) := B.bc BK360 3
          have hfz38_0 := blk_frozen BK360.out 0
          have hfz38_1 := blk_frozen BK360.out 1
          have hfz38_2 := blk_frozen BK360.out 2
          have hfz38_3 := blk_frozen BK360.out 3
          go_wp2_with (first | ((with_reducible refine gate_callee (f := 16) rfl ?_); refine goesL_ (some 53) rfl rfl Try.func16 (by kernel_rfl) rfl #[.agg #[.int .i64 t345, .int .i64 t346, .int .i64 t347, .slice Ao12 t348.length co12], .agg #[.int .i64 t353, .int .i64 t354, .int .i64 t355, .slice Ao17 t356.length co17]] rfl B.am ?_; (with_reducible refine (laws_equalImage.calls kj5 t345 t346 t347 _ _ t348 t353 t354 t355 _ _ t356 true _ ?side1 ?side2 ?side3 ?side4 A34.out).mono ?_); (case side1 => exact B.kc ((Kd.R_reads' HO_353003.out).2.2)); (case side2 => exact (Kd.R_reads' HO_353003.out).2.1); (case side3 => exact B.kc ((Kd.R_reads' HO_361003.out).2.2)); (case side4 => exact (Kd.R_reads' HO_361003.out).2.1); rintro e w39 ⟨rfl, hb⟩; refine ⟨_, rfl, ?_⟩; have n0_ := Aside0.mk (Kd.V_below (by (with_reducible repeat (first | apply Kd.V_alloc | apply Kd.V_drewN | apply Kd.V_drew)); exact HO_6.out) hb); have n1_ := Aside0.mk (Kd.R_below (B.kr HO_353003) hb); have n2_ := Aside0.mk (Kd.R_below (B.kr HO_361003) hb); have n3_ := Aside0.mk (blk_below (B.kb BK352) hb); have n4_ := Aside0.mk (blk_below (B.kb BK360) hb); have n5_ := Aside0.mk (below_step (B.bl HB) hb); clear HO_6 HO_353003 HO_361003 BK352 BK360 HB; have HO_6 := n0_; have HO_353003 := n1_; have HO_361003 := n2_; have BK352 := n3_; have BK360 := n4_; have HB := n5_; clear n0_ n1_ n2_ n3_ n4_ n5_; (try clear hb); (try clear hb2); (try clear hk); (try clear hi)))
          go_ret
          exact ⟨by first | rfl | (simp [errW_none, errW_some] <;> rfl) | (simp [*, errW_none, errW_some] <;> rfl), B.bl HB⟩
        replace c35 := Bool.eq_false_iff.mpr c35
        subst c35
        have H1 : (some false) = some r := by rw [if_neg (show ¬ (false = true) by decide)] at H; exact H
        clear H
        have H := H1
        clear H1
        obtain rfl := Option.some.inj H
        exact absurd ht_.out (by decide)
      replace c33 := Bool.eq_false_iff.mpr c33
      subst c33
      have H1 : (laws_FnJoinPasses.l0 kj5 t342 0 t345 t346 t347 t348) = some r := by rw [if_neg (show ¬ (false = true) by decide)] at H; exact H
      clear H
      have H := H1
      clear H1
      have H' := Aside0.mk H
      clear H
      go_wp2
      go_loopg [11] kj5 (fun kq v11 w' => ∃ (x11_2 : Int), v11 = .int .i64 x11_2 ∧ Aside0 (laws_FnJoinPasses.l0 kq t342 x11_2 t345 t346 t347 t348 = some r) ∧ Aside0 (kq ≤ kj5) ∧ Aside0 (Kd.V (Kd.slice 3 (Kd.int .i64)) 32 w' w.heap.size (fun k_ => some k_ ≠ ((.slice Ao12 t348.length co12) : Value).ownBlock ∧ some k_ ≠ ((.slice Ao17 t356.length co17) : Value).ownBlock ∧ k_ ≠ gb352 ∧ k_ ≠ gb360) (.slice Ao8 t342.length co8) t342) ∧ Aside0 (Kd.R (Kd.int .i64) 3 w' w.heap.size (fun k_ => some k_ ≠ ((.slice Ao17 t356.length co17) : Value).ownBlock) (.slice Ao12 t348.length co12) t348) ∧ Aside0 (Kd.R (Kd.int .i64) 3 w' w.heap.size (fun k_ => some k_ ≠ ((.slice Ao12 t348.length co12) : Value).ownBlock) (.slice Ao17 t356.length co17) t356) ∧ Aside0 (w'.heap[gb352]? = some (.cells #[.int .i64 t345, .int .i64 t346, .int .i64 t347, (.slice Ao12 t348.length co12)] 34 (0, 0))) ∧ Aside0 (w'.heap[gb360]? = some (.cells #[.int .i64 t353, .int .i64 t354, .int .i64 t355, (.slice Ao17 t356.length co17)] 34 (0, 0))) ∧ Aside0 (Below w.heap.size w w'))
      case atStart => exact ⟨(0), (by first | rfl | (simp; done) | (simp [*]; done)), H', ⟨Nat.le_refl _⟩, ⟨by (with_reducible repeat (first | apply Kd.V_alloc | apply Kd.V_drewN | apply Kd.V_drew)); exact HO_6.out⟩, ⟨B.kr HO_353003⟩, ⟨B.kr HO_361003⟩, ⟨B.kb BK352⟩, ⟨B.kb BK360⟩, ⟨B.bl HB⟩⟩
      case round =>
        clear H'
        try clear c1
        try clear c2
        try clear c2b0
        try clear c2b1
        try clear p2
        try clear c3
        try clear c5
        try clear c13
        try clear c14
        try clear c15
        try clear c16
        try clear c19
        try clear c20
        try clear c20b0
        try clear c20b1
        try clear c20b2
        try clear c21
        try clear c25
        try clear c29
        try clear c33
        try clear c35
        try clear c36
        try clear hcz11_0
        try clear hcz11_1
        try clear hcz11_2
        try clear hcz11_3
        try clear hcz16_0
        try clear hcz16_1
        try clear hcz16_2
        try clear hcz16_3
        try clear hcz22_0
        try clear hcz22_1
        try clear hcz22_2
        try clear hcz22_3
        try clear hcz23_0
        try clear hcz23_1
        try clear hcz23_2
        try clear hcz23_3
        try clear hcz26_0
        try clear hcz26_1
        try clear hcz26_2
        try clear hcz26_3
        try clear hcz27_0
        try clear hcz27_1
        try clear hcz27_2
        try clear hcz27_3
        try clear hcz30_0
        try clear hcz30_1
        try clear hcz30_2
        try clear hcz30_3
        try clear hcz31_0
        try clear hcz31_1
        try clear hcz31_2
        try clear hcz31_3
        try clear hcz37_0
        try clear hcz37_1
        try clear hcz37_2
        try clear hcz37_3
        try clear hcz38_0
        try clear hcz38_1
        try clear hcz38_2
        try clear hcz38_3
        try clear hfz11_0
        try clear hfz11_1
        try clear hfz11_2
        try clear hfz11_3
        try clear hfz16_0
        try clear hfz16_1
        try clear hfz16_2
        try clear hfz16_3
        try clear hfz22_0
        try clear hfz22_1
        try clear hfz22_2
        try clear hfz22_3
        try clear hfz23_0
        try clear hfz23_1
        try clear hfz23_2
        try clear hfz23_3
        try clear hfz26_0
        try clear hfz26_1
        try clear hfz26_2
        try clear hfz26_3
        try clear hfz27_0
        try clear hfz27_1
        try clear hfz27_2
        try clear hfz27_3
        try clear hfz30_0
        try clear hfz30_1
        try clear hfz30_2
        try clear hfz30_3
        try clear hfz31_0
        try clear hfz31_1
        try clear hfz31_2
        try clear hfz31_3
        try clear hfz37_0
        try clear hfz37_1
        try clear hfz37_2
        try clear hfz37_3
        try clear hfz38_0
        try clear hfz38_1
        try clear hfz38_2
        try clear hfz38_3
        try clear p2
        obtain ⟨x11_2, rfl, HA, HK2, HO_6, HO_353003, HO_361003, BK352, BK360, HB⟩ := hrel
        cases gk with
        | zero => exact absurd HA.out (by simp [laws_FnJoinPasses.l0])
        | succ k2 =>
          have H := HA.out
          clear HA
          simp only [laws_FnJoinPasses.l0] at H
          by_cases c40 : x11_2 < 7
          · rw [if_pos c40] at H
            have c40b0 : decide (x11_2 < 7) = true := decide_eq_true c40
            clear c40
            replace H := Option.bind_eq_some_iff.mp H
            obtain ⟨t364, A410, H⟩ := H
            replace H : (if 0 ≤ x11_2 then (if x11_2 < (t342.length : Int) then ((laws_equalInts.f k2 t364 (rd_L1 t342 x11_2)).bind fun t368 => (if t368 = true then (laws_FnJoinPasses.l0 k2 t342 (wrap64 (x11_2 + 1)) t345 t346 t347 t348) else (some false))) else (none)) else (none)) = some r := H
            have A41 := Aside0.mk A410
            clear A410
            by_cases c42 : 0 ≤ x11_2
            · rw [if_pos c42] at H
              have c42b0 : decide (0 ≤ x11_2) = true := decide_eq_true c42
              clear c42
              by_cases c43 : x11_2 < (t342.length : Int)
              · rw [if_pos c43] at H
                have c43b0 : decide (x11_2 < (t342.length : Int)) = true := decide_eq_true c43
                clear c43
                replace H := Option.bind_eq_some_iff.mp H
                obtain ⟨t368, A440, H⟩ := H
                replace H : (if t368 = true then (laws_FnJoinPasses.l0 k2 t342 (wrap64 (x11_2 + 1)) t345 t346 t347 t348) else (some false)) = some r := H
                have A44 := Aside0.mk A440
                clear A440
                by_cases c45 : t368 = true
                · subst c45
                  have H1 : (laws_FnJoinPasses.l0 k2 t342 (wrap64 (x11_2 + 1)) t345 t346 t347 t348) = some r := by rw [if_pos rfl] at H; exact H
                  clear H
                  have H := H1
                  clear H1
                  have H' := Aside0.mk H
                  clear H
                  try go_wp2
                  have n0_ := Aside0.mk (Kd.V_drew HO_6.out)
                  have n1_ := Aside0.mk (Kd.R_drew HO_353003.out)
                  have n2_ := Aside0.mk (Kd.R_drew HO_361003.out)
                  have n3_ := Aside0.mk (blk_drew BK352.out)
                  have n4_ := Aside0.mk (blk_drew BK360.out)
                  have n5_ := Aside0.mk (below_drew1 HB.out)
                  clear HO_6 HO_353003 HO_361003 BK352 BK360 HB
                  have HO_6 := n0_
                  have HO_353003 := n1_
                  have HO_361003 := n2_
                  have BK352 := n3_
                  have BK360 := n4_
                  have HB := n5_
                  clear n0_ n1_ n2_ n3_ n4_ n5_
                  have p367 : 0 ≤ (x11_2 : Int) := of_decide_eq_true (by first | (with_reducible assumption) | assumption)
                  have q367 : x11_2 < (t342.length : Int) := of_decide_eq_true (by first | (with_reducible assumption) | assumption)
                  obtain ⟨ad367, A367_0, c367_0, e367, hx367_0, hl367_0, hi367_0⟩ := at_L1 (Kd.V_reads' HO_6.out).2.2 x11_2 p367 q367
                  cases e367
                  obtain ⟨ce367, hce367, hMe367, hcc367⟩ := Kd.V_get HO_6.out [] x11_2 p367 (by first | exact q367 | exact of_decide_eq_true (by first | (with_reducible assumption) | assumption) | (have e_ := (Kd.V_reads' HO_6.out).1; omega))
                  obtain ⟨ua367_0, uc367_0, rfl, ul367_0, ge367_0⟩ := Kd.FK_slice_open hMe367
                  have hv367_0 := hcc367 0 _ rfl
                  rw [Nat.add_zero, show ((Kd.slice 3 (Kd.int .i64))).sz = 1 from rfl, Nat.mul_one] at hv367_0
                  replace hv367_0 := Option.some.inj (hv367_0.symm.trans hx367_0)
                  injection hv367_0 with hva_ hvn_ hvc_
                  rw [hva_] at ge367_0
                  rw [hvc_] at ul367_0
                  have HL367_0 := Aside0.mk (show Kd.V (Kd.int .i64) 3 _ w.heap.size _ _ (rd_L1 t342 x11_2) from Kd.V_mk ul367_0 ge367_0)
                  clear hva_ hvn_ hvc_ ge367_0 ul367_0
                  clear hcc367 hce367
                  have HR367_0 := Aside0.mk hi367_0
                  have HC367_0 := Aside0.mk hl367_0
                  clear hi367_0 hl367_0
                  replace p367 := eq_true p367
                  replace q367 := eq_true q367
                  refine start_ (n := 9) (S := fun w' => w'.cell? ⟨gb352, 0, none⟩ = some (.int .i64 t345) ∧ w'.cell? ⟨gb352, 1, none⟩ = some (.int .i64 t346) ∧ w'.cell? ⟨gb352, 2, none⟩ = some (.int .i64 t347) ∧ w'.cell? ⟨gb352, 3, none⟩ = some (.slice Ao12 t348.length co12) ∧ w'.cell? (ad367.add (x11_2).toNat) = some (.slice A367_0 (rd_L1 t342 x11_2).length c367_0)) (ds := []) #[false, false, false, false, false, false, false, false, false] (by kernel_rfl) rfl rfl ⟨B.bc BK352 0, B.bc BK352 1, B.bc BK352 2, B.bc BK352 3, hx367_0⟩ (fun hHeld => ?_); refine with_tabW laws_FnJoinPasses.tab11 laws_FnJoinPasses.bits11 (fun HT_ HW_ => ?_)
                  generalize wr.drew = w46 at HO_6 HO_353003 HO_361003 BK352 BK360 HB HL367_0 HR367_0 hx367_0 hHeld ⊢
                  refine pure_ (i := 1) (N := some 64) (v := ?_) (a' := ?_) #[false, true, false, false, false, false, false, false, false] rfl rfl (any_of HT_.out (by kernel_rfl)) (fun _ _ _ h => h) (Or.inl ⟨by rfl, ?_⟩) ?_ ?_
                  rotate_left
                  · intro w'
                    go_simp
                    with_reducible rfl
                  rotate_left
                  · simp only [Act.put, List.setIfInBounds_toArray, List.set_cons_zero, List.set_cons_succ, i64_w, i32_w]
                    rfl
                  refine pure_ (i := 3) (N := some 66) (v := ?_) (a' := ?_) #[false, true, false, true, false, false, false, false, false] rfl rfl (any_of HT_.out (by kernel_rfl)) (fun _ _ _ h => h) (Or.inl ⟨by rfl, ?_⟩) ?_ ?_
                  rotate_left
                  · intro w'
                    go_simp
                    with_reducible rfl
                  rotate_left
                  · simp only [Act.put, List.setIfInBounds_toArray, List.set_cons_zero, List.set_cons_succ, i64_w, i32_w]
                    rfl
                  refine pure_ (i := 4) (N := some 67) (v := ?_) (a' := ?_) #[false, true, false, true, true, false, false, false, false] rfl rfl (any_of HT_.out (by kernel_rfl)) (fun _ _ _ h => h) (Or.inl ⟨by rfl, ?_⟩) ?_ ?_
                  rotate_left
                  · intro w'
                    go_simp
                    with_reducible rfl
                  rotate_left
                  · simp only [Act.put, List.setIfInBounds_toArray, List.set_cons_zero, List.set_cons_succ, i64_w, i32_w]
                    rfl
                  refine pure_ (i := 5) (N := some 68) (v := ?_) (a' := ?_) #[false, true, false, true, true, true, false, false, false] rfl rfl (any_of HT_.out (by kernel_rfl)) (fun _ _ _ h => h) (Or.inl ⟨by rfl, ?_⟩) ?_ ?_
                  rotate_left
                  · intro w'
                    go_simp
                    with_reducible rfl
                  rotate_left
                  · simp only [Act.put, List.setIfInBounds_toArray, List.set_cons_zero, List.set_cons_succ, i64_w, i32_w]
                    rfl
                  refine take_ (i := 0) (N := some 63) (v := ?_) (a' := ?_) #[true, true, false, true, true, true, false, false, false] rfl rfl (take_ofW HT_.out HW_.out (by kernel_rfl)) (fun _ _ _ h => h) (Or.inl ⟨by rfl, ?_⟩) hHeld ?_ ?_
                  rotate_left
                  · rintro w' ⟨s0, s1, s2, s3, s4⟩
                    go_simp
                    with_reducible rfl
                  rotate_left
                  · simp only [Act.put, List.setIfInBounds_toArray, List.set_cons_zero, List.set_cons_succ, i64_w, i32_w]
                    rfl
                  refine take_ (i := 6) (N := some 69) (v := ?_) (a' := ?_) #[true, true, false, true, true, true, true, false, false] rfl rfl (take_ofW HT_.out HW_.out (by kernel_rfl)) (fun _ _ _ h => h) (Or.inl ⟨by rfl, ?_⟩) hHeld ?_ ?_
                  rotate_left
                  · rintro w' ⟨s0, s1, s2, s3, s4⟩
                    go_simp
                    with_reducible rfl
                  rotate_left
                  · simp only [Act.put, List.setIfInBounds_toArray, List.set_cons_zero, List.set_cons_succ, i64_w, i32_w]
                    rfl
                  refine one_ (i := 2) (N := some 65) #[true, true, true, true, true, true, true, false, false] rfl rfl (one_of HT_.out (by kernel_rfl)) (by decide) (fun K hK => ?_)
                  refine goes_ Try.func18 (by kernel_rfl) rfl #[.agg #[.int .i64 t345, .int .i64 t346, .int .i64 t347, .slice Ao12 t348.length co12], .int .i64 x11_2] (by rfl) rfl rfl B.am ?_
                  with_reducible refine (impl_PassData.calls k2 t345 t346 t347 _ _ t348 x11_2 t364 _ ?side1 ?side2 A41.out).mono ?_
                  (case side1 => exact B.kc ((Kd.R_reads' HO_353003.out).2.2))
                  (case side2 => exact (Kd.R_reads' HO_353003.out).2.1)
                  rintro e w47 ⟨v365, rfl, ho0, hb⟩
                  have HS4_ := (hb.cell (World.block_lt_of_cell? _ _ (hHeld.2.2.2.2))).trans (hHeld.2.2.2.2)
                  refine ⟨_, rfl, ?_⟩
                  have n0_ := Aside0.mk (Kd.V_elder' (by (with_reducible repeat (first | apply Kd.V_alloc | apply Kd.V_drewN | apply Kd.V_drew)); exact HO_6.out) (Kd.R_base ho0) hb)
                  have n1_ := Aside0.mk (Kd.R_elder' (B.kr HO_353003) (Kd.R_base ho0) hb)
                  have n2_ := Aside0.mk (Kd.R_elder' (B.kr HO_361003) (Kd.R_base ho0) hb)
                  have n3_ := Aside0.mk (Kd.V_elder' (by (with_reducible repeat (first | apply Kd.V_alloc | apply Kd.V_drewN | apply Kd.V_drew)); exact HL367_0.out) (Kd.R_base ho0) hb)
                  have n4_ := Aside0.mk (Kd.R_lower (Kd.R_new' (Kd.R_new' ho0 (Kd.R_lt (B.kr HO_353003))) (Kd.R_lt (B.kr HO_361003))) (below_size (B.bl HB)))
                  have n5_ := Aside0.mk (blk_below (B.kb BK352) hb)
                  have n6_ := Aside0.mk (blk_below (B.kb BK360) hb)
                  have n7_ := Aside0.mk (Kd.C_below (by repeat (first | (with_reducible exact HR367_0.out) | (with_reducible refine Kd.C_alloc ?_ _) | (with_reducible refine Kd.C_drewN ?_ _) | (with_reducible refine Kd.C_drew ?_) | exact HR367_0.out)) hb)
                  have n8_ := Aside0.mk (below_step (B.bl HB) hb)
                  clear HO_6 HO_353003 HO_361003 HL367_0 BK352 BK360 HR367_0 HB
                  have HO_6 := n0_
                  have HO_353003 := n1_
                  have HO_361003 := n2_
                  have HL367_0 := n3_
                  have HO366 := n4_
                  have BK352 := n5_
                  have BK360 := n6_
                  have HR367_0 := n7_
                  have HB := n8_
                  clear n0_ n1_ n2_ n3_ n4_ n5_ n6_ n7_ n8_
                  (try clear hb)
                  (try clear hb2)
                  (try clear hk)
                  (try clear hi)
                  (try clear ho0)
                  obtain ⟨Ao48, co48, eo48⟩ := Kd.R_slice HO366.out
                  (first | subst eo48 | (injection eo48 with f1_ f2_ f3_; have f4_ := f1_.symm; have f5_ := f3_.symm; clear f1_ f2_ f3_; subst f4_; subst f5_))
                  refine hK.out _ _ ⟨B.bc BK352 0, B.bc BK352 1, B.bc BK352 2, B.bc BK352 3, HS4_⟩ (fun hHeld => ?_)
                  clear hK K
                  refine norm_ (a' := ?_) ?_ ?_
                  rotate_left
                  · show Act.put _ (some 65) _ = _
                    simp only [Act.put, List.setIfInBounds_toArray, List.set_cons_zero, List.set_cons_succ, i64_w, i32_w]
                    rfl
                  refine one_ (i := 7) (N := some 70) #[true, true, true, true, true, true, true, true, false] rfl rfl (one_of HT_.out (by kernel_rfl)) (by decide) (fun K hK => ?_)
                  refine goes_ Try.func17 (by kernel_rfl) rfl #[.slice Ao48 t364.length co48, .slice A367_0 (rd_L1 t342 x11_2).length c367_0] (by rfl) rfl rfl B.am ?_
                  with_reducible refine (laws_equalInts.calls k2 _ _ t364 _ _ (rd_L1 t342 x11_2) true _ ?side1 ?side2 ?side3 ?side4 A44.out).mono ?_
                  (case side1 => exact B.kc ((Kd.R_reads' HO366.out).2.2))
                  (case side2 => exact (Kd.R_reads' HO366.out).2.1)
                  (case side3 => repeat (first | exact (by repeat (first | (with_reducible exact HR367_0.out) | (with_reducible refine Kd.C_alloc ?_ _) | (with_reducible refine Kd.C_drewN ?_ _) | (with_reducible refine Kd.C_drew ?_) | exact HR367_0.out)) | (with_reducible refine Kd.C_alloc ?_ _) | (with_reducible refine Kd.C_drewN ?_ _) | (with_reducible refine Kd.C_drew ?_)))
                  (case side4 => exact HC367_0.out)
                  rintro e w' ⟨rfl, ⟨nd, rfl⟩⟩
                  refine ⟨_, rfl, ?_⟩
                  refine hK.out _ _ ⟨B.bc BK352 0, B.bc BK352 1, B.bc BK352 2, B.bc BK352 3, hHeld.2.2.2.2⟩ (fun hHeld => ?_)
                  clear hK K
                  refine norm_ (a' := ?_) ?_ ?_
                  rotate_left
                  · show Act.put _ (some 70) _ = _
                    simp only [Act.put, List.setIfInBounds_toArray, List.set_cons_zero, List.set_cons_succ, i64_w, i32_w]
                    rfl
                  refine pure_ (i := 8) (N := some 71) (v := ?_) (a' := ?_) #[true, true, true, true, true, true, true, true, true] rfl rfl (any_of HT_.out (by kernel_rfl)) (fun _ _ _ h => h) (Or.inl ⟨by rfl, ?_⟩) ?_ ?_
                  rotate_left
                  · intro w'
                    go_simp
                    with_reducible rfl
                  rotate_left
                  · simp only [Act.put, List.setIfInBounds_toArray, List.set_cons_zero, List.set_cons_succ, i64_w, i32_w]
                    rfl
                  refine done_ (done_of HT_.out (by kernel_rfl)) ?_
                  try go_wp2
                  go_roundg k2
                  case measure => have := HJ5.out; have := HK2.out; omega
                  case rel => exact ⟨(wrap64 (x11_2 + 1)), (by first | rfl | (simp; done) | (simp [*]; done)), H', ⟨by have := HJ5.out; have := HK2.out; omega⟩, ⟨by (with_reducible repeat (first | apply Kd.V_alloc | apply Kd.V_drewN | apply Kd.V_drew)); exact Kd.V_mono HO_6.out (fun _ hk => ⟨hk.1.1, ⟨hk.1.2.1, ⟨hk.1.2.2.1, hk.1.2.2.2⟩⟩⟩)⟩, ⟨B.kr0 (Kd.R_mono HO_353003.out (fun _ hk => hk.1))⟩, ⟨B.kr0 (Kd.R_mono HO_361003.out (fun _ hk => hk.1))⟩, ⟨B.kb BK352⟩, ⟨B.kb BK360⟩, ⟨B.bl HB⟩⟩
                replace c45 := Bool.eq_false_iff.mpr c45
                subst c45
                have H1 : (some false) = some r := by rw [if_neg (show ¬ (false = true) by decide)] at H; exact H
                clear H
                have H := H1
                clear H1
                obtain rfl := Option.some.inj H
                exact absurd ht_.out (by decide)
              rw [if_neg c43] at H
              exact absurd H (by simp)
            rw [if_neg c42] at H
            exact absurd H (by simp)
          rw [if_neg c40] at H
          have c40b0 : decide (x11_2 < 7) = false := decide_eq_false c40
          clear c40
          replace H := Option.bind_eq_some_iff.mp H
          obtain ⟨t363, A490, H⟩ := H
          replace H : (some t363) = some r := H
          have A49 := Aside0.mk A490
          clear A490
          obtain rfl := Option.some.inj H
          simp only [Option.some.injEq, Prod.mk.injEq] at H
          obtain ⟨rfl⟩ := H
          have hnb50 := NB352_360.out
          have hnc50 := NB360_352.out
          have hcz51_0 : wr.cell? ⟨gb352, 0, none⟩ = some (.int .i64 t345) := B.bc BK352 0
          have hcz51_1 : wr.cell? ⟨gb352, 1, none⟩ = some (.int .i64 t346) := B.bc BK352 1
          have hcz51_2 : wr.cell? ⟨gb352, 2, none⟩ = some (.int .i64 t347) := B.bc BK352 2
          have hcz51_3 : wr.cell? ⟨gb352, 3, none⟩ = some (.slice Ao12 t348.length co12) := B.bc BK352 3
          have hfz51_0 := blk_frozen BK352.out 0
          have hfz51_1 := blk_frozen BK352.out 1
          have hfz51_2 := blk_frozen BK352.out 2
          have hfz51_3 := blk_frozen BK352.out 3
          go_wp2_with (first | ((with_reducible refine gate_callee (f := 19) rfl ?_); refine goesL_ (some 73) rfl rfl Try.func19 (by kernel_rfl) rfl #[.agg #[.int .i64 t345, .int .i64 t346, .int .i64 t347, .slice Ao12 t348.length co12]] rfl B.am ?_; (with_reducible refine (impl_ValidImage.calls t345 t346 t347 _ _ t348 t363 _ ?side1 ?side2 A49.out).mono ?_); (case side1 => exact B.kc ((Kd.R_reads' HO_353003.out).2.2)); (case side2 => exact (Kd.R_reads' HO_353003.out).2.1); rintro e w52 ⟨rfl, hb⟩; refine ⟨_, rfl, ?_⟩; have n0_ := Aside0.mk (Kd.V_below (by (with_reducible repeat (first | apply Kd.V_alloc | apply Kd.V_drewN | apply Kd.V_drew)); exact HO_6.out) hb); have n1_ := Aside0.mk (Kd.R_below (B.kr HO_353003) hb); have n2_ := Aside0.mk (Kd.R_below (B.kr HO_361003) hb); have n3_ := Aside0.mk (blk_below (B.kb BK352) hb); have n4_ := Aside0.mk (blk_below (B.kb BK360) hb); have n5_ := Aside0.mk (below_step (B.bl HB) hb); clear HO_6 HO_353003 HO_361003 BK352 BK360 HB; have HO_6 := n0_; have HO_353003 := n1_; have HO_361003 := n2_; have BK352 := n3_; have BK360 := n4_; have HB := n5_; clear n0_ n1_ n2_ n3_ n4_ n5_; (try clear hb); (try clear hb2); (try clear hk); (try clear hi)))
          go_ret
          exact ⟨by first | rfl | (simp [errW_none, errW_some] <;> rfl) | (simp [*, errW_none, errW_some] <;> rfl), B.bl HB⟩

/-- THE ONE PURE STATEMENT of laws_FnJoinPasses: yours. -/
def laws_FnJoinPasses.Pure : Prop := ∀ (l0 : List Int), l0.length ≤ maxLen → l0.length * 1 ≤ 140737488351232 → (∀ x ∈ l0, (Lit.int .u8 x).wf = true) → ∃ k, laws_FnJoinPasses.f k l0 = some true
theorem laws_FnJoinPasses.walk (P : laws_FnJoinPasses.Pure) (a0 : Option Addr) (len0 cap0 : Nat) (z0 : List Int) (w : World) (w0 : (a0 = none ∧ len0 = 0 ∧ cap0 = 0 ∧ z0 = []) ∨ ∃ x, a0 = some x ∧ len0 ≤ cap0 ∧ cap0 ≤ maxLen ∧ z0.length = cap0 ∧ (∀ i, i < z0.length → w.cell? (x.add i) = some (.int .u8 (z0.getD i 0))) ∧ ∀ n ∈ z0, (Lit.int .u8 n).wf = true) (y0 : len0 * 1 ≤ 140737488351232) :
    Calls Try.prog 5 #[.slice a0 len0 cap0] w fun e w' => e = .returned (.bool true) ∧ Below w.heap.size w w' := by
  obtain ⟨l0, rfl, hr0, hm0, hw0, hc0⟩ := ReadsInt.ofRowC w0
  obtain ⟨k, h⟩ := P l0 hm0 y0 hw0
  refine (laws_FnJoinPasses.calls k _ _ l0 true w (Kd.C_of_reads (d := (0 : Int)) (h1 := fun _ => rfl) hr0) hc0 h ⟨rfl⟩).mono ?_
  rintro e w' ⟨rfl, hd⟩
  exact ⟨rfl, hd⟩

end Go.Proofs.Ytpadegboplcapaa.Q
