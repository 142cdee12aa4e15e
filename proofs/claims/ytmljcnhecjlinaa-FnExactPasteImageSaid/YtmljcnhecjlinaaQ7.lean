-- Written by a program of this session (the kit's printer, with hand-proved contracts for the functions that it does not take).
import Derived.Test.YtmljcnhecjlinaaQ0
import Derived.Test.YtmljcnhecjlinaaQ1
import Derived.Test.YtmljcnhecjlinaaQ9
namespace Go.Proofs.Ytmljcnhecjlinaa.Q
open Go.RowKit Go.Proofs.YtmljcnhecjlinaaW.PrintWords Go.Proofs.YtmljcnhecjlinaaW.PrintLast Go.Proofs.YtmljcnhecjlinaaW.PrintMore
attribute [local go_sem] max2_int min2_int max_two min_two max_three min_three max_four min_four   -- for this text's walks alone
set_option linter.unusedVariables false
set_option linter.unusedSimpArgs false

/-! ### impl_PasteImage: function 18 (by hand) -/
-- GIVEN loop.example/pixelworks/impl.PasteImage
-- ROUNDS no
-- MAKING yes
def pastePx (w p : Int) (D : List Int) (pw ph : Int) (E : List Int) (ax ay : Int) (x y : Nat) : List Int :=
  if ax ≤ (x : Int) ∧ (x : Int) < ax + pw ∧ ay ≤ (y : Int) ∧ (y : Int) < ay + ph then B.pix E pw.toNat p.toNat ((x : Int) - ax).toNat ((y : Int) - ay).toNat else B.pix D w.toNat p.toNat x y
def impl_PasteImage.f (a0_0 : Int) (a0_1 : Int) (a0_2 : Int) (l0_3 : List Int) (a1 : Int) (a2 : Int) (a3_0 : Int) (a3_1 : Int) (a3_2 : Int) (l3_3 : List Int) : Option (Int × Int × Int × List Int × Bool) :=
  if B.okImg a0_0 a0_1 a0_2 l0_3 = true ∧ B.okImg a3_0 a3_1 a3_2 l3_3 = true ∧ (a3_2 = a0_2 ∧ -16 ≤ a1 ∧ a1 ≤ 16 ∧ -16 ≤ a2 ∧ a2 ≤ 16) then some (a0_0, a0_1, a0_2, B.tab a0_0.toNat a0_1.toNat (pastePx a0_0 a0_2 l0_3 a3_0 a3_1 l3_3 a1 a2), true) else some (0, 0, 0, [], false)
set_option maxHeartbeats 2000000 in
theorem paste_px1 (gm gx gy gp : Nat) (a0_0 : Int) (a0_1 : Int) (a0_2 : Int) (A0_3 : Option Addr) (c0_3 : Nat) (l0_3 : List Int) (a1 : Int) (a2 : Int) (a3_0 : Int) (a3_1 : Int) (A3_3 : Option Addr) (c3_3 : Nat) (l3_3 : List Int) (sx sy x y : Int) (px : List Int) (w : World) (hm : w.heap[gm]? = some (.cells #[.int .i64 a0_0, .int .i64 a0_1, .int .i64 a0_2, .slice A0_3 l0_3.length c0_3] 28 (0, 0))) (hx : w.heap[gx]? = some (.cells #[.int .i64 a1] 3 (0, 0))) (hy : w.heap[gy]? = some (.cells #[.int .i64 a2] 3 (0, 0))) (hp : w.heap[gp]? = some (.cells #[.int .i64 a3_0, .int .i64 a3_1, .int .i64 a0_2, .slice A3_3 l3_3.length c3_3] 28 (0, 0))) (hsx : wrap64 (a1 + a3_0) = sx) (hsy : wrap64 (a2 + a3_1) = sy) (b0 : ¬ a1 ≤ x)
    (H : Calls Try.prog 32 #[.agg #[.int .i64 a0_0, .int .i64 a0_1, .int .i64 a0_2, .slice A0_3 l0_3.length c0_3], .int .i64 x, .int .i64 y] w fun e w' => ∃ A1 c1, e = .returned (.slice A1 px.length c1) ∧ px.length ≤ c1 ∧ Kd.C (Kd.int .i64) w' A1 px.length px ∧ Below w.heap.size w w') :
    Calls Try.prog 39 (#[.int .i64 x, .int .i64 y] ++ #[.pointer (some ⟨gx, 0, none⟩), .pointer (some ⟨gp, 0, none⟩), .pointer (some ⟨gy, 0, none⟩), .pointer (some ⟨gm, 0, none⟩)]) w fun e w' => ∃ A1 c1, e = .returned (.slice A1 px.length c1) ∧ px.length ≤ c1 ∧ Kd.C (Kd.int .i64) w' A1 px.length px ∧ Below w.heap.size w w' := by
  have hu28 := Try.underlying28
  have hm0 : w.cell? ⟨gm, 0, none⟩ = some (.int .i64 a0_0) := (blk_cell hm 0).trans rfl
  have hm1 : w.cell? ⟨gm, 1, none⟩ = some (.int .i64 a0_1) := (blk_cell hm 1).trans rfl
  have hm2 : w.cell? ⟨gm, 2, none⟩ = some (.int .i64 a0_2) := (blk_cell hm 2).trans rfl
  have hm3 : w.cell? ⟨gm, 3, none⟩ = some (.slice A0_3 l0_3.length c0_3) := (blk_cell hm 3).trans rfl
  have hx0 : w.cell? ⟨gx, 0, none⟩ = some (.int .i64 a1) := (blk_cell hx 0).trans rfl
  have hy0 : w.cell? ⟨gy, 0, none⟩ = some (.int .i64 a2) := (blk_cell hy 0).trans rfl
  have hp0 : w.cell? ⟨gp, 0, none⟩ = some (.int .i64 a3_0) := (blk_cell hp 0).trans rfl
  have hp1 : w.cell? ⟨gp, 1, none⟩ = some (.int .i64 a3_1) := (blk_cell hp 1).trans rfl
  have hp2 : w.cell? ⟨gp, 2, none⟩ = some (.int .i64 a0_2) := (blk_cell hp 2).trans rfl
  have hp3 : w.cell? ⟨gp, 3, none⟩ = some (.slice A3_3 l3_3.length c3_3) := (blk_cell hp 3).trans rfl
  have hsx' : IntKind.i64.wrap (a1 + a3_0) = sx := (i64_w _).trans hsx
  have hsy' : IntKind.i64.wrap (a2 + a3_1) = sy := (i64_w _).trans hsy
  have d0 : decide (a1 ≤ x) = false := decide_eq_false b0
  replace H := Aside0.mk H
  clear hm hx hy hp b0
  go_enter Try.func39, Try.ntmps39
  go_wp2_with fail
  refine H.out.mono ?_
  rintro e w' ⟨A1, c1, rfl, hc1, hC, hb⟩
  go_wp2
  go_ret
  exact ⟨A1, c1, rfl, hc1, hC, hb⟩
set_option maxHeartbeats 2000000 in
theorem paste_px2 (gm gx gy gp : Nat) (a0_0 : Int) (a0_1 : Int) (a0_2 : Int) (A0_3 : Option Addr) (c0_3 : Nat) (l0_3 : List Int) (a1 : Int) (a2 : Int) (a3_0 : Int) (a3_1 : Int) (A3_3 : Option Addr) (c3_3 : Nat) (l3_3 : List Int) (sx sy x y : Int) (px : List Int) (w : World) (hm : w.heap[gm]? = some (.cells #[.int .i64 a0_0, .int .i64 a0_1, .int .i64 a0_2, .slice A0_3 l0_3.length c0_3] 28 (0, 0))) (hx : w.heap[gx]? = some (.cells #[.int .i64 a1] 3 (0, 0))) (hy : w.heap[gy]? = some (.cells #[.int .i64 a2] 3 (0, 0))) (hp : w.heap[gp]? = some (.cells #[.int .i64 a3_0, .int .i64 a3_1, .int .i64 a0_2, .slice A3_3 l3_3.length c3_3] 28 (0, 0))) (hsx : wrap64 (a1 + a3_0) = sx) (hsy : wrap64 (a2 + a3_1) = sy) (b0 : a1 ≤ x) (b1 : ¬ x < sx)
    (H : Calls Try.prog 32 #[.agg #[.int .i64 a0_0, .int .i64 a0_1, .int .i64 a0_2, .slice A0_3 l0_3.length c0_3], .int .i64 x, .int .i64 y] w fun e w' => ∃ A1 c1, e = .returned (.slice A1 px.length c1) ∧ px.length ≤ c1 ∧ Kd.C (Kd.int .i64) w' A1 px.length px ∧ Below w.heap.size w w') :
    Calls Try.prog 39 (#[.int .i64 x, .int .i64 y] ++ #[.pointer (some ⟨gx, 0, none⟩), .pointer (some ⟨gp, 0, none⟩), .pointer (some ⟨gy, 0, none⟩), .pointer (some ⟨gm, 0, none⟩)]) w fun e w' => ∃ A1 c1, e = .returned (.slice A1 px.length c1) ∧ px.length ≤ c1 ∧ Kd.C (Kd.int .i64) w' A1 px.length px ∧ Below w.heap.size w w' := by
  have hu28 := Try.underlying28
  have hm0 : w.cell? ⟨gm, 0, none⟩ = some (.int .i64 a0_0) := (blk_cell hm 0).trans rfl
  have hm1 : w.cell? ⟨gm, 1, none⟩ = some (.int .i64 a0_1) := (blk_cell hm 1).trans rfl
  have hm2 : w.cell? ⟨gm, 2, none⟩ = some (.int .i64 a0_2) := (blk_cell hm 2).trans rfl
  have hm3 : w.cell? ⟨gm, 3, none⟩ = some (.slice A0_3 l0_3.length c0_3) := (blk_cell hm 3).trans rfl
  have hx0 : w.cell? ⟨gx, 0, none⟩ = some (.int .i64 a1) := (blk_cell hx 0).trans rfl
  have hy0 : w.cell? ⟨gy, 0, none⟩ = some (.int .i64 a2) := (blk_cell hy 0).trans rfl
  have hp0 : w.cell? ⟨gp, 0, none⟩ = some (.int .i64 a3_0) := (blk_cell hp 0).trans rfl
  have hp1 : w.cell? ⟨gp, 1, none⟩ = some (.int .i64 a3_1) := (blk_cell hp 1).trans rfl
  have hp2 : w.cell? ⟨gp, 2, none⟩ = some (.int .i64 a0_2) := (blk_cell hp 2).trans rfl
  have hp3 : w.cell? ⟨gp, 3, none⟩ = some (.slice A3_3 l3_3.length c3_3) := (blk_cell hp 3).trans rfl
  have hsx' : IntKind.i64.wrap (a1 + a3_0) = sx := (i64_w _).trans hsx
  have hsy' : IntKind.i64.wrap (a2 + a3_1) = sy := (i64_w _).trans hsy
  have d0 : decide (a1 ≤ x) = true := decide_eq_true b0
  have d1 : decide (x < sx) = false := decide_eq_false b1
  replace H := Aside0.mk H
  clear hm hx hy hp b0 b1
  go_enter Try.func39, Try.ntmps39
  go_wp2_with fail
  refine H.out.mono ?_
  rintro e w' ⟨A1, c1, rfl, hc1, hC, hb⟩
  go_wp2
  go_ret
  exact ⟨A1, c1, rfl, hc1, hC, hb⟩
set_option maxHeartbeats 2000000 in
theorem paste_px3 (gm gx gy gp : Nat) (a0_0 : Int) (a0_1 : Int) (a0_2 : Int) (A0_3 : Option Addr) (c0_3 : Nat) (l0_3 : List Int) (a1 : Int) (a2 : Int) (a3_0 : Int) (a3_1 : Int) (A3_3 : Option Addr) (c3_3 : Nat) (l3_3 : List Int) (sx sy x y : Int) (px : List Int) (w : World) (hm : w.heap[gm]? = some (.cells #[.int .i64 a0_0, .int .i64 a0_1, .int .i64 a0_2, .slice A0_3 l0_3.length c0_3] 28 (0, 0))) (hx : w.heap[gx]? = some (.cells #[.int .i64 a1] 3 (0, 0))) (hy : w.heap[gy]? = some (.cells #[.int .i64 a2] 3 (0, 0))) (hp : w.heap[gp]? = some (.cells #[.int .i64 a3_0, .int .i64 a3_1, .int .i64 a0_2, .slice A3_3 l3_3.length c3_3] 28 (0, 0))) (hsx : wrap64 (a1 + a3_0) = sx) (hsy : wrap64 (a2 + a3_1) = sy) (b0 : a1 ≤ x) (b1 : x < sx) (b2 : ¬ a2 ≤ y)
    (H : Calls Try.prog 32 #[.agg #[.int .i64 a0_0, .int .i64 a0_1, .int .i64 a0_2, .slice A0_3 l0_3.length c0_3], .int .i64 x, .int .i64 y] w fun e w' => ∃ A1 c1, e = .returned (.slice A1 px.length c1) ∧ px.length ≤ c1 ∧ Kd.C (Kd.int .i64) w' A1 px.length px ∧ Below w.heap.size w w') :
    Calls Try.prog 39 (#[.int .i64 x, .int .i64 y] ++ #[.pointer (some ⟨gx, 0, none⟩), .pointer (some ⟨gp, 0, none⟩), .pointer (some ⟨gy, 0, none⟩), .pointer (some ⟨gm, 0, none⟩)]) w fun e w' => ∃ A1 c1, e = .returned (.slice A1 px.length c1) ∧ px.length ≤ c1 ∧ Kd.C (Kd.int .i64) w' A1 px.length px ∧ Below w.heap.size w w' := by
  have hu28 := Try.underlying28
  have hm0 : w.cell? ⟨gm, 0, none⟩ = some (.int .i64 a0_0) := (blk_cell hm 0).trans rfl
  have hm1 : w.cell? ⟨gm, 1, none⟩ = some (.int .i64 a0_1) := (blk_cell hm 1).trans rfl
  have hm2 : w.cell? ⟨gm, 2, none⟩ = some (.int .i64 a0_2) := (blk_cell hm 2).trans rfl
  have hm3 : w.cell? ⟨gm, 3, none⟩ = some (.slice A0_3 l0_3.length c0_3) := (blk_cell hm 3).trans rfl
  have hx0 : w.cell? ⟨gx, 0, none⟩ = some (.int .i64 a1) := (blk_cell hx 0).trans rfl
  have hy0 : w.cell? ⟨gy, 0, none⟩ = some (.int .i64 a2) := (blk_cell hy 0).trans rfl
  have hp0 : w.cell? ⟨gp, 0, none⟩ = some (.int .i64 a3_0) := (blk_cell hp 0).trans rfl
  have hp1 : w.cell? ⟨gp, 1, none⟩ = some (.int .i64 a3_1) := (blk_cell hp 1).trans rfl
  have hp2 : w.cell? ⟨gp, 2, none⟩ = some (.int .i64 a0_2) := (blk_cell hp 2).trans rfl
  have hp3 : w.cell? ⟨gp, 3, none⟩ = some (.slice A3_3 l3_3.length c3_3) := (blk_cell hp 3).trans rfl
  have hsx' : IntKind.i64.wrap (a1 + a3_0) = sx := (i64_w _).trans hsx
  have hsy' : IntKind.i64.wrap (a2 + a3_1) = sy := (i64_w _).trans hsy
  have d0 : decide (a1 ≤ x) = true := decide_eq_true b0
  have d1 : decide (x < sx) = true := decide_eq_true b1
  have d2 : decide (a2 ≤ y) = false := decide_eq_false b2
  replace H := Aside0.mk H
  clear hm hx hy hp b0 b1 b2
  go_enter Try.func39, Try.ntmps39
  go_wp2_with fail
  refine H.out.mono ?_
  rintro e w' ⟨A1, c1, rfl, hc1, hC, hb⟩
  go_wp2
  go_ret
  exact ⟨A1, c1, rfl, hc1, hC, hb⟩
set_option maxHeartbeats 2000000 in
theorem paste_px4 (gm gx gy gp : Nat) (a0_0 : Int) (a0_1 : Int) (a0_2 : Int) (A0_3 : Option Addr) (c0_3 : Nat) (l0_3 : List Int) (a1 : Int) (a2 : Int) (a3_0 : Int) (a3_1 : Int) (A3_3 : Option Addr) (c3_3 : Nat) (l3_3 : List Int) (sx sy x y : Int) (px : List Int) (w : World) (hm : w.heap[gm]? = some (.cells #[.int .i64 a0_0, .int .i64 a0_1, .int .i64 a0_2, .slice A0_3 l0_3.length c0_3] 28 (0, 0))) (hx : w.heap[gx]? = some (.cells #[.int .i64 a1] 3 (0, 0))) (hy : w.heap[gy]? = some (.cells #[.int .i64 a2] 3 (0, 0))) (hp : w.heap[gp]? = some (.cells #[.int .i64 a3_0, .int .i64 a3_1, .int .i64 a0_2, .slice A3_3 l3_3.length c3_3] 28 (0, 0))) (hsx : wrap64 (a1 + a3_0) = sx) (hsy : wrap64 (a2 + a3_1) = sy) (b0 : a1 ≤ x) (b1 : x < sx) (b2 : a2 ≤ y) (b3 : ¬ y < sy)
    (H : Calls Try.prog 32 #[.agg #[.int .i64 a0_0, .int .i64 a0_1, .int .i64 a0_2, .slice A0_3 l0_3.length c0_3], .int .i64 x, .int .i64 y] w fun e w' => ∃ A1 c1, e = .returned (.slice A1 px.length c1) ∧ px.length ≤ c1 ∧ Kd.C (Kd.int .i64) w' A1 px.length px ∧ Below w.heap.size w w') :
    Calls Try.prog 39 (#[.int .i64 x, .int .i64 y] ++ #[.pointer (some ⟨gx, 0, none⟩), .pointer (some ⟨gp, 0, none⟩), .pointer (some ⟨gy, 0, none⟩), .pointer (some ⟨gm, 0, none⟩)]) w fun e w' => ∃ A1 c1, e = .returned (.slice A1 px.length c1) ∧ px.length ≤ c1 ∧ Kd.C (Kd.int .i64) w' A1 px.length px ∧ Below w.heap.size w w' := by
  have hu28 := Try.underlying28
  have hm0 : w.cell? ⟨gm, 0, none⟩ = some (.int .i64 a0_0) := (blk_cell hm 0).trans rfl
  have hm1 : w.cell? ⟨gm, 1, none⟩ = some (.int .i64 a0_1) := (blk_cell hm 1).trans rfl
  have hm2 : w.cell? ⟨gm, 2, none⟩ = some (.int .i64 a0_2) := (blk_cell hm 2).trans rfl
  have hm3 : w.cell? ⟨gm, 3, none⟩ = some (.slice A0_3 l0_3.length c0_3) := (blk_cell hm 3).trans rfl
  have hx0 : w.cell? ⟨gx, 0, none⟩ = some (.int .i64 a1) := (blk_cell hx 0).trans rfl
  have hy0 : w.cell? ⟨gy, 0, none⟩ = some (.int .i64 a2) := (blk_cell hy 0).trans rfl
  have hp0 : w.cell? ⟨gp, 0, none⟩ = some (.int .i64 a3_0) := (blk_cell hp 0).trans rfl
  have hp1 : w.cell? ⟨gp, 1, none⟩ = some (.int .i64 a3_1) := (blk_cell hp 1).trans rfl
  have hp2 : w.cell? ⟨gp, 2, none⟩ = some (.int .i64 a0_2) := (blk_cell hp 2).trans rfl
  have hp3 : w.cell? ⟨gp, 3, none⟩ = some (.slice A3_3 l3_3.length c3_3) := (blk_cell hp 3).trans rfl
  have hsx' : IntKind.i64.wrap (a1 + a3_0) = sx := (i64_w _).trans hsx
  have hsy' : IntKind.i64.wrap (a2 + a3_1) = sy := (i64_w _).trans hsy
  have d0 : decide (a1 ≤ x) = true := decide_eq_true b0
  have d1 : decide (x < sx) = true := decide_eq_true b1
  have d2 : decide (a2 ≤ y) = true := decide_eq_true b2
  have d3 : decide (y < sy) = false := decide_eq_false b3
  replace H := Aside0.mk H
  clear hm hx hy hp b0 b1 b2 b3
  go_enter Try.func39, Try.ntmps39
  go_wp2_with fail
  refine H.out.mono ?_
  rintro e w' ⟨A1, c1, rfl, hc1, hC, hb⟩
  go_wp2
  go_ret
  exact ⟨A1, c1, rfl, hc1, hC, hb⟩
set_option maxHeartbeats 2000000 in
theorem paste_px5 (gm gx gy gp : Nat) (a0_0 : Int) (a0_1 : Int) (a0_2 : Int) (A0_3 : Option Addr) (c0_3 : Nat) (l0_3 : List Int) (a1 : Int) (a2 : Int) (a3_0 : Int) (a3_1 : Int) (A3_3 : Option Addr) (c3_3 : Nat) (l3_3 : List Int) (sx sy x y : Int) (px : List Int) (w : World) (hm : w.heap[gm]? = some (.cells #[.int .i64 a0_0, .int .i64 a0_1, .int .i64 a0_2, .slice A0_3 l0_3.length c0_3] 28 (0, 0))) (hx : w.heap[gx]? = some (.cells #[.int .i64 a1] 3 (0, 0))) (hy : w.heap[gy]? = some (.cells #[.int .i64 a2] 3 (0, 0))) (hp : w.heap[gp]? = some (.cells #[.int .i64 a3_0, .int .i64 a3_1, .int .i64 a0_2, .slice A3_3 l3_3.length c3_3] 28 (0, 0))) (hsx : wrap64 (a1 + a3_0) = sx) (hsy : wrap64 (a2 + a3_1) = sy) (b0 : a1 ≤ x) (b1 : x < sx) (b2 : a2 ≤ y) (b3 : y < sy) (dx dy : Int) (hdx : wrap64 (x - a1) = dx) (hdy : wrap64 (y - a2) = dy)
    (H : Calls Try.prog 32 #[.agg #[.int .i64 a3_0, .int .i64 a3_1, .int .i64 a0_2, .slice A3_3 l3_3.length c3_3], .int .i64 dx, .int .i64 dy] w fun e w' => ∃ A1 c1, e = .returned (.slice A1 px.length c1) ∧ px.length ≤ c1 ∧ Kd.C (Kd.int .i64) w' A1 px.length px ∧ Below w.heap.size w w') :
    Calls Try.prog 39 (#[.int .i64 x, .int .i64 y] ++ #[.pointer (some ⟨gx, 0, none⟩), .pointer (some ⟨gp, 0, none⟩), .pointer (some ⟨gy, 0, none⟩), .pointer (some ⟨gm, 0, none⟩)]) w fun e w' => ∃ A1 c1, e = .returned (.slice A1 px.length c1) ∧ px.length ≤ c1 ∧ Kd.C (Kd.int .i64) w' A1 px.length px ∧ Below w.heap.size w w' := by
  have hu28 := Try.underlying28
  have hm0 : w.cell? ⟨gm, 0, none⟩ = some (.int .i64 a0_0) := (blk_cell hm 0).trans rfl
  have hm1 : w.cell? ⟨gm, 1, none⟩ = some (.int .i64 a0_1) := (blk_cell hm 1).trans rfl
  have hm2 : w.cell? ⟨gm, 2, none⟩ = some (.int .i64 a0_2) := (blk_cell hm 2).trans rfl
  have hm3 : w.cell? ⟨gm, 3, none⟩ = some (.slice A0_3 l0_3.length c0_3) := (blk_cell hm 3).trans rfl
  have hx0 : w.cell? ⟨gx, 0, none⟩ = some (.int .i64 a1) := (blk_cell hx 0).trans rfl
  have hy0 : w.cell? ⟨gy, 0, none⟩ = some (.int .i64 a2) := (blk_cell hy 0).trans rfl
  have hp0 : w.cell? ⟨gp, 0, none⟩ = some (.int .i64 a3_0) := (blk_cell hp 0).trans rfl
  have hp1 : w.cell? ⟨gp, 1, none⟩ = some (.int .i64 a3_1) := (blk_cell hp 1).trans rfl
  have hp2 : w.cell? ⟨gp, 2, none⟩ = some (.int .i64 a0_2) := (blk_cell hp 2).trans rfl
  have hp3 : w.cell? ⟨gp, 3, none⟩ = some (.slice A3_3 l3_3.length c3_3) := (blk_cell hp 3).trans rfl
  have hsx' : IntKind.i64.wrap (a1 + a3_0) = sx := (i64_w _).trans hsx
  have hsy' : IntKind.i64.wrap (a2 + a3_1) = sy := (i64_w _).trans hsy
  have hdx' : IntKind.i64.wrap (x - a1) = dx := (i64_w _).trans hdx
  have hdy' : IntKind.i64.wrap (y - a2) = dy := (i64_w _).trans hdy
  have d0 : decide (a1 ≤ x) = true := decide_eq_true b0
  have d1 : decide (x < sx) = true := decide_eq_true b1
  have d2 : decide (a2 ≤ y) = true := decide_eq_true b2
  have d3 : decide (y < sy) = true := decide_eq_true b3
  replace H := Aside0.mk H
  clear hm hx hy hp b0 b1 b2 b3
  go_enter Try.func39, Try.ntmps39
  go_wp2_with fail
  refine H.out.mono ?_
  rintro e w' ⟨A1, c1, rfl, hc1, hC, hb⟩
  go_wp2
  go_ret
  exact ⟨A1, c1, rfl, hc1, hC, hb⟩
theorem paste_pix (gm gx gy gp : Nat) (a0_0 : Int) (a0_1 : Int) (a0_2 : Int) (A0_3 : Option Addr) (c0_3 : Nat) (l0_3 : List Int) (a1 : Int) (a2 : Int) (a3_0 : Int) (a3_1 : Int) (A3_3 : Option Addr) (c3_3 : Nat) (l3_3 : List Int) (w : World) (hm : w.heap[gm]? = some (.cells #[.int .i64 a0_0, .int .i64 a0_1, .int .i64 a0_2, .slice A0_3 l0_3.length c0_3] 28 (0, 0))) (hx : w.heap[gx]? = some (.cells #[.int .i64 a1] 3 (0, 0))) (hy : w.heap[gy]? = some (.cells #[.int .i64 a2] 3 (0, 0))) (hp : w.heap[gp]? = some (.cells #[.int .i64 a3_0, .int .i64 a3_1, .int .i64 a0_2, .slice A3_3 l3_3.length c3_3] 28 (0, 0))) (ho : B.ImgI a0_0 a0_1 a0_2 l0_3) (hq : B.ImgI a3_0 a3_1 a0_2 l3_3) (h1 : -16 ≤ a1 ∧ a1 ≤ 16) (h2 : -16 ≤ a2 ∧ a2 ≤ 16) (hr0_3 : Kd.C (Kd.int .i64) w A0_3 l0_3.length l0_3) (hc0_3 : l0_3.length ≤ c0_3) (hr3_3 : Kd.C (Kd.int .i64) w A3_3 l3_3.length l3_3) (hc3_3 : l3_3.length ≤ c3_3) :
    PixG 39 #[.pointer (some ⟨gx, 0, none⟩), .pointer (some ⟨gp, 0, none⟩), .pointer (some ⟨gy, 0, none⟩), .pointer (some ⟨gm, 0, none⟩)] a0_0 a0_1 (pastePx a0_0 a0_2 l0_3 a3_0 a3_1 l3_3 a1 a2) w := fun W x y x0 x1 y0 y1 hB => by
  have hm' := blk_below hm hB
  have hx' := blk_below hx hB
  have hy' := blk_below hy hB
  have hp' := blk_below hp hB
  have hr0' := Kd.C_below hr0_3 hB
  have hr3' := Kd.C_below hr3_3 hB
  have hd := ho
  have he := hq
  obtain ⟨d1, d2, d3, d4, _⟩ := hd
  obtain ⟨e1, e2, e3, e4, _⟩ := he
  have sx : wrap64 (a1 + a3_0) = a1 + a3_0 := B.w64 (by omega) (by omega)
  have sy : wrap64 (a2 + a3_1) = a2 + a3_1 := B.w64 (by omega) (by omega)
  have dx : wrap64 (x - a1) = x - a1 := B.w64 (by omega) (by omega)
  have dy : wrap64 (y - a2) = y - a2 := B.w64 (by omega) (by omega)
  have ex : ((x.toNat : Nat) : Int) = x := Int.toNat_of_nonneg x0
  have ey : ((y.toNat : Nat) : Int) = y := Int.toNat_of_nonneg y0
  unfold pastePx
  rw [ex, ey]
  have HM := at_calls a0_0 a0_1 a0_2 x y A0_3 c0_3 l0_3 W ho ⟨x0, x1⟩ ⟨y0, y1⟩ hr0' hc0_3
  by_cases b0 : a1 ≤ x
  · by_cases b1 : x < a1 + a3_0
    · by_cases b2 : a2 ≤ y
      · by_cases b3 : y < a2 + a3_1
        · rw [if_pos ⟨b0, b1, b2, b3⟩]
          have HP := at_calls a3_0 a3_1 a0_2 (x - a1) (y - a2) A3_3 c3_3 l3_3 W hq ⟨by omega, by omega⟩ ⟨by omega, by omega⟩ hr3' hc3_3
          exact paste_px5 gm gx gy gp a0_0 a0_1 a0_2 A0_3 c0_3 l0_3 a1 a2 a3_0 a3_1 A3_3 c3_3 l3_3 _ _ x y _ W hm' hx' hy' hp' sx sy b0 b1 b2 b3 _ _ dx dy HP
        · rw [if_neg (fun h => b3 h.2.2.2)]
          exact paste_px4 gm gx gy gp a0_0 a0_1 a0_2 A0_3 c0_3 l0_3 a1 a2 a3_0 a3_1 A3_3 c3_3 l3_3 _ _ x y _ W hm' hx' hy' hp' sx sy b0 b1 b2 b3 HM
      · rw [if_neg (fun h => b2 h.2.2.1)]
        exact paste_px3 gm gx gy gp a0_0 a0_1 a0_2 A0_3 c0_3 l0_3 a1 a2 a3_0 a3_1 A3_3 c3_3 l3_3 _ _ x y _ W hm' hx' hy' hp' sx sy b0 b1 b2 HM
    · rw [if_neg (fun h => b1 h.2.1)]
      exact paste_px2 gm gx gy gp a0_0 a0_1 a0_2 A0_3 c0_3 l0_3 a1 a2 a3_0 a3_1 A3_3 c3_3 l3_3 _ _ x y _ W hm' hx' hy' hp' sx sy b0 b1 HM
  · rw [if_neg (fun h => b0 h.1)]
    exact paste_px1 gm gx gy gp a0_0 a0_1 a0_2 A0_3 c0_3 l0_3 a1 a2 a3_0 a3_1 A3_3 c3_3 l3_3 _ _ x y _ W hm' hx' hy' hp' sx sy b0 HM
set_option maxHeartbeats 4000000 in
theorem paste_no (a0_0 : Int) (a0_1 : Int) (a0_2 : Int) (A0_3 : Option Addr) (c0_3 : Nat) (l0_3 : List Int) (a1 : Int) (a2 : Int) (a3_0 : Int) (a3_1 : Int) (a3_2 : Int) (A3_3 : Option Addr) (c3_3 : Nat) (l3_3 : List Int) (w : World) (hr0_3 : Kd.C (Kd.int .i64) w A0_3 l0_3.length l0_3) (hc0_3 : l0_3.length ≤ c0_3) (hr3_3 : Kd.C (Kd.int .i64) w A3_3 l3_3.length l3_3) (hc3_3 : l3_3.length ≤ c3_3) (hv : B.okImg a0_0 a0_1 a0_2 l0_3 = false) :
    Calls Try.prog 18 #[.agg #[.int .i64 a0_0, .int .i64 a0_1, .int .i64 a0_2, .slice A0_3 l0_3.length c0_3], .int .i64 a1, .int .i64 a2, .agg #[.int .i64 a3_0, .int .i64 a3_1, .int .i64 a3_2, .slice A3_3 l3_3.length c3_3]] w fun e w' => ∃ v3_ : Value, e = .returned (.tuple #[.agg #[.int .i64 0, .int .i64 0, .int .i64 0, v3_], .bool false]) ∧ Kd.R (Kd.int .i64) 3 w' w.heap.size (fun _ => True) v3_ [] ∧ Below w.heap.size w w' := by
  have hu28 := Try.underlying28
  have H1 := Aside0.mk (fun (W : World) (hW : Below w.heap.size w W) => impl_isImage.calls a0_0 a0_1 a0_2 A0_3 c0_3 l0_3 false W (Kd.C_below hr0_3 hW) hc0_3 (by rw [isImage_ok, hv]))
  have BM : Aside0 ((((((w.alloc (.cells #[.int .i64 a0_0, .int .i64 a0_1, .int .i64 a0_2, .slice A0_3 l0_3.length c0_3] 28)).alloc (.cells #[.int .i64 a1] 3)).alloc (.cells #[.int .i64 a2] 3)).alloc (.cells #[.int .i64 a3_0, .int .i64 a3_1, .int .i64 a3_2, .slice A3_3 l3_3.length c3_3] 28)).alloc (.cells #[.int .i64 0, .int .i64 0, .int .i64 0, .slice none 0 0] 28)).heap[w.heap.size]? = some (.cells #[.int .i64 a0_0, .int .i64 a0_1, .int .i64 a0_2, .slice A0_3 l0_3.length c0_3] 28 (0, 0))) := ⟨(blk_alloc (blk_alloc (blk_alloc (blk_alloc (heap_alloc_new w (.cells #[.int .i64 a0_0, .int .i64 a0_1, .int .i64 a0_2, .slice A0_3 l0_3.length c0_3] 28)) _) _) _) _)⟩
  have BX : Aside0 ((((((w.alloc (.cells #[.int .i64 a0_0, .int .i64 a0_1, .int .i64 a0_2, .slice A0_3 l0_3.length c0_3] 28)).alloc (.cells #[.int .i64 a1] 3)).alloc (.cells #[.int .i64 a2] 3)).alloc (.cells #[.int .i64 a3_0, .int .i64 a3_1, .int .i64 a3_2, .slice A3_3 l3_3.length c3_3] 28)).alloc (.cells #[.int .i64 0, .int .i64 0, .int .i64 0, .slice none 0 0] 28)).heap[w.heap.size + 1]? = some (.cells #[.int .i64 a1] 3 (0, 0))) := ⟨(blk_alloc (blk_alloc (blk_alloc (by simpa using heap_alloc_new (w.alloc (.cells #[.int .i64 a0_0, .int .i64 a0_1, .int .i64 a0_2, .slice A0_3 l0_3.length c0_3] 28)) (.cells #[.int .i64 a1] 3)) _) _) _)⟩
  have BY : Aside0 ((((((w.alloc (.cells #[.int .i64 a0_0, .int .i64 a0_1, .int .i64 a0_2, .slice A0_3 l0_3.length c0_3] 28)).alloc (.cells #[.int .i64 a1] 3)).alloc (.cells #[.int .i64 a2] 3)).alloc (.cells #[.int .i64 a3_0, .int .i64 a3_1, .int .i64 a3_2, .slice A3_3 l3_3.length c3_3] 28)).alloc (.cells #[.int .i64 0, .int .i64 0, .int .i64 0, .slice none 0 0] 28)).heap[w.heap.size + 2]? = some (.cells #[.int .i64 a2] 3 (0, 0))) := ⟨(blk_alloc (blk_alloc (by simpa using heap_alloc_new ((w.alloc (.cells #[.int .i64 a0_0, .int .i64 a0_1, .int .i64 a0_2, .slice A0_3 l0_3.length c0_3] 28)).alloc (.cells #[.int .i64 a1] 3)) (.cells #[.int .i64 a2] 3)) _) _)⟩
  have BP : Aside0 ((((((w.alloc (.cells #[.int .i64 a0_0, .int .i64 a0_1, .int .i64 a0_2, .slice A0_3 l0_3.length c0_3] 28)).alloc (.cells #[.int .i64 a1] 3)).alloc (.cells #[.int .i64 a2] 3)).alloc (.cells #[.int .i64 a3_0, .int .i64 a3_1, .int .i64 a3_2, .slice A3_3 l3_3.length c3_3] 28)).alloc (.cells #[.int .i64 0, .int .i64 0, .int .i64 0, .slice none 0 0] 28)).heap[w.heap.size + 3]? = some (.cells #[.int .i64 a3_0, .int .i64 a3_1, .int .i64 a3_2, .slice A3_3 l3_3.length c3_3] 28 (0, 0))) := ⟨(blk_alloc (by simpa using heap_alloc_new (((w.alloc (.cells #[.int .i64 a0_0, .int .i64 a0_1, .int .i64 a0_2, .slice A0_3 l0_3.length c0_3] 28)).alloc (.cells #[.int .i64 a1] 3)).alloc (.cells #[.int .i64 a2] 3)) (.cells #[.int .i64 a3_0, .int .i64 a3_1, .int .i64 a3_2, .slice A3_3 l3_3.length c3_3] 28)) _)⟩
  have BZ : Aside0 ((((((w.alloc (.cells #[.int .i64 a0_0, .int .i64 a0_1, .int .i64 a0_2, .slice A0_3 l0_3.length c0_3] 28)).alloc (.cells #[.int .i64 a1] 3)).alloc (.cells #[.int .i64 a2] 3)).alloc (.cells #[.int .i64 a3_0, .int .i64 a3_1, .int .i64 a3_2, .slice A3_3 l3_3.length c3_3] 28)).alloc (.cells #[.int .i64 0, .int .i64 0, .int .i64 0, .slice none 0 0] 28)).heap[w.heap.size + 4]? = some (.cells #[.int .i64 0, .int .i64 0, .int .i64 0, .slice none 0 0] 28 (0, 0))) := ⟨(by simpa using heap_alloc_new ((((w.alloc (.cells #[.int .i64 a0_0, .int .i64 a0_1, .int .i64 a0_2, .slice A0_3 l0_3.length c0_3] 28)).alloc (.cells #[.int .i64 a1] 3)).alloc (.cells #[.int .i64 a2] 3)).alloc (.cells #[.int .i64 a3_0, .int .i64 a3_1, .int .i64 a3_2, .slice A3_3 l3_3.length c3_3] 28)) (.cells #[.int .i64 0, .int .i64 0, .int .i64 0, .slice none 0 0] 28))⟩
  have HB : Aside0 (Below w.heap.size w (((((w.alloc (.cells #[.int .i64 a0_0, .int .i64 a0_1, .int .i64 a0_2, .slice A0_3 l0_3.length c0_3] 28)).alloc (.cells #[.int .i64 a1] 3)).alloc (.cells #[.int .i64 a2] 3)).alloc (.cells #[.int .i64 a3_0, .int .i64 a3_1, .int .i64 a3_2, .slice A3_3 l3_3.length c3_3] 28)).alloc (.cells #[.int .i64 0, .int .i64 0, .int .i64 0, .slice none 0 0] 28))) := ⟨(below_alloc (below_alloc (below_alloc (below_alloc (below_alloc (Below.refl _ _) _) _) _) _) _)⟩
  clear hv hr0_3 hc0_3 hr3_3 hc3_3
  go_enter Try.func18, Try.ntmps18
  go_wp2_with fail
  refine (H1.out _ HB.out).mono ?_
  rintro e w1 ⟨rfl, hb1⟩
  have n0_ := Aside0.mk (blk_below BM.out hb1)
  have n1_ := Aside0.mk (blk_below BX.out hb1)
  have n2_ := Aside0.mk (blk_below BY.out hb1)
  have n3_ := Aside0.mk (blk_below BP.out hb1)
  have n4_ := Aside0.mk (blk_below BZ.out hb1)
  have nb_ := Aside0.mk (below_step HB.out hb1)
  clear BM BX BY BP BZ HB hb1
  have BM := n0_
  have BX := n1_
  have BY := n2_
  have BP := n3_
  have BZ := n4_
  have HB := nb_
  clear n0_ n1_ n2_ n3_ n4_ nb_
  have hcBM0 := B.bc BM 0
  have hcBM1 := B.bc BM 1
  have hcBM2 := B.bc BM 2
  have hcBM3 := B.bc BM 3
  have hcBX0 := B.bc BX 0
  have hcBY0 := B.bc BY 0
  have hcBP0 := B.bc BP 0
  have hcBP1 := B.bc BP 1
  have hcBP2 := B.bc BP 2
  have hcBP3 := B.bc BP 3
  have hcBZ0 := B.bc BZ 0
  have hcBZ1 := B.bc BZ 1
  have hcBZ2 := B.bc BZ 2
  have hcBZ3 := B.bc BZ 3
  have hfBZ0 := blk_frozen BZ.out 0
  have hfBZ1 := blk_frozen BZ.out 1
  have hfBZ2 := blk_frozen BZ.out 2
  have hfBZ3 := blk_frozen BZ.out 3
  go_wp2
  refine bodyPost_ret (results_ct rfl _ _ (w.heap.size + 4) 28 #[.int .i64 0, .int .i64 0, .int .i64 0, .slice none 0 0] (0, 0) _ rfl (by first | exact BZ.out | (refine blk_put (cs := #[.int .i64 0, .int .i64 0, .int .i64 0, .slice none 0 0]) ?_ 3 _ rfl; refine blk_put (cs := #[.int .i64 0, .int .i64 0, .int .i64 0, .slice none 0 0]) ?_ 2 _ rfl; refine blk_put (cs := #[.int .i64 0, .int .i64 0, .int .i64 0, .slice none 0 0]) ?_ 1 _ rfl; refine blk_put (cs := #[.int .i64 0, .int .i64 0, .int .i64 0, .slice none 0 0]) ?_ 0 _ rfl; exact BZ.out)) Try.underlying28 rfl (by kernel_rfl)) rfl ?_
  exact ⟨_, by first | rfl | (simp; done), Kd.R_nil _ _ _ _ _, by first | exact HB.out | exact (below_set (below_set (below_set (below_set HB.out (by omega)) (by omega)) (by omega)) (by omega))⟩
set_option maxHeartbeats 4000000 in
theorem paste_part (a0_0 : Int) (a0_1 : Int) (a0_2 : Int) (A0_3 : Option Addr) (c0_3 : Nat) (l0_3 : List Int) (a1 : Int) (a2 : Int) (a3_0 : Int) (a3_1 : Int) (a3_2 : Int) (A3_3 : Option Addr) (c3_3 : Nat) (l3_3 : List Int) (w : World) (hr0_3 : Kd.C (Kd.int .i64) w A0_3 l0_3.length l0_3) (hc0_3 : l0_3.length ≤ c0_3) (hr3_3 : Kd.C (Kd.int .i64) w A3_3 l3_3.length l3_3) (hc3_3 : l3_3.length ≤ c3_3) (hv : B.okImg a0_0 a0_1 a0_2 l0_3 = true) (hq : B.okImg a3_0 a3_1 a3_2 l3_3 = false) :
    Calls Try.prog 18 #[.agg #[.int .i64 a0_0, .int .i64 a0_1, .int .i64 a0_2, .slice A0_3 l0_3.length c0_3], .int .i64 a1, .int .i64 a2, .agg #[.int .i64 a3_0, .int .i64 a3_1, .int .i64 a3_2, .slice A3_3 l3_3.length c3_3]] w fun e w' => ∃ v3_ : Value, e = .returned (.tuple #[.agg #[.int .i64 0, .int .i64 0, .int .i64 0, v3_], .bool false]) ∧ Kd.R (Kd.int .i64) 3 w' w.heap.size (fun _ => True) v3_ [] ∧ Below w.heap.size w w' := by
  have hu28 := Try.underlying28
  have H1 := Aside0.mk (fun (W : World) (hW : Below w.heap.size w W) => impl_isImage.calls a0_0 a0_1 a0_2 A0_3 c0_3 l0_3 true W (Kd.C_below hr0_3 hW) hc0_3 (by rw [isImage_ok, hv]))
  have H2 := Aside0.mk (fun (W : World) (hW : Below w.heap.size w W) => impl_isImage.calls a3_0 a3_1 a3_2 A3_3 c3_3 l3_3 false W (Kd.C_below hr3_3 hW) hc3_3 (by rw [isImage_ok, hq]))
  have BM : Aside0 ((((((w.alloc (.cells #[.int .i64 a0_0, .int .i64 a0_1, .int .i64 a0_2, .slice A0_3 l0_3.length c0_3] 28)).alloc (.cells #[.int .i64 a1] 3)).alloc (.cells #[.int .i64 a2] 3)).alloc (.cells #[.int .i64 a3_0, .int .i64 a3_1, .int .i64 a3_2, .slice A3_3 l3_3.length c3_3] 28)).alloc (.cells #[.int .i64 0, .int .i64 0, .int .i64 0, .slice none 0 0] 28)).heap[w.heap.size]? = some (.cells #[.int .i64 a0_0, .int .i64 a0_1, .int .i64 a0_2, .slice A0_3 l0_3.length c0_3] 28 (0, 0))) := ⟨(blk_alloc (blk_alloc (blk_alloc (blk_alloc (heap_alloc_new w (.cells #[.int .i64 a0_0, .int .i64 a0_1, .int .i64 a0_2, .slice A0_3 l0_3.length c0_3] 28)) _) _) _) _)⟩
  have BX : Aside0 ((((((w.alloc (.cells #[.int .i64 a0_0, .int .i64 a0_1, .int .i64 a0_2, .slice A0_3 l0_3.length c0_3] 28)).alloc (.cells #[.int .i64 a1] 3)).alloc (.cells #[.int .i64 a2] 3)).alloc (.cells #[.int .i64 a3_0, .int .i64 a3_1, .int .i64 a3_2, .slice A3_3 l3_3.length c3_3] 28)).alloc (.cells #[.int .i64 0, .int .i64 0, .int .i64 0, .slice none 0 0] 28)).heap[w.heap.size + 1]? = some (.cells #[.int .i64 a1] 3 (0, 0))) := ⟨(blk_alloc (blk_alloc (blk_alloc (by simpa using heap_alloc_new (w.alloc (.cells #[.int .i64 a0_0, .int .i64 a0_1, .int .i64 a0_2, .slice A0_3 l0_3.length c0_3] 28)) (.cells #[.int .i64 a1] 3)) _) _) _)⟩
  have BY : Aside0 ((((((w.alloc (.cells #[.int .i64 a0_0, .int .i64 a0_1, .int .i64 a0_2, .slice A0_3 l0_3.length c0_3] 28)).alloc (.cells #[.int .i64 a1] 3)).alloc (.cells #[.int .i64 a2] 3)).alloc (.cells #[.int .i64 a3_0, .int .i64 a3_1, .int .i64 a3_2, .slice A3_3 l3_3.length c3_3] 28)).alloc (.cells #[.int .i64 0, .int .i64 0, .int .i64 0, .slice none 0 0] 28)).heap[w.heap.size + 2]? = some (.cells #[.int .i64 a2] 3 (0, 0))) := ⟨(blk_alloc (blk_alloc (by simpa using heap_alloc_new ((w.alloc (.cells #[.int .i64 a0_0, .int .i64 a0_1, .int .i64 a0_2, .slice A0_3 l0_3.length c0_3] 28)).alloc (.cells #[.int .i64 a1] 3)) (.cells #[.int .i64 a2] 3)) _) _)⟩
  have BP : Aside0 ((((((w.alloc (.cells #[.int .i64 a0_0, .int .i64 a0_1, .int .i64 a0_2, .slice A0_3 l0_3.length c0_3] 28)).alloc (.cells #[.int .i64 a1] 3)).alloc (.cells #[.int .i64 a2] 3)).alloc (.cells #[.int .i64 a3_0, .int .i64 a3_1, .int .i64 a3_2, .slice A3_3 l3_3.length c3_3] 28)).alloc (.cells #[.int .i64 0, .int .i64 0, .int .i64 0, .slice none 0 0] 28)).heap[w.heap.size + 3]? = some (.cells #[.int .i64 a3_0, .int .i64 a3_1, .int .i64 a3_2, .slice A3_3 l3_3.length c3_3] 28 (0, 0))) := ⟨(blk_alloc (by simpa using heap_alloc_new (((w.alloc (.cells #[.int .i64 a0_0, .int .i64 a0_1, .int .i64 a0_2, .slice A0_3 l0_3.length c0_3] 28)).alloc (.cells #[.int .i64 a1] 3)).alloc (.cells #[.int .i64 a2] 3)) (.cells #[.int .i64 a3_0, .int .i64 a3_1, .int .i64 a3_2, .slice A3_3 l3_3.length c3_3] 28)) _)⟩
  have BZ : Aside0 ((((((w.alloc (.cells #[.int .i64 a0_0, .int .i64 a0_1, .int .i64 a0_2, .slice A0_3 l0_3.length c0_3] 28)).alloc (.cells #[.int .i64 a1] 3)).alloc (.cells #[.int .i64 a2] 3)).alloc (.cells #[.int .i64 a3_0, .int .i64 a3_1, .int .i64 a3_2, .slice A3_3 l3_3.length c3_3] 28)).alloc (.cells #[.int .i64 0, .int .i64 0, .int .i64 0, .slice none 0 0] 28)).heap[w.heap.size + 4]? = some (.cells #[.int .i64 0, .int .i64 0, .int .i64 0, .slice none 0 0] 28 (0, 0))) := ⟨(by simpa using heap_alloc_new ((((w.alloc (.cells #[.int .i64 a0_0, .int .i64 a0_1, .int .i64 a0_2, .slice A0_3 l0_3.length c0_3] 28)).alloc (.cells #[.int .i64 a1] 3)).alloc (.cells #[.int .i64 a2] 3)).alloc (.cells #[.int .i64 a3_0, .int .i64 a3_1, .int .i64 a3_2, .slice A3_3 l3_3.length c3_3] 28)) (.cells #[.int .i64 0, .int .i64 0, .int .i64 0, .slice none 0 0] 28))⟩
  have HB : Aside0 (Below w.heap.size w (((((w.alloc (.cells #[.int .i64 a0_0, .int .i64 a0_1, .int .i64 a0_2, .slice A0_3 l0_3.length c0_3] 28)).alloc (.cells #[.int .i64 a1] 3)).alloc (.cells #[.int .i64 a2] 3)).alloc (.cells #[.int .i64 a3_0, .int .i64 a3_1, .int .i64 a3_2, .slice A3_3 l3_3.length c3_3] 28)).alloc (.cells #[.int .i64 0, .int .i64 0, .int .i64 0, .slice none 0 0] 28))) := ⟨(below_alloc (below_alloc (below_alloc (below_alloc (below_alloc (Below.refl _ _) _) _) _) _) _)⟩
  clear hv hq hr0_3 hc0_3 hr3_3 hc3_3
  go_enter Try.func18, Try.ntmps18
  go_wp2_with fail
  refine (H1.out _ HB.out).mono ?_
  rintro e w1 ⟨rfl, hb1⟩
  have n0_ := Aside0.mk (blk_below BM.out hb1)
  have n1_ := Aside0.mk (blk_below BX.out hb1)
  have n2_ := Aside0.mk (blk_below BY.out hb1)
  have n3_ := Aside0.mk (blk_below BP.out hb1)
  have n4_ := Aside0.mk (blk_below BZ.out hb1)
  have nb_ := Aside0.mk (below_step HB.out hb1)
  clear BM BX BY BP BZ HB hb1
  have BM := n0_
  have BX := n1_
  have BY := n2_
  have BP := n3_
  have BZ := n4_
  have HB := nb_
  clear n0_ n1_ n2_ n3_ n4_ nb_
  have hcBM0 := B.bc BM 0
  have hcBM1 := B.bc BM 1
  have hcBM2 := B.bc BM 2
  have hcBM3 := B.bc BM 3
  have hcBX0 := B.bc BX 0
  have hcBY0 := B.bc BY 0
  have hcBP0 := B.bc BP 0
  have hcBP1 := B.bc BP 1
  have hcBP2 := B.bc BP 2
  have hcBP3 := B.bc BP 3
  go_wp2_with fail
  refine (H2.out _ HB.out).mono ?_
  rintro e w2 ⟨rfl, hb2⟩
  clear hcBM0 hcBM1 hcBM2 hcBM3
  clear hcBX0
  clear hcBY0
  clear hcBP0 hcBP1 hcBP2 hcBP3
  have n0_ := Aside0.mk (blk_below BM.out hb2)
  have n1_ := Aside0.mk (blk_below BX.out hb2)
  have n2_ := Aside0.mk (blk_below BY.out hb2)
  have n3_ := Aside0.mk (blk_below BP.out hb2)
  have n4_ := Aside0.mk (blk_below BZ.out hb2)
  have nb_ := Aside0.mk (below_step HB.out hb2)
  clear BM BX BY BP BZ HB hb2
  have BM := n0_
  have BX := n1_
  have BY := n2_
  have BP := n3_
  have BZ := n4_
  have HB := nb_
  clear n0_ n1_ n2_ n3_ n4_ nb_
  have hcBM0 := B.bc BM 0
  have hcBM1 := B.bc BM 1
  have hcBM2 := B.bc BM 2
  have hcBM3 := B.bc BM 3
  have hcBX0 := B.bc BX 0
  have hcBY0 := B.bc BY 0
  have hcBP0 := B.bc BP 0
  have hcBP1 := B.bc BP 1
  have hcBP2 := B.bc BP 2
  have hcBP3 := B.bc BP 3
  have hcBZ0 := B.bc BZ 0
  have hcBZ1 := B.bc BZ 1
  have hcBZ2 := B.bc BZ 2
  have hcBZ3 := B.bc BZ 3
  have hfBZ0 := blk_frozen BZ.out 0
  have hfBZ1 := blk_frozen BZ.out 1
  have hfBZ2 := blk_frozen BZ.out 2
  have hfBZ3 := blk_frozen BZ.out 3
  go_wp2
  refine bodyPost_ret (results_ct rfl _ _ (w.heap.size + 4) 28 #[.int .i64 0, .int .i64 0, .int .i64 0, .slice none 0 0] (0, 0) _ rfl (by first | exact BZ.out | (refine blk_put (cs := #[.int .i64 0, .int .i64 0, .int .i64 0, .slice none 0 0]) ?_ 3 _ rfl; refine blk_put (cs := #[.int .i64 0, .int .i64 0, .int .i64 0, .slice none 0 0]) ?_ 2 _ rfl; refine blk_put (cs := #[.int .i64 0, .int .i64 0, .int .i64 0, .slice none 0 0]) ?_ 1 _ rfl; refine blk_put (cs := #[.int .i64 0, .int .i64 0, .int .i64 0, .slice none 0 0]) ?_ 0 _ rfl; exact BZ.out)) Try.underlying28 rfl (by kernel_rfl)) rfl ?_
  exact ⟨_, by first | rfl | (simp; done), Kd.R_nil _ _ _ _ _, by first | exact HB.out | exact (below_set (below_set (below_set (below_set HB.out (by omega)) (by omega)) (by omega)) (by omega))⟩
set_option maxHeartbeats 4000000 in
theorem paste_planes (a0_0 : Int) (a0_1 : Int) (a0_2 : Int) (A0_3 : Option Addr) (c0_3 : Nat) (l0_3 : List Int) (a1 : Int) (a2 : Int) (a3_0 : Int) (a3_1 : Int) (a3_2 : Int) (A3_3 : Option Addr) (c3_3 : Nat) (l3_3 : List Int) (w : World) (hr0_3 : Kd.C (Kd.int .i64) w A0_3 l0_3.length l0_3) (hc0_3 : l0_3.length ≤ c0_3) (hr3_3 : Kd.C (Kd.int .i64) w A3_3 l3_3.length l3_3) (hc3_3 : l3_3.length ≤ c3_3) (hv : B.okImg a0_0 a0_1 a0_2 l0_3 = true) (hq : B.okImg a3_0 a3_1 a3_2 l3_3 = true) (t0 : a3_2 ≠ a0_2) :
    Calls Try.prog 18 #[.agg #[.int .i64 a0_0, .int .i64 a0_1, .int .i64 a0_2, .slice A0_3 l0_3.length c0_3], .int .i64 a1, .int .i64 a2, .agg #[.int .i64 a3_0, .int .i64 a3_1, .int .i64 a3_2, .slice A3_3 l3_3.length c3_3]] w fun e w' => ∃ v3_ : Value, e = .returned (.tuple #[.agg #[.int .i64 0, .int .i64 0, .int .i64 0, v3_], .bool false]) ∧ Kd.R (Kd.int .i64) 3 w' w.heap.size (fun _ => True) v3_ [] ∧ Below w.heap.size w w' := by
  have hu28 := Try.underlying28
  have H1 := Aside0.mk (fun (W : World) (hW : Below w.heap.size w W) => impl_isImage.calls a0_0 a0_1 a0_2 A0_3 c0_3 l0_3 true W (Kd.C_below hr0_3 hW) hc0_3 (by rw [isImage_ok, hv]))
  have H2 := Aside0.mk (fun (W : World) (hW : Below w.heap.size w W) => impl_isImage.calls a3_0 a3_1 a3_2 A3_3 c3_3 l3_3 true W (Kd.C_below hr3_3 hW) hc3_3 (by rw [isImage_ok, hq]))
  have u0 : (a3_2 != a0_2) = true := by simpa using t0
  have u1 : (a3_2 == a0_2) = false := by simpa using t0
  clear t0
  have BM : Aside0 ((((((w.alloc (.cells #[.int .i64 a0_0, .int .i64 a0_1, .int .i64 a0_2, .slice A0_3 l0_3.length c0_3] 28)).alloc (.cells #[.int .i64 a1] 3)).alloc (.cells #[.int .i64 a2] 3)).alloc (.cells #[.int .i64 a3_0, .int .i64 a3_1, .int .i64 a3_2, .slice A3_3 l3_3.length c3_3] 28)).alloc (.cells #[.int .i64 0, .int .i64 0, .int .i64 0, .slice none 0 0] 28)).heap[w.heap.size]? = some (.cells #[.int .i64 a0_0, .int .i64 a0_1, .int .i64 a0_2, .slice A0_3 l0_3.length c0_3] 28 (0, 0))) := ⟨(blk_alloc (blk_alloc (blk_alloc (blk_alloc (heap_alloc_new w (.cells #[.int .i64 a0_0, .int .i64 a0_1, .int .i64 a0_2, .slice A0_3 l0_3.length c0_3] 28)) _) _) _) _)⟩
  have BX : Aside0 ((((((w.alloc (.cells #[.int .i64 a0_0, .int .i64 a0_1, .int .i64 a0_2, .slice A0_3 l0_3.length c0_3] 28)).alloc (.cells #[.int .i64 a1] 3)).alloc (.cells #[.int .i64 a2] 3)).alloc (.cells #[.int .i64 a3_0, .int .i64 a3_1, .int .i64 a3_2, .slice A3_3 l3_3.length c3_3] 28)).alloc (.cells #[.int .i64 0, .int .i64 0, .int .i64 0, .slice none 0 0] 28)).heap[w.heap.size + 1]? = some (.cells #[.int .i64 a1] 3 (0, 0))) := ⟨(blk_alloc (blk_alloc (blk_alloc (by simpa using heap_alloc_new (w.alloc (.cells #[.int .i64 a0_0, .int .i64 a0_1, .int .i64 a0_2, .slice A0_3 l0_3.length c0_3] 28)) (.cells #[.int .i64 a1] 3)) _) _) _)⟩
  have BY : Aside0 ((((((w.alloc (.cells #[.int .i64 a0_0, .int .i64 a0_1, .int .i64 a0_2, .slice A0_3 l0_3.length c0_3] 28)).alloc (.cells #[.int .i64 a1] 3)).alloc (.cells #[.int .i64 a2] 3)).alloc (.cells #[.int .i64 a3_0, .int .i64 a3_1, .int .i64 a3_2, .slice A3_3 l3_3.length c3_3] 28)).alloc (.cells #[.int .i64 0, .int .i64 0, .int .i64 0, .slice none 0 0] 28)).heap[w.heap.size + 2]? = some (.cells #[.int .i64 a2] 3 (0, 0))) := ⟨(blk_alloc (blk_alloc (by simpa using heap_alloc_new ((w.alloc (.cells #[.int .i64 a0_0, .int .i64 a0_1, .int .i64 a0_2, .slice A0_3 l0_3.length c0_3] 28)).alloc (.cells #[.int .i64 a1] 3)) (.cells #[.int .i64 a2] 3)) _) _)⟩
  have BP : Aside0 ((((((w.alloc (.cells #[.int .i64 a0_0, .int .i64 a0_1, .int .i64 a0_2, .slice A0_3 l0_3.length c0_3] 28)).alloc (.cells #[.int .i64 a1] 3)).alloc (.cells #[.int .i64 a2] 3)).alloc (.cells #[.int .i64 a3_0, .int .i64 a3_1, .int .i64 a3_2, .slice A3_3 l3_3.length c3_3] 28)).alloc (.cells #[.int .i64 0, .int .i64 0, .int .i64 0, .slice none 0 0] 28)).heap[w.heap.size + 3]? = some (.cells #[.int .i64 a3_0, .int .i64 a3_1, .int .i64 a3_2, .slice A3_3 l3_3.length c3_3] 28 (0, 0))) := ⟨(blk_alloc (by simpa using heap_alloc_new (((w.alloc (.cells #[.int .i64 a0_0, .int .i64 a0_1, .int .i64 a0_2, .slice A0_3 l0_3.length c0_3] 28)).alloc (.cells #[.int .i64 a1] 3)).alloc (.cells #[.int .i64 a2] 3)) (.cells #[.int .i64 a3_0, .int .i64 a3_1, .int .i64 a3_2, .slice A3_3 l3_3.length c3_3] 28)) _)⟩
  have BZ : Aside0 ((((((w.alloc (.cells #[.int .i64 a0_0, .int .i64 a0_1, .int .i64 a0_2, .slice A0_3 l0_3.length c0_3] 28)).alloc (.cells #[.int .i64 a1] 3)).alloc (.cells #[.int .i64 a2] 3)).alloc (.cells #[.int .i64 a3_0, .int .i64 a3_1, .int .i64 a3_2, .slice A3_3 l3_3.length c3_3] 28)).alloc (.cells #[.int .i64 0, .int .i64 0, .int .i64 0, .slice none 0 0] 28)).heap[w.heap.size + 4]? = some (.cells #[.int .i64 0, .int .i64 0, .int .i64 0, .slice none 0 0] 28 (0, 0))) := ⟨(by simpa using heap_alloc_new ((((w.alloc (.cells #[.int .i64 a0_0, .int .i64 a0_1, .int .i64 a0_2, .slice A0_3 l0_3.length c0_3] 28)).alloc (.cells #[.int .i64 a1] 3)).alloc (.cells #[.int .i64 a2] 3)).alloc (.cells #[.int .i64 a3_0, .int .i64 a3_1, .int .i64 a3_2, .slice A3_3 l3_3.length c3_3] 28)) (.cells #[.int .i64 0, .int .i64 0, .int .i64 0, .slice none 0 0] 28))⟩
  have HB : Aside0 (Below w.heap.size w (((((w.alloc (.cells #[.int .i64 a0_0, .int .i64 a0_1, .int .i64 a0_2, .slice A0_3 l0_3.length c0_3] 28)).alloc (.cells #[.int .i64 a1] 3)).alloc (.cells #[.int .i64 a2] 3)).alloc (.cells #[.int .i64 a3_0, .int .i64 a3_1, .int .i64 a3_2, .slice A3_3 l3_3.length c3_3] 28)).alloc (.cells #[.int .i64 0, .int .i64 0, .int .i64 0, .slice none 0 0] 28))) := ⟨(below_alloc (below_alloc (below_alloc (below_alloc (below_alloc (Below.refl _ _) _) _) _) _) _)⟩
  clear hv hq hr0_3 hc0_3 hr3_3 hc3_3
  go_enter Try.func18, Try.ntmps18
  go_wp2_with fail
  refine (H1.out _ HB.out).mono ?_
  rintro e w1 ⟨rfl, hb1⟩
  have n0_ := Aside0.mk (blk_below BM.out hb1)
  have n1_ := Aside0.mk (blk_below BX.out hb1)
  have n2_ := Aside0.mk (blk_below BY.out hb1)
  have n3_ := Aside0.mk (blk_below BP.out hb1)
  have n4_ := Aside0.mk (blk_below BZ.out hb1)
  have nb_ := Aside0.mk (below_step HB.out hb1)
  clear BM BX BY BP BZ HB hb1
  have BM := n0_
  have BX := n1_
  have BY := n2_
  have BP := n3_
  have BZ := n4_
  have HB := nb_
  clear n0_ n1_ n2_ n3_ n4_ nb_
  have hcBM0 := B.bc BM 0
  have hcBM1 := B.bc BM 1
  have hcBM2 := B.bc BM 2
  have hcBM3 := B.bc BM 3
  have hcBX0 := B.bc BX 0
  have hcBY0 := B.bc BY 0
  have hcBP0 := B.bc BP 0
  have hcBP1 := B.bc BP 1
  have hcBP2 := B.bc BP 2
  have hcBP3 := B.bc BP 3
  go_wp2_with fail
  refine (H2.out _ HB.out).mono ?_
  rintro e w2 ⟨rfl, hb2⟩
  clear hcBM0 hcBM1 hcBM2 hcBM3
  clear hcBX0
  clear hcBY0
  clear hcBP0 hcBP1 hcBP2 hcBP3
  have n0_ := Aside0.mk (blk_below BM.out hb2)
  have n1_ := Aside0.mk (blk_below BX.out hb2)
  have n2_ := Aside0.mk (blk_below BY.out hb2)
  have n3_ := Aside0.mk (blk_below BP.out hb2)
  have n4_ := Aside0.mk (blk_below BZ.out hb2)
  have nb_ := Aside0.mk (below_step HB.out hb2)
  clear BM BX BY BP BZ HB hb2
  have BM := n0_
  have BX := n1_
  have BY := n2_
  have BP := n3_
  have BZ := n4_
  have HB := nb_
  clear n0_ n1_ n2_ n3_ n4_ nb_
  have hcBM0 := B.bc BM 0
  have hcBM1 := B.bc BM 1
  have hcBM2 := B.bc BM 2
  have hcBM3 := B.bc BM 3
  have hcBX0 := B.bc BX 0
  have hcBY0 := B.bc BY 0
  have hcBP0 := B.bc BP 0
  have hcBP1 := B.bc BP 1
  have hcBP2 := B.bc BP 2
  have hcBP3 := B.bc BP 3
  have hcBZ0 := B.bc BZ 0
  have hcBZ1 := B.bc BZ 1
  have hcBZ2 := B.bc BZ 2
  have hcBZ3 := B.bc BZ 3
  have hfBZ0 := blk_frozen BZ.out 0
  have hfBZ1 := blk_frozen BZ.out 1
  have hfBZ2 := blk_frozen BZ.out 2
  have hfBZ3 := blk_frozen BZ.out 3
  go_wp2
  refine bodyPost_ret (results_ct rfl _ _ (w.heap.size + 4) 28 #[.int .i64 0, .int .i64 0, .int .i64 0, .slice none 0 0] (0, 0) _ rfl (by first | exact BZ.out | (refine blk_put (cs := #[.int .i64 0, .int .i64 0, .int .i64 0, .slice none 0 0]) ?_ 3 _ rfl; refine blk_put (cs := #[.int .i64 0, .int .i64 0, .int .i64 0, .slice none 0 0]) ?_ 2 _ rfl; refine blk_put (cs := #[.int .i64 0, .int .i64 0, .int .i64 0, .slice none 0 0]) ?_ 1 _ rfl; refine blk_put (cs := #[.int .i64 0, .int .i64 0, .int .i64 0, .slice none 0 0]) ?_ 0 _ rfl; exact BZ.out)) Try.underlying28 rfl (by kernel_rfl)) rfl ?_
  exact ⟨_, by first | rfl | (simp; done), Kd.R_nil _ _ _ _ _, by first | exact HB.out | exact (below_set (below_set (below_set (below_set HB.out (by omega)) (by omega)) (by omega)) (by omega))⟩
set_option maxHeartbeats 4000000 in
theorem paste_x0 (a0_0 : Int) (a0_1 : Int) (a0_2 : Int) (A0_3 : Option Addr) (c0_3 : Nat) (l0_3 : List Int) (a1 : Int) (a2 : Int) (a3_0 : Int) (a3_1 : Int) (a3_2 : Int) (A3_3 : Option Addr) (c3_3 : Nat) (l3_3 : List Int) (w : World) (hr0_3 : Kd.C (Kd.int .i64) w A0_3 l0_3.length l0_3) (hc0_3 : l0_3.length ≤ c0_3) (hr3_3 : Kd.C (Kd.int .i64) w A3_3 l3_3.length l3_3) (hc3_3 : l3_3.length ≤ c3_3) (hv : B.okImg a0_0 a0_1 a0_2 l0_3 = true) (hq : B.okImg a3_0 a3_1 a3_2 l3_3 = true) (t0 : a3_2 = a0_2) (t1 : a1 < -16) :
    Calls Try.prog 18 #[.agg #[.int .i64 a0_0, .int .i64 a0_1, .int .i64 a0_2, .slice A0_3 l0_3.length c0_3], .int .i64 a1, .int .i64 a2, .agg #[.int .i64 a3_0, .int .i64 a3_1, .int .i64 a3_2, .slice A3_3 l3_3.length c3_3]] w fun e w' => ∃ v3_ : Value, e = .returned (.tuple #[.agg #[.int .i64 0, .int .i64 0, .int .i64 0, v3_], .bool false]) ∧ Kd.R (Kd.int .i64) 3 w' w.heap.size (fun _ => True) v3_ [] ∧ Below w.heap.size w w' := by
  subst t0
  have hu28 := Try.underlying28
  have H1 := Aside0.mk (fun (W : World) (hW : Below w.heap.size w W) => impl_isImage.calls a0_0 a0_1 a3_2 A0_3 c0_3 l0_3 true W (Kd.C_below hr0_3 hW) hc0_3 (by rw [isImage_ok, hv]))
  have H2 := Aside0.mk (fun (W : World) (hW : Below w.heap.size w W) => impl_isImage.calls a3_0 a3_1 a3_2 A3_3 c3_3 l3_3 true W (Kd.C_below hr3_3 hW) hc3_3 (by rw [isImage_ok, hq]))
  have u1 : decide (a1 < -16) = true := decide_eq_true t1
  clear t1
  have BM : Aside0 ((((((w.alloc (.cells #[.int .i64 a0_0, .int .i64 a0_1, .int .i64 a3_2, .slice A0_3 l0_3.length c0_3] 28)).alloc (.cells #[.int .i64 a1] 3)).alloc (.cells #[.int .i64 a2] 3)).alloc (.cells #[.int .i64 a3_0, .int .i64 a3_1, .int .i64 a3_2, .slice A3_3 l3_3.length c3_3] 28)).alloc (.cells #[.int .i64 0, .int .i64 0, .int .i64 0, .slice none 0 0] 28)).heap[w.heap.size]? = some (.cells #[.int .i64 a0_0, .int .i64 a0_1, .int .i64 a3_2, .slice A0_3 l0_3.length c0_3] 28 (0, 0))) := ⟨(blk_alloc (blk_alloc (blk_alloc (blk_alloc (heap_alloc_new w (.cells #[.int .i64 a0_0, .int .i64 a0_1, .int .i64 a3_2, .slice A0_3 l0_3.length c0_3] 28)) _) _) _) _)⟩
  have BX : Aside0 ((((((w.alloc (.cells #[.int .i64 a0_0, .int .i64 a0_1, .int .i64 a3_2, .slice A0_3 l0_3.length c0_3] 28)).alloc (.cells #[.int .i64 a1] 3)).alloc (.cells #[.int .i64 a2] 3)).alloc (.cells #[.int .i64 a3_0, .int .i64 a3_1, .int .i64 a3_2, .slice A3_3 l3_3.length c3_3] 28)).alloc (.cells #[.int .i64 0, .int .i64 0, .int .i64 0, .slice none 0 0] 28)).heap[w.heap.size + 1]? = some (.cells #[.int .i64 a1] 3 (0, 0))) := ⟨(blk_alloc (blk_alloc (blk_alloc (by simpa using heap_alloc_new (w.alloc (.cells #[.int .i64 a0_0, .int .i64 a0_1, .int .i64 a3_2, .slice A0_3 l0_3.length c0_3] 28)) (.cells #[.int .i64 a1] 3)) _) _) _)⟩
  have BY : Aside0 ((((((w.alloc (.cells #[.int .i64 a0_0, .int .i64 a0_1, .int .i64 a3_2, .slice A0_3 l0_3.length c0_3] 28)).alloc (.cells #[.int .i64 a1] 3)).alloc (.cells #[.int .i64 a2] 3)).alloc (.cells #[.int .i64 a3_0, .int .i64 a3_1, .int .i64 a3_2, .slice A3_3 l3_3.length c3_3] 28)).alloc (.cells #[.int .i64 0, .int .i64 0, .int .i64 0, .slice none 0 0] 28)).heap[w.heap.size + 2]? = some (.cells #[.int .i64 a2] 3 (0, 0))) := ⟨(blk_alloc (blk_alloc (by simpa using heap_alloc_new ((w.alloc (.cells #[.int .i64 a0_0, .int .i64 a0_1, .int .i64 a3_2, .slice A0_3 l0_3.length c0_3] 28)).alloc (.cells #[.int .i64 a1] 3)) (.cells #[.int .i64 a2] 3)) _) _)⟩
  have BP : Aside0 ((((((w.alloc (.cells #[.int .i64 a0_0, .int .i64 a0_1, .int .i64 a3_2, .slice A0_3 l0_3.length c0_3] 28)).alloc (.cells #[.int .i64 a1] 3)).alloc (.cells #[.int .i64 a2] 3)).alloc (.cells #[.int .i64 a3_0, .int .i64 a3_1, .int .i64 a3_2, .slice A3_3 l3_3.length c3_3] 28)).alloc (.cells #[.int .i64 0, .int .i64 0, .int .i64 0, .slice none 0 0] 28)).heap[w.heap.size + 3]? = some (.cells #[.int .i64 a3_0, .int .i64 a3_1, .int .i64 a3_2, .slice A3_3 l3_3.length c3_3] 28 (0, 0))) := ⟨(blk_alloc (by simpa using heap_alloc_new (((w.alloc (.cells #[.int .i64 a0_0, .int .i64 a0_1, .int .i64 a3_2, .slice A0_3 l0_3.length c0_3] 28)).alloc (.cells #[.int .i64 a1] 3)).alloc (.cells #[.int .i64 a2] 3)) (.cells #[.int .i64 a3_0, .int .i64 a3_1, .int .i64 a3_2, .slice A3_3 l3_3.length c3_3] 28)) _)⟩
  have BZ : Aside0 ((((((w.alloc (.cells #[.int .i64 a0_0, .int .i64 a0_1, .int .i64 a3_2, .slice A0_3 l0_3.length c0_3] 28)).alloc (.cells #[.int .i64 a1] 3)).alloc (.cells #[.int .i64 a2] 3)).alloc (.cells #[.int .i64 a3_0, .int .i64 a3_1, .int .i64 a3_2, .slice A3_3 l3_3.length c3_3] 28)).alloc (.cells #[.int .i64 0, .int .i64 0, .int .i64 0, .slice none 0 0] 28)).heap[w.heap.size + 4]? = some (.cells #[.int .i64 0, .int .i64 0, .int .i64 0, .slice none 0 0] 28 (0, 0))) := ⟨(by simpa using heap_alloc_new ((((w.alloc (.cells #[.int .i64 a0_0, .int .i64 a0_1, .int .i64 a3_2, .slice A0_3 l0_3.length c0_3] 28)).alloc (.cells #[.int .i64 a1] 3)).alloc (.cells #[.int .i64 a2] 3)).alloc (.cells #[.int .i64 a3_0, .int .i64 a3_1, .int .i64 a3_2, .slice A3_3 l3_3.length c3_3] 28)) (.cells #[.int .i64 0, .int .i64 0, .int .i64 0, .slice none 0 0] 28))⟩
  have HB : Aside0 (Below w.heap.size w (((((w.alloc (.cells #[.int .i64 a0_0, .int .i64 a0_1, .int .i64 a3_2, .slice A0_3 l0_3.length c0_3] 28)).alloc (.cells #[.int .i64 a1] 3)).alloc (.cells #[.int .i64 a2] 3)).alloc (.cells #[.int .i64 a3_0, .int .i64 a3_1, .int .i64 a3_2, .slice A3_3 l3_3.length c3_3] 28)).alloc (.cells #[.int .i64 0, .int .i64 0, .int .i64 0, .slice none 0 0] 28))) := ⟨(below_alloc (below_alloc (below_alloc (below_alloc (below_alloc (Below.refl _ _) _) _) _) _) _)⟩
  clear hv hq hr0_3 hc0_3 hr3_3 hc3_3
  go_enter Try.func18, Try.ntmps18
  go_wp2_with fail
  refine (H1.out _ HB.out).mono ?_
  rintro e w1 ⟨rfl, hb1⟩
  have n0_ := Aside0.mk (blk_below BM.out hb1)
  have n1_ := Aside0.mk (blk_below BX.out hb1)
  have n2_ := Aside0.mk (blk_below BY.out hb1)
  have n3_ := Aside0.mk (blk_below BP.out hb1)
  have n4_ := Aside0.mk (blk_below BZ.out hb1)
  have nb_ := Aside0.mk (below_step HB.out hb1)
  clear BM BX BY BP BZ HB hb1
  have BM := n0_
  have BX := n1_
  have BY := n2_
  have BP := n3_
  have BZ := n4_
  have HB := nb_
  clear n0_ n1_ n2_ n3_ n4_ nb_
  have hcBM0 := B.bc BM 0
  have hcBM1 := B.bc BM 1
  have hcBM2 := B.bc BM 2
  have hcBM3 := B.bc BM 3
  have hcBX0 := B.bc BX 0
  have hcBY0 := B.bc BY 0
  have hcBP0 := B.bc BP 0
  have hcBP1 := B.bc BP 1
  have hcBP2 := B.bc BP 2
  have hcBP3 := B.bc BP 3
  go_wp2_with fail
  refine (H2.out _ HB.out).mono ?_
  rintro e w2 ⟨rfl, hb2⟩
  clear hcBM0 hcBM1 hcBM2 hcBM3
  clear hcBX0
  clear hcBY0
  clear hcBP0 hcBP1 hcBP2 hcBP3
  have n0_ := Aside0.mk (blk_below BM.out hb2)
  have n1_ := Aside0.mk (blk_below BX.out hb2)
  have n2_ := Aside0.mk (blk_below BY.out hb2)
  have n3_ := Aside0.mk (blk_below BP.out hb2)
  have n4_ := Aside0.mk (blk_below BZ.out hb2)
  have nb_ := Aside0.mk (below_step HB.out hb2)
  clear BM BX BY BP BZ HB hb2
  have BM := n0_
  have BX := n1_
  have BY := n2_
  have BP := n3_
  have BZ := n4_
  have HB := nb_
  clear n0_ n1_ n2_ n3_ n4_ nb_
  have hcBM0 := B.bc BM 0
  have hcBM1 := B.bc BM 1
  have hcBM2 := B.bc BM 2
  have hcBM3 := B.bc BM 3
  have hcBX0 := B.bc BX 0
  have hcBY0 := B.bc BY 0
  have hcBP0 := B.bc BP 0
  have hcBP1 := B.bc BP 1
  have hcBP2 := B.bc BP 2
  have hcBP3 := B.bc BP 3
  have hcBZ0 := B.bc BZ 0
  have hcBZ1 := B.bc BZ 1
  have hcBZ2 := B.bc BZ 2
  have hcBZ3 := B.bc BZ 3
  have hfBZ0 := blk_frozen BZ.out 0
  have hfBZ1 := blk_frozen BZ.out 1
  have hfBZ2 := blk_frozen BZ.out 2
  have hfBZ3 := blk_frozen BZ.out 3
  go_wp2
  refine bodyPost_ret (results_ct rfl _ _ (w.heap.size + 4) 28 #[.int .i64 0, .int .i64 0, .int .i64 0, .slice none 0 0] (0, 0) _ rfl (by first | exact BZ.out | (refine blk_put (cs := #[.int .i64 0, .int .i64 0, .int .i64 0, .slice none 0 0]) ?_ 3 _ rfl; refine blk_put (cs := #[.int .i64 0, .int .i64 0, .int .i64 0, .slice none 0 0]) ?_ 2 _ rfl; refine blk_put (cs := #[.int .i64 0, .int .i64 0, .int .i64 0, .slice none 0 0]) ?_ 1 _ rfl; refine blk_put (cs := #[.int .i64 0, .int .i64 0, .int .i64 0, .slice none 0 0]) ?_ 0 _ rfl; exact BZ.out)) Try.underlying28 rfl (by kernel_rfl)) rfl ?_
  exact ⟨_, by first | rfl | (simp; done), Kd.R_nil _ _ _ _ _, by first | exact HB.out | exact (below_set (below_set (below_set (below_set HB.out (by omega)) (by omega)) (by omega)) (by omega))⟩
set_option maxHeartbeats 4000000 in
theorem paste_x1 (a0_0 : Int) (a0_1 : Int) (a0_2 : Int) (A0_3 : Option Addr) (c0_3 : Nat) (l0_3 : List Int) (a1 : Int) (a2 : Int) (a3_0 : Int) (a3_1 : Int) (a3_2 : Int) (A3_3 : Option Addr) (c3_3 : Nat) (l3_3 : List Int) (w : World) (hr0_3 : Kd.C (Kd.int .i64) w A0_3 l0_3.length l0_3) (hc0_3 : l0_3.length ≤ c0_3) (hr3_3 : Kd.C (Kd.int .i64) w A3_3 l3_3.length l3_3) (hc3_3 : l3_3.length ≤ c3_3) (hv : B.okImg a0_0 a0_1 a0_2 l0_3 = true) (hq : B.okImg a3_0 a3_1 a3_2 l3_3 = true) (t0 : a3_2 = a0_2) (t1 : ¬ a1 < -16) (t2 : 16 < a1) :
    Calls Try.prog 18 #[.agg #[.int .i64 a0_0, .int .i64 a0_1, .int .i64 a0_2, .slice A0_3 l0_3.length c0_3], .int .i64 a1, .int .i64 a2, .agg #[.int .i64 a3_0, .int .i64 a3_1, .int .i64 a3_2, .slice A3_3 l3_3.length c3_3]] w fun e w' => ∃ v3_ : Value, e = .returned (.tuple #[.agg #[.int .i64 0, .int .i64 0, .int .i64 0, v3_], .bool false]) ∧ Kd.R (Kd.int .i64) 3 w' w.heap.size (fun _ => True) v3_ [] ∧ Below w.heap.size w w' := by
  subst t0
  have hu28 := Try.underlying28
  have H1 := Aside0.mk (fun (W : World) (hW : Below w.heap.size w W) => impl_isImage.calls a0_0 a0_1 a3_2 A0_3 c0_3 l0_3 true W (Kd.C_below hr0_3 hW) hc0_3 (by rw [isImage_ok, hv]))
  have H2 := Aside0.mk (fun (W : World) (hW : Below w.heap.size w W) => impl_isImage.calls a3_0 a3_1 a3_2 A3_3 c3_3 l3_3 true W (Kd.C_below hr3_3 hW) hc3_3 (by rw [isImage_ok, hq]))
  have u1 : decide (a1 < -16) = false := decide_eq_false t1
  clear t1
  have u2 : decide (16 < a1) = true := decide_eq_true t2
  clear t2
  have BM : Aside0 ((((((w.alloc (.cells #[.int .i64 a0_0, .int .i64 a0_1, .int .i64 a3_2, .slice A0_3 l0_3.length c0_3] 28)).alloc (.cells #[.int .i64 a1] 3)).alloc (.cells #[.int .i64 a2] 3)).alloc (.cells #[.int .i64 a3_0, .int .i64 a3_1, .int .i64 a3_2, .slice A3_3 l3_3.length c3_3] 28)).alloc (.cells #[.int .i64 0, .int .i64 0, .int .i64 0, .slice none 0 0] 28)).heap[w.heap.size]? = some (.cells #[.int .i64 a0_0, .int .i64 a0_1, .int .i64 a3_2, .slice A0_3 l0_3.length c0_3] 28 (0, 0))) := ⟨(blk_alloc (blk_alloc (blk_alloc (blk_alloc (heap_alloc_new w (.cells #[.int .i64 a0_0, .int .i64 a0_1, .int .i64 a3_2, .slice A0_3 l0_3.length c0_3] 28)) _) _) _) _)⟩
  have BX : Aside0 ((((((w.alloc (.cells #[.int .i64 a0_0, .int .i64 a0_1, .int .i64 a3_2, .slice A0_3 l0_3.length c0_3] 28)).alloc (.cells #[.int .i64 a1] 3)).alloc (.cells #[.int .i64 a2] 3)).alloc (.cells #[.int .i64 a3_0, .int .i64 a3_1, .int .i64 a3_2, .slice A3_3 l3_3.length c3_3] 28)).alloc (.cells #[.int .i64 0, .int .i64 0, .int .i64 0, .slice none 0 0] 28)).heap[w.heap.size + 1]? = some (.cells #[.int .i64 a1] 3 (0, 0))) := ⟨(blk_alloc (blk_alloc (blk_alloc (by simpa using heap_alloc_new (w.alloc (.cells #[.int .i64 a0_0, .int .i64 a0_1, .int .i64 a3_2, .slice A0_3 l0_3.length c0_3] 28)) (.cells #[.int .i64 a1] 3)) _) _) _)⟩
  have BY : Aside0 ((((((w.alloc (.cells #[.int .i64 a0_0, .int .i64 a0_1, .int .i64 a3_2, .slice A0_3 l0_3.length c0_3] 28)).alloc (.cells #[.int .i64 a1] 3)).alloc (.cells #[.int .i64 a2] 3)).alloc (.cells #[.int .i64 a3_0, .int .i64 a3_1, .int .i64 a3_2, .slice A3_3 l3_3.length c3_3] 28)).alloc (.cells #[.int .i64 0, .int .i64 0, .int .i64 0, .slice none 0 0] 28)).heap[w.heap.size + 2]? = some (.cells #[.int .i64 a2] 3 (0, 0))) := ⟨(blk_alloc (blk_alloc (by simpa using heap_alloc_new ((w.alloc (.cells #[.int .i64 a0_0, .int .i64 a0_1, .int .i64 a3_2, .slice A0_3 l0_3.length c0_3] 28)).alloc (.cells #[.int .i64 a1] 3)) (.cells #[.int .i64 a2] 3)) _) _)⟩
  have BP : Aside0 ((((((w.alloc (.cells #[.int .i64 a0_0, .int .i64 a0_1, .int .i64 a3_2, .slice A0_3 l0_3.length c0_3] 28)).alloc (.cells #[.int .i64 a1] 3)).alloc (.cells #[.int .i64 a2] 3)).alloc (.cells #[.int .i64 a3_0, .int .i64 a3_1, .int .i64 a3_2, .slice A3_3 l3_3.length c3_3] 28)).alloc (.cells #[.int .i64 0, .int .i64 0, .int .i64 0, .slice none 0 0] 28)).heap[w.heap.size + 3]? = some (.cells #[.int .i64 a3_0, .int .i64 a3_1, .int .i64 a3_2, .slice A3_3 l3_3.length c3_3] 28 (0, 0))) := ⟨(blk_alloc (by simpa using heap_alloc_new (((w.alloc (.cells #[.int .i64 a0_0, .int .i64 a0_1, .int .i64 a3_2, .slice A0_3 l0_3.length c0_3] 28)).alloc (.cells #[.int .i64 a1] 3)).alloc (.cells #[.int .i64 a2] 3)) (.cells #[.int .i64 a3_0, .int .i64 a3_1, .int .i64 a3_2, .slice A3_3 l3_3.length c3_3] 28)) _)⟩
  have BZ : Aside0 ((((((w.alloc (.cells #[.int .i64 a0_0, .int .i64 a0_1, .int .i64 a3_2, .slice A0_3 l0_3.length c0_3] 28)).alloc (.cells #[.int .i64 a1] 3)).alloc (.cells #[.int .i64 a2] 3)).alloc (.cells #[.int .i64 a3_0, .int .i64 a3_1, .int .i64 a3_2, .slice A3_3 l3_3.length c3_3] 28)).alloc (.cells #[.int .i64 0, .int .i64 0, .int .i64 0, .slice none 0 0] 28)).heap[w.heap.size + 4]? = some (.cells #[.int .i64 0, .int .i64 0, .int .i64 0, .slice none 0 0] 28 (0, 0))) := ⟨(by simpa using heap_alloc_new ((((w.alloc (.cells #[.int .i64 a0_0, .int .i64 a0_1, .int .i64 a3_2, .slice A0_3 l0_3.length c0_3] 28)).alloc (.cells #[.int .i64 a1] 3)).alloc (.cells #[.int .i64 a2] 3)).alloc (.cells #[.int .i64 a3_0, .int .i64 a3_1, .int .i64 a3_2, .slice A3_3 l3_3.length c3_3] 28)) (.cells #[.int .i64 0, .int .i64 0, .int .i64 0, .slice none 0 0] 28))⟩
  have HB : Aside0 (Below w.heap.size w (((((w.alloc (.cells #[.int .i64 a0_0, .int .i64 a0_1, .int .i64 a3_2, .slice A0_3 l0_3.length c0_3] 28)).alloc (.cells #[.int .i64 a1] 3)).alloc (.cells #[.int .i64 a2] 3)).alloc (.cells #[.int .i64 a3_0, .int .i64 a3_1, .int .i64 a3_2, .slice A3_3 l3_3.length c3_3] 28)).alloc (.cells #[.int .i64 0, .int .i64 0, .int .i64 0, .slice none 0 0] 28))) := ⟨(below_alloc (below_alloc (below_alloc (below_alloc (below_alloc (Below.refl _ _) _) _) _) _) _)⟩
  clear hv hq hr0_3 hc0_3 hr3_3 hc3_3
  go_enter Try.func18, Try.ntmps18
  go_wp2_with fail
  refine (H1.out _ HB.out).mono ?_
  rintro e w1 ⟨rfl, hb1⟩
  have n0_ := Aside0.mk (blk_below BM.out hb1)
  have n1_ := Aside0.mk (blk_below BX.out hb1)
  have n2_ := Aside0.mk (blk_below BY.out hb1)
  have n3_ := Aside0.mk (blk_below BP.out hb1)
  have n4_ := Aside0.mk (blk_below BZ.out hb1)
  have nb_ := Aside0.mk (below_step HB.out hb1)
  clear BM BX BY BP BZ HB hb1
  have BM := n0_
  have BX := n1_
  have BY := n2_
  have BP := n3_
  have BZ := n4_
  have HB := nb_
  clear n0_ n1_ n2_ n3_ n4_ nb_
  have hcBM0 := B.bc BM 0
  have hcBM1 := B.bc BM 1
  have hcBM2 := B.bc BM 2
  have hcBM3 := B.bc BM 3
  have hcBX0 := B.bc BX 0
  have hcBY0 := B.bc BY 0
  have hcBP0 := B.bc BP 0
  have hcBP1 := B.bc BP 1
  have hcBP2 := B.bc BP 2
  have hcBP3 := B.bc BP 3
  go_wp2_with fail
  refine (H2.out _ HB.out).mono ?_
  rintro e w2 ⟨rfl, hb2⟩
  clear hcBM0 hcBM1 hcBM2 hcBM3
  clear hcBX0
  clear hcBY0
  clear hcBP0 hcBP1 hcBP2 hcBP3
  have n0_ := Aside0.mk (blk_below BM.out hb2)
  have n1_ := Aside0.mk (blk_below BX.out hb2)
  have n2_ := Aside0.mk (blk_below BY.out hb2)
  have n3_ := Aside0.mk (blk_below BP.out hb2)
  have n4_ := Aside0.mk (blk_below BZ.out hb2)
  have nb_ := Aside0.mk (below_step HB.out hb2)
  clear BM BX BY BP BZ HB hb2
  have BM := n0_
  have BX := n1_
  have BY := n2_
  have BP := n3_
  have BZ := n4_
  have HB := nb_
  clear n0_ n1_ n2_ n3_ n4_ nb_
  have hcBM0 := B.bc BM 0
  have hcBM1 := B.bc BM 1
  have hcBM2 := B.bc BM 2
  have hcBM3 := B.bc BM 3
  have hcBX0 := B.bc BX 0
  have hcBY0 := B.bc BY 0
  have hcBP0 := B.bc BP 0
  have hcBP1 := B.bc BP 1
  have hcBP2 := B.bc BP 2
  have hcBP3 := B.bc BP 3
  have hcBZ0 := B.bc BZ 0
  have hcBZ1 := B.bc BZ 1
  have hcBZ2 := B.bc BZ 2
  have hcBZ3 := B.bc BZ 3
  have hfBZ0 := blk_frozen BZ.out 0
  have hfBZ1 := blk_frozen BZ.out 1
  have hfBZ2 := blk_frozen BZ.out 2
  have hfBZ3 := blk_frozen BZ.out 3
  go_wp2
  refine bodyPost_ret (results_ct rfl _ _ (w.heap.size + 4) 28 #[.int .i64 0, .int .i64 0, .int .i64 0, .slice none 0 0] (0, 0) _ rfl (by first | exact BZ.out | (refine blk_put (cs := #[.int .i64 0, .int .i64 0, .int .i64 0, .slice none 0 0]) ?_ 3 _ rfl; refine blk_put (cs := #[.int .i64 0, .int .i64 0, .int .i64 0, .slice none 0 0]) ?_ 2 _ rfl; refine blk_put (cs := #[.int .i64 0, .int .i64 0, .int .i64 0, .slice none 0 0]) ?_ 1 _ rfl; refine blk_put (cs := #[.int .i64 0, .int .i64 0, .int .i64 0, .slice none 0 0]) ?_ 0 _ rfl; exact BZ.out)) Try.underlying28 rfl (by kernel_rfl)) rfl ?_
  exact ⟨_, by first | rfl | (simp; done), Kd.R_nil _ _ _ _ _, by first | exact HB.out | exact (below_set (below_set (below_set (below_set HB.out (by omega)) (by omega)) (by omega)) (by omega))⟩
set_option maxHeartbeats 4000000 in
theorem paste_y0 (a0_0 : Int) (a0_1 : Int) (a0_2 : Int) (A0_3 : Option Addr) (c0_3 : Nat) (l0_3 : List Int) (a1 : Int) (a2 : Int) (a3_0 : Int) (a3_1 : Int) (a3_2 : Int) (A3_3 : Option Addr) (c3_3 : Nat) (l3_3 : List Int) (w : World) (hr0_3 : Kd.C (Kd.int .i64) w A0_3 l0_3.length l0_3) (hc0_3 : l0_3.length ≤ c0_3) (hr3_3 : Kd.C (Kd.int .i64) w A3_3 l3_3.length l3_3) (hc3_3 : l3_3.length ≤ c3_3) (hv : B.okImg a0_0 a0_1 a0_2 l0_3 = true) (hq : B.okImg a3_0 a3_1 a3_2 l3_3 = true) (t0 : a3_2 = a0_2) (t1 : ¬ a1 < -16) (t2 : ¬ 16 < a1) (t3 : a2 < -16) :
    Calls Try.prog 18 #[.agg #[.int .i64 a0_0, .int .i64 a0_1, .int .i64 a0_2, .slice A0_3 l0_3.length c0_3], .int .i64 a1, .int .i64 a2, .agg #[.int .i64 a3_0, .int .i64 a3_1, .int .i64 a3_2, .slice A3_3 l3_3.length c3_3]] w fun e w' => ∃ v3_ : Value, e = .returned (.tuple #[.agg #[.int .i64 0, .int .i64 0, .int .i64 0, v3_], .bool false]) ∧ Kd.R (Kd.int .i64) 3 w' w.heap.size (fun _ => True) v3_ [] ∧ Below w.heap.size w w' := by
  subst t0
  have hu28 := Try.underlying28
  have H1 := Aside0.mk (fun (W : World) (hW : Below w.heap.size w W) => impl_isImage.calls a0_0 a0_1 a3_2 A0_3 c0_3 l0_3 true W (Kd.C_below hr0_3 hW) hc0_3 (by rw [isImage_ok, hv]))
  have H2 := Aside0.mk (fun (W : World) (hW : Below w.heap.size w W) => impl_isImage.calls a3_0 a3_1 a3_2 A3_3 c3_3 l3_3 true W (Kd.C_below hr3_3 hW) hc3_3 (by rw [isImage_ok, hq]))
  have u1 : decide (a1 < -16) = false := decide_eq_false t1
  clear t1
  have u2 : decide (16 < a1) = false := decide_eq_false t2
  clear t2
  have u3 : decide (a2 < -16) = true := decide_eq_true t3
  clear t3
  have BM : Aside0 ((((((w.alloc (.cells #[.int .i64 a0_0, .int .i64 a0_1, .int .i64 a3_2, .slice A0_3 l0_3.length c0_3] 28)).alloc (.cells #[.int .i64 a1] 3)).alloc (.cells #[.int .i64 a2] 3)).alloc (.cells #[.int .i64 a3_0, .int .i64 a3_1, .int .i64 a3_2, .slice A3_3 l3_3.length c3_3] 28)).alloc (.cells #[.int .i64 0, .int .i64 0, .int .i64 0, .slice none 0 0] 28)).heap[w.heap.size]? = some (.cells #[.int .i64 a0_0, .int .i64 a0_1, .int .i64 a3_2, .slice A0_3 l0_3.length c0_3] 28 (0, 0))) := ⟨(blk_alloc (blk_alloc (blk_alloc (blk_alloc (heap_alloc_new w (.cells #[.int .i64 a0_0, .int .i64 a0_1, .int .i64 a3_2, .slice A0_3 l0_3.length c0_3] 28)) _) _) _) _)⟩
  have BX : Aside0 ((((((w.alloc (.cells #[.int .i64 a0_0, .int .i64 a0_1, .int .i64 a3_2, .slice A0_3 l0_3.length c0_3] 28)).alloc (.cells #[.int .i64 a1] 3)).alloc (.cells #[.int .i64 a2] 3)).alloc (.cells #[.int .i64 a3_0, .int .i64 a3_1, .int .i64 a3_2, .slice A3_3 l3_3.length c3_3] 28)).alloc (.cells #[.int .i64 0, .int .i64 0, .int .i64 0, .slice none 0 0] 28)).heap[w.heap.size + 1]? = some (.cells #[.int .i64 a1] 3 (0, 0))) := ⟨(blk_alloc (blk_alloc (blk_alloc (by simpa using heap_alloc_new (w.alloc (.cells #[.int .i64 a0_0, .int .i64 a0_1, .int .i64 a3_2, .slice A0_3 l0_3.length c0_3] 28)) (.cells #[.int .i64 a1] 3)) _) _) _)⟩
  have BY : Aside0 ((((((w.alloc (.cells #[.int .i64 a0_0, .int .i64 a0_1, .int .i64 a3_2, .slice A0_3 l0_3.length c0_3] 28)).alloc (.cells #[.int .i64 a1] 3)).alloc (.cells #[.int .i64 a2] 3)).alloc (.cells #[.int .i64 a3_0, .int .i64 a3_1, .int .i64 a3_2, .slice A3_3 l3_3.length c3_3] 28)).alloc (.cells #[.int .i64 0, .int .i64 0, .int .i64 0, .slice none 0 0] 28)).heap[w.heap.size + 2]? = some (.cells #[.int .i64 a2] 3 (0, 0))) := ⟨(blk_alloc (blk_alloc (by simpa using heap_alloc_new ((w.alloc (.cells #[.int .i64 a0_0, .int .i64 a0_1, .int .i64 a3_2, .slice A0_3 l0_3.length c0_3] 28)).alloc (.cells #[.int .i64 a1] 3)) (.cells #[.int .i64 a2] 3)) _) _)⟩
  have BP : Aside0 ((((((w.alloc (.cells #[.int .i64 a0_0, .int .i64 a0_1, .int .i64 a3_2, .slice A0_3 l0_3.length c0_3] 28)).alloc (.cells #[.int .i64 a1] 3)).alloc (.cells #[.int .i64 a2] 3)).alloc (.cells #[.int .i64 a3_0, .int .i64 a3_1, .int .i64 a3_2, .slice A3_3 l3_3.length c3_3] 28)).alloc (.cells #[.int .i64 0, .int .i64 0, .int .i64 0, .slice none 0 0] 28)).heap[w.heap.size + 3]? = some (.cells #[.int .i64 a3_0, .int .i64 a3_1, .int .i64 a3_2, .slice A3_3 l3_3.length c3_3] 28 (0, 0))) := ⟨(blk_alloc (by simpa using heap_alloc_new (((w.alloc (.cells #[.int .i64 a0_0, .int .i64 a0_1, .int .i64 a3_2, .slice A0_3 l0_3.length c0_3] 28)).alloc (.cells #[.int .i64 a1] 3)).alloc (.cells #[.int .i64 a2] 3)) (.cells #[.int .i64 a3_0, .int .i64 a3_1, .int .i64 a3_2, .slice A3_3 l3_3.length c3_3] 28)) _)⟩
  have BZ : Aside0 ((((((w.alloc (.cells #[.int .i64 a0_0, .int .i64 a0_1, .int .i64 a3_2, .slice A0_3 l0_3.length c0_3] 28)).alloc (.cells #[.int .i64 a1] 3)).alloc (.cells #[.int .i64 a2] 3)).alloc (.cells #[.int .i64 a3_0, .int .i64 a3_1, .int .i64 a3_2, .slice A3_3 l3_3.length c3_3] 28)).alloc (.cells #[.int .i64 0, .int .i64 0, .int .i64 0, .slice none 0 0] 28)).heap[w.heap.size + 4]? = some (.cells #[.int .i64 0, .int .i64 0, .int .i64 0, .slice none 0 0] 28 (0, 0))) := ⟨(by simpa using heap_alloc_new ((((w.alloc (.cells #[.int .i64 a0_0, .int .i64 a0_1, .int .i64 a3_2, .slice A0_3 l0_3.length c0_3] 28)).alloc (.cells #[.int .i64 a1] 3)).alloc (.cells #[.int .i64 a2] 3)).alloc (.cells #[.int .i64 a3_0, .int .i64 a3_1, .int .i64 a3_2, .slice A3_3 l3_3.length c3_3] 28)) (.cells #[.int .i64 0, .int .i64 0, .int .i64 0, .slice none 0 0] 28))⟩
  have HB : Aside0 (Below w.heap.size w (((((w.alloc (.cells #[.int .i64 a0_0, .int .i64 a0_1, .int .i64 a3_2, .slice A0_3 l0_3.length c0_3] 28)).alloc (.cells #[.int .i64 a1] 3)).alloc (.cells #[.int .i64 a2] 3)).alloc (.cells #[.int .i64 a3_0, .int .i64 a3_1, .int .i64 a3_2, .slice A3_3 l3_3.length c3_3] 28)).alloc (.cells #[.int .i64 0, .int .i64 0, .int .i64 0, .slice none 0 0] 28))) := ⟨(below_alloc (below_alloc (below_alloc (below_alloc (below_alloc (Below.refl _ _) _) _) _) _) _)⟩
  clear hv hq hr0_3 hc0_3 hr3_3 hc3_3
  go_enter Try.func18, Try.ntmps18
  go_wp2_with fail
  refine (H1.out _ HB.out).mono ?_
  rintro e w1 ⟨rfl, hb1⟩
  have n0_ := Aside0.mk (blk_below BM.out hb1)
  have n1_ := Aside0.mk (blk_below BX.out hb1)
  have n2_ := Aside0.mk (blk_below BY.out hb1)
  have n3_ := Aside0.mk (blk_below BP.out hb1)
  have n4_ := Aside0.mk (blk_below BZ.out hb1)
  have nb_ := Aside0.mk (below_step HB.out hb1)
  clear BM BX BY BP BZ HB hb1
  have BM := n0_
  have BX := n1_
  have BY := n2_
  have BP := n3_
  have BZ := n4_
  have HB := nb_
  clear n0_ n1_ n2_ n3_ n4_ nb_
  have hcBM0 := B.bc BM 0
  have hcBM1 := B.bc BM 1
  have hcBM2 := B.bc BM 2
  have hcBM3 := B.bc BM 3
  have hcBX0 := B.bc BX 0
  have hcBY0 := B.bc BY 0
  have hcBP0 := B.bc BP 0
  have hcBP1 := B.bc BP 1
  have hcBP2 := B.bc BP 2
  have hcBP3 := B.bc BP 3
  go_wp2_with fail
  refine (H2.out _ HB.out).mono ?_
  rintro e w2 ⟨rfl, hb2⟩
  clear hcBM0 hcBM1 hcBM2 hcBM3
  clear hcBX0
  clear hcBY0
  clear hcBP0 hcBP1 hcBP2 hcBP3
  have n0_ := Aside0.mk (blk_below BM.out hb2)
  have n1_ := Aside0.mk (blk_below BX.out hb2)
  have n2_ := Aside0.mk (blk_below BY.out hb2)
  have n3_ := Aside0.mk (blk_below BP.out hb2)
  have n4_ := Aside0.mk (blk_below BZ.out hb2)
  have nb_ := Aside0.mk (below_step HB.out hb2)
  clear BM BX BY BP BZ HB hb2
  have BM := n0_
  have BX := n1_
  have BY := n2_
  have BP := n3_
  have BZ := n4_
  have HB := nb_
  clear n0_ n1_ n2_ n3_ n4_ nb_
  have hcBM0 := B.bc BM 0
  have hcBM1 := B.bc BM 1
  have hcBM2 := B.bc BM 2
  have hcBM3 := B.bc BM 3
  have hcBX0 := B.bc BX 0
  have hcBY0 := B.bc BY 0
  have hcBP0 := B.bc BP 0
  have hcBP1 := B.bc BP 1
  have hcBP2 := B.bc BP 2
  have hcBP3 := B.bc BP 3
  have hcBZ0 := B.bc BZ 0
  have hcBZ1 := B.bc BZ 1
  have hcBZ2 := B.bc BZ 2
  have hcBZ3 := B.bc BZ 3
  have hfBZ0 := blk_frozen BZ.out 0
  have hfBZ1 := blk_frozen BZ.out 1
  have hfBZ2 := blk_frozen BZ.out 2
  have hfBZ3 := blk_frozen BZ.out 3
  go_wp2
  refine bodyPost_ret (results_ct rfl _ _ (w.heap.size + 4) 28 #[.int .i64 0, .int .i64 0, .int .i64 0, .slice none 0 0] (0, 0) _ rfl (by first | exact BZ.out | (refine blk_put (cs := #[.int .i64 0, .int .i64 0, .int .i64 0, .slice none 0 0]) ?_ 3 _ rfl; refine blk_put (cs := #[.int .i64 0, .int .i64 0, .int .i64 0, .slice none 0 0]) ?_ 2 _ rfl; refine blk_put (cs := #[.int .i64 0, .int .i64 0, .int .i64 0, .slice none 0 0]) ?_ 1 _ rfl; refine blk_put (cs := #[.int .i64 0, .int .i64 0, .int .i64 0, .slice none 0 0]) ?_ 0 _ rfl; exact BZ.out)) Try.underlying28 rfl (by kernel_rfl)) rfl ?_
  exact ⟨_, by first | rfl | (simp; done), Kd.R_nil _ _ _ _ _, by first | exact HB.out | exact (below_set (below_set (below_set (below_set HB.out (by omega)) (by omega)) (by omega)) (by omega))⟩
set_option maxHeartbeats 4000000 in
theorem paste_y1 (a0_0 : Int) (a0_1 : Int) (a0_2 : Int) (A0_3 : Option Addr) (c0_3 : Nat) (l0_3 : List Int) (a1 : Int) (a2 : Int) (a3_0 : Int) (a3_1 : Int) (a3_2 : Int) (A3_3 : Option Addr) (c3_3 : Nat) (l3_3 : List Int) (w : World) (hr0_3 : Kd.C (Kd.int .i64) w A0_3 l0_3.length l0_3) (hc0_3 : l0_3.length ≤ c0_3) (hr3_3 : Kd.C (Kd.int .i64) w A3_3 l3_3.length l3_3) (hc3_3 : l3_3.length ≤ c3_3) (hv : B.okImg a0_0 a0_1 a0_2 l0_3 = true) (hq : B.okImg a3_0 a3_1 a3_2 l3_3 = true) (t0 : a3_2 = a0_2) (t1 : ¬ a1 < -16) (t2 : ¬ 16 < a1) (t3 : ¬ a2 < -16) (t4 : 16 < a2) :
    Calls Try.prog 18 #[.agg #[.int .i64 a0_0, .int .i64 a0_1, .int .i64 a0_2, .slice A0_3 l0_3.length c0_3], .int .i64 a1, .int .i64 a2, .agg #[.int .i64 a3_0, .int .i64 a3_1, .int .i64 a3_2, .slice A3_3 l3_3.length c3_3]] w fun e w' => ∃ v3_ : Value, e = .returned (.tuple #[.agg #[.int .i64 0, .int .i64 0, .int .i64 0, v3_], .bool false]) ∧ Kd.R (Kd.int .i64) 3 w' w.heap.size (fun _ => True) v3_ [] ∧ Below w.heap.size w w' := by
  subst t0
  have hu28 := Try.underlying28
  have H1 := Aside0.mk (fun (W : World) (hW : Below w.heap.size w W) => impl_isImage.calls a0_0 a0_1 a3_2 A0_3 c0_3 l0_3 true W (Kd.C_below hr0_3 hW) hc0_3 (by rw [isImage_ok, hv]))
  have H2 := Aside0.mk (fun (W : World) (hW : Below w.heap.size w W) => impl_isImage.calls a3_0 a3_1 a3_2 A3_3 c3_3 l3_3 true W (Kd.C_below hr3_3 hW) hc3_3 (by rw [isImage_ok, hq]))
  have u1 : decide (a1 < -16) = false := decide_eq_false t1
  clear t1
  have u2 : decide (16 < a1) = false := decide_eq_false t2
  clear t2
  have u3 : decide (a2 < -16) = false := decide_eq_false t3
  clear t3
  have u4 : decide (16 < a2) = true := decide_eq_true t4
  clear t4
  have BM : Aside0 ((((((w.alloc (.cells #[.int .i64 a0_0, .int .i64 a0_1, .int .i64 a3_2, .slice A0_3 l0_3.length c0_3] 28)).alloc (.cells #[.int .i64 a1] 3)).alloc (.cells #[.int .i64 a2] 3)).alloc (.cells #[.int .i64 a3_0, .int .i64 a3_1, .int .i64 a3_2, .slice A3_3 l3_3.length c3_3] 28)).alloc (.cells #[.int .i64 0, .int .i64 0, .int .i64 0, .slice none 0 0] 28)).heap[w.heap.size]? = some (.cells #[.int .i64 a0_0, .int .i64 a0_1, .int .i64 a3_2, .slice A0_3 l0_3.length c0_3] 28 (0, 0))) := ⟨(blk_alloc (blk_alloc (blk_alloc (blk_alloc (heap_alloc_new w (.cells #[.int .i64 a0_0, .int .i64 a0_1, .int .i64 a3_2, .slice A0_3 l0_3.length c0_3] 28)) _) _) _) _)⟩
  have BX : Aside0 ((((((w.alloc (.cells #[.int .i64 a0_0, .int .i64 a0_1, .int .i64 a3_2, .slice A0_3 l0_3.length c0_3] 28)).alloc (.cells #[.int .i64 a1] 3)).alloc (.cells #[.int .i64 a2] 3)).alloc (.cells #[.int .i64 a3_0, .int .i64 a3_1, .int .i64 a3_2, .slice A3_3 l3_3.length c3_3] 28)).alloc (.cells #[.int .i64 0, .int .i64 0, .int .i64 0, .slice none 0 0] 28)).heap[w.heap.size + 1]? = some (.cells #[.int .i64 a1] 3 (0, 0))) := ⟨(blk_alloc (blk_alloc (blk_alloc (by simpa using heap_alloc_new (w.alloc (.cells #[.int .i64 a0_0, .int .i64 a0_1, .int .i64 a3_2, .slice A0_3 l0_3.length c0_3] 28)) (.cells #[.int .i64 a1] 3)) _) _) _)⟩
  have BY : Aside0 ((((((w.alloc (.cells #[.int .i64 a0_0, .int .i64 a0_1, .int .i64 a3_2, .slice A0_3 l0_3.length c0_3] 28)).alloc (.cells #[.int .i64 a1] 3)).alloc (.cells #[.int .i64 a2] 3)).alloc (.cells #[.int .i64 a3_0, .int .i64 a3_1, .int .i64 a3_2, .slice A3_3 l3_3.length c3_3] 28)).alloc (.cells #[.int .i64 0, .int .i64 0, .int .i64 0, .slice none 0 0] 28)).heap[w.heap.size + 2]? = some (.cells #[.int .i64 a2] 3 (0, 0))) := ⟨(blk_alloc (blk_alloc (by simpa using heap_alloc_new ((w.alloc (.cells #[.int .i64 a0_0, .int .i64 a0_1, .int .i64 a3_2, .slice A0_3 l0_3.length c0_3] 28)).alloc (.cells #[.int .i64 a1] 3)) (.cells #[.int .i64 a2] 3)) _) _)⟩
  have BP : Aside0 ((((((w.alloc (.cells #[.int .i64 a0_0, .int .i64 a0_1, .int .i64 a3_2, .slice A0_3 l0_3.length c0_3] 28)).alloc (.cells #[.int .i64 a1] 3)).alloc (.cells #[.int .i64 a2] 3)).alloc (.cells #[.int .i64 a3_0, .int .i64 a3_1, .int .i64 a3_2, .slice A3_3 l3_3.length c3_3] 28)).alloc (.cells #[.int .i64 0, .int .i64 0, .int .i64 0, .slice none 0 0] 28)).heap[w.heap.size + 3]? = some (.cells #[.int .i64 a3_0, .int .i64 a3_1, .int .i64 a3_2, .slice A3_3 l3_3.length c3_3] 28 (0, 0))) := ⟨(blk_alloc (by simpa using heap_alloc_new (((w.alloc (.cells #[.int .i64 a0_0, .int .i64 a0_1, .int .i64 a3_2, .slice A0_3 l0_3.length c0_3] 28)).alloc (.cells #[.int .i64 a1] 3)).alloc (.cells #[.int .i64 a2] 3)) (.cells #[.int .i64 a3_0, .int .i64 a3_1, .int .i64 a3_2, .slice A3_3 l3_3.length c3_3] 28)) _)⟩
  have BZ : Aside0 ((((((w.alloc (.cells #[.int .i64 a0_0, .int .i64 a0_1, .int .i64 a3_2, .slice A0_3 l0_3.length c0_3] 28)).alloc (.cells #[.int .i64 a1] 3)).alloc (.cells #[.int .i64 a2] 3)).alloc (.cells #[.int .i64 a3_0, .int .i64 a3_1, .int .i64 a3_2, .slice A3_3 l3_3.length c3_3] 28)).alloc (.cells #[.int .i64 0, .int .i64 0, .int .i64 0, .slice none 0 0] 28)).heap[w.heap.size + 4]? = some (.cells #[.int .i64 0, .int .i64 0, .int .i64 0, .slice none 0 0] 28 (0, 0))) := ⟨(by simpa using heap_alloc_new ((((w.alloc (.cells #[.int .i64 a0_0, .int .i64 a0_1, .int .i64 a3_2, .slice A0_3 l0_3.length c0_3] 28)).alloc (.cells #[.int .i64 a1] 3)).alloc (.cells #[.int .i64 a2] 3)).alloc (.cells #[.int .i64 a3_0, .int .i64 a3_1, .int .i64 a3_2, .slice A3_3 l3_3.length c3_3] 28)) (.cells #[.int .i64 0, .int .i64 0, .int .i64 0, .slice none 0 0] 28))⟩
  have HB : Aside0 (Below w.heap.size w (((((w.alloc (.cells #[.int .i64 a0_0, .int .i64 a0_1, .int .i64 a3_2, .slice A0_3 l0_3.length c0_3] 28)).alloc (.cells #[.int .i64 a1] 3)).alloc (.cells #[.int .i64 a2] 3)).alloc (.cells #[.int .i64 a3_0, .int .i64 a3_1, .int .i64 a3_2, .slice A3_3 l3_3.length c3_3] 28)).alloc (.cells #[.int .i64 0, .int .i64 0, .int .i64 0, .slice none 0 0] 28))) := ⟨(below_alloc (below_alloc (below_alloc (below_alloc (below_alloc (Below.refl _ _) _) _) _) _) _)⟩
  clear hv hq hr0_3 hc0_3 hr3_3 hc3_3
  go_enter Try.func18, Try.ntmps18
  go_wp2_with fail
  refine (H1.out _ HB.out).mono ?_
  rintro e w1 ⟨rfl, hb1⟩
  have n0_ := Aside0.mk (blk_below BM.out hb1)
  have n1_ := Aside0.mk (blk_below BX.out hb1)
  have n2_ := Aside0.mk (blk_below BY.out hb1)
  have n3_ := Aside0.mk (blk_below BP.out hb1)
  have n4_ := Aside0.mk (blk_below BZ.out hb1)
  have nb_ := Aside0.mk (below_step HB.out hb1)
  clear BM BX BY BP BZ HB hb1
  have BM := n0_
  have BX := n1_
  have BY := n2_
  have BP := n3_
  have BZ := n4_
  have HB := nb_
  clear n0_ n1_ n2_ n3_ n4_ nb_
  have hcBM0 := B.bc BM 0
  have hcBM1 := B.bc BM 1
  have hcBM2 := B.bc BM 2
  have hcBM3 := B.bc BM 3
  have hcBX0 := B.bc BX 0
  have hcBY0 := B.bc BY 0
  have hcBP0 := B.bc BP 0
  have hcBP1 := B.bc BP 1
  have hcBP2 := B.bc BP 2
  have hcBP3 := B.bc BP 3
  go_wp2_with fail
  refine (H2.out _ HB.out).mono ?_
  rintro e w2 ⟨rfl, hb2⟩
  clear hcBM0 hcBM1 hcBM2 hcBM3
  clear hcBX0
  clear hcBY0
  clear hcBP0 hcBP1 hcBP2 hcBP3
  have n0_ := Aside0.mk (blk_below BM.out hb2)
  have n1_ := Aside0.mk (blk_below BX.out hb2)
  have n2_ := Aside0.mk (blk_below BY.out hb2)
  have n3_ := Aside0.mk (blk_below BP.out hb2)
  have n4_ := Aside0.mk (blk_below BZ.out hb2)
  have nb_ := Aside0.mk (below_step HB.out hb2)
  clear BM BX BY BP BZ HB hb2
  have BM := n0_
  have BX := n1_
  have BY := n2_
  have BP := n3_
  have BZ := n4_
  have HB := nb_
  clear n0_ n1_ n2_ n3_ n4_ nb_
  have hcBM0 := B.bc BM 0
  have hcBM1 := B.bc BM 1
  have hcBM2 := B.bc BM 2
  have hcBM3 := B.bc BM 3
  have hcBX0 := B.bc BX 0
  have hcBY0 := B.bc BY 0
  have hcBP0 := B.bc BP 0
  have hcBP1 := B.bc BP 1
  have hcBP2 := B.bc BP 2
  have hcBP3 := B.bc BP 3
  have hcBZ0 := B.bc BZ 0
  have hcBZ1 := B.bc BZ 1
  have hcBZ2 := B.bc BZ 2
  have hcBZ3 := B.bc BZ 3
  have hfBZ0 := blk_frozen BZ.out 0
  have hfBZ1 := blk_frozen BZ.out 1
  have hfBZ2 := blk_frozen BZ.out 2
  have hfBZ3 := blk_frozen BZ.out 3
  go_wp2
  refine bodyPost_ret (results_ct rfl _ _ (w.heap.size + 4) 28 #[.int .i64 0, .int .i64 0, .int .i64 0, .slice none 0 0] (0, 0) _ rfl (by first | exact BZ.out | (refine blk_put (cs := #[.int .i64 0, .int .i64 0, .int .i64 0, .slice none 0 0]) ?_ 3 _ rfl; refine blk_put (cs := #[.int .i64 0, .int .i64 0, .int .i64 0, .slice none 0 0]) ?_ 2 _ rfl; refine blk_put (cs := #[.int .i64 0, .int .i64 0, .int .i64 0, .slice none 0 0]) ?_ 1 _ rfl; refine blk_put (cs := #[.int .i64 0, .int .i64 0, .int .i64 0, .slice none 0 0]) ?_ 0 _ rfl; exact BZ.out)) Try.underlying28 rfl (by kernel_rfl)) rfl ?_
  exact ⟨_, by first | rfl | (simp; done), Kd.R_nil _ _ _ _ _, by first | exact HB.out | exact (below_set (below_set (below_set (below_set HB.out (by omega)) (by omega)) (by omega)) (by omega))⟩
set_option maxHeartbeats 4000000 in
theorem paste_yes (a0_0 : Int) (a0_1 : Int) (a0_2 : Int) (A0_3 : Option Addr) (c0_3 : Nat) (l0_3 : List Int) (a1 : Int) (a2 : Int) (a3_0 : Int) (a3_1 : Int) (a3_2 : Int) (A3_3 : Option Addr) (c3_3 : Nat) (l3_3 : List Int) (w : World) (hr0_3 : Kd.C (Kd.int .i64) w A0_3 l0_3.length l0_3) (hc0_3 : l0_3.length ≤ c0_3) (hr3_3 : Kd.C (Kd.int .i64) w A3_3 l3_3.length l3_3) (hc3_3 : l3_3.length ≤ c3_3) (hv : B.okImg a0_0 a0_1 a0_2 l0_3 = true) (hq : B.okImg a3_0 a3_1 a3_2 l3_3 = true) (t0 : a3_2 = a0_2) (t1 : ¬ a1 < -16) (t2 : ¬ 16 < a1) (t3 : ¬ a2 < -16) (t4 : ¬ 16 < a2) :
    Calls Try.prog 18 #[.agg #[.int .i64 a0_0, .int .i64 a0_1, .int .i64 a0_2, .slice A0_3 l0_3.length c0_3], .int .i64 a1, .int .i64 a2, .agg #[.int .i64 a3_0, .int .i64 a3_1, .int .i64 a3_2, .slice A3_3 l3_3.length c3_3]] w fun e w' => ∃ v3_ : Value, e = .returned (.tuple #[.agg #[.int .i64 a0_0, .int .i64 a0_1, .int .i64 a0_2, v3_], .bool true]) ∧ Kd.R (Kd.int .i64) 3 w' w.heap.size (fun _ => True) v3_ (B.tab a0_0.toNat a0_1.toNat (pastePx a0_0 a0_2 l0_3 a3_0 a3_1 l3_3 a1 a2)) ∧ Below w.heap.size w w' := by
  subst t0
  have hu28 := Try.underlying28
  have H1 := Aside0.mk (fun (W : World) (hW : Below w.heap.size w W) => impl_isImage.calls a0_0 a0_1 a3_2 A0_3 c0_3 l0_3 true W (Kd.C_below hr0_3 hW) hc0_3 (by rw [isImage_ok, hv]))
  have H2 := Aside0.mk (fun (W : World) (hW : Below w.heap.size w W) => impl_isImage.calls a3_0 a3_1 a3_2 A3_3 c3_3 l3_3 true W (Kd.C_below hr3_3 hW) hc3_3 (by rw [isImage_ok, hq]))
  have ho := (B.okImg_img hv).1
  have hi := (B.okImg_img hq).1
  have hpl : ∀ x y, x < a0_0.toNat → y < a0_1.toNat → ((pastePx a0_0 a3_2 l0_3 a3_0 a3_1 l3_3 a1 a2) x y).length ≤ 4 := fun x y _ _ => by
    have := ho.2.2.2.2.2.1
    unfold pastePx
    split
    all_goals
      unfold B.pix B.chunk
      rw [List.length_take]
      omega
  have H3 := Aside0.mk (fun (W : World) (hW : Below w.heap.size w W) (hm : W.heap[w.heap.size]? = some (.cells #[.int .i64 a0_0, .int .i64 a0_1, .int .i64 a3_2, .slice A0_3 l0_3.length c0_3] 28 (0, 0))) (hx : W.heap[w.heap.size + 1]? = some (.cells #[.int .i64 a1] 3 (0, 0))) (hy : W.heap[w.heap.size + 2]? = some (.cells #[.int .i64 a2] 3 (0, 0))) (hp : W.heap[w.heap.size + 3]? = some (.cells #[.int .i64 a3_0, .int .i64 a3_1, .int .i64 a3_2, .slice A3_3 l3_3.length c3_3] 28 (0, 0))) => imageBy_calls a0_0 a0_1 a3_2 39 #[.pointer (some ⟨w.heap.size + 1, 0, none⟩), .pointer (some ⟨w.heap.size + 3, 0, none⟩), .pointer (some ⟨w.heap.size + 2, 0, none⟩), .pointer (some ⟨w.heap.size, 0, none⟩)] (call_enters Try.func39 (by kernel_rfl) rfl) (pastePx a0_0 a3_2 l0_3 a3_0 a3_1 l3_3 a1 a2) W ⟨ho.1, ho.2.1⟩ ⟨ho.2.2.1, ho.2.2.2.1⟩ hpl (paste_pix w.heap.size (w.heap.size + 1) (w.heap.size + 2) (w.heap.size + 3) a0_0 a0_1 a3_2 A0_3 c0_3 l0_3 a1 a2 a3_0 a3_1 A3_3 c3_3 l3_3 W hm hx hy hp ho hi ⟨by omega, by omega⟩ ⟨by omega, by omega⟩ (Kd.C_below hr0_3 hW) hc0_3 (Kd.C_below hr3_3 hW) hc3_3))
  generalize B.tab a0_0.toNat a0_1.toNat (pastePx a0_0 a3_2 l0_3 a3_0 a3_1 l3_3 a1 a2) = tb at H3 ⊢
  clear ho hi hpl
  have u1 : decide (a1 < -16) = false := decide_eq_false t1
  clear t1
  have u2 : decide (16 < a1) = false := decide_eq_false t2
  clear t2
  have u3 : decide (a2 < -16) = false := decide_eq_false t3
  clear t3
  have u4 : decide (16 < a2) = false := decide_eq_false t4
  clear t4
  have BM : Aside0 ((((((w.alloc (.cells #[.int .i64 a0_0, .int .i64 a0_1, .int .i64 a3_2, .slice A0_3 l0_3.length c0_3] 28)).alloc (.cells #[.int .i64 a1] 3)).alloc (.cells #[.int .i64 a2] 3)).alloc (.cells #[.int .i64 a3_0, .int .i64 a3_1, .int .i64 a3_2, .slice A3_3 l3_3.length c3_3] 28)).alloc (.cells #[.int .i64 0, .int .i64 0, .int .i64 0, .slice none 0 0] 28)).heap[w.heap.size]? = some (.cells #[.int .i64 a0_0, .int .i64 a0_1, .int .i64 a3_2, .slice A0_3 l0_3.length c0_3] 28 (0, 0))) := ⟨(blk_alloc (blk_alloc (blk_alloc (blk_alloc (heap_alloc_new w (.cells #[.int .i64 a0_0, .int .i64 a0_1, .int .i64 a3_2, .slice A0_3 l0_3.length c0_3] 28)) _) _) _) _)⟩
  have BX : Aside0 ((((((w.alloc (.cells #[.int .i64 a0_0, .int .i64 a0_1, .int .i64 a3_2, .slice A0_3 l0_3.length c0_3] 28)).alloc (.cells #[.int .i64 a1] 3)).alloc (.cells #[.int .i64 a2] 3)).alloc (.cells #[.int .i64 a3_0, .int .i64 a3_1, .int .i64 a3_2, .slice A3_3 l3_3.length c3_3] 28)).alloc (.cells #[.int .i64 0, .int .i64 0, .int .i64 0, .slice none 0 0] 28)).heap[w.heap.size + 1]? = some (.cells #[.int .i64 a1] 3 (0, 0))) := ⟨(blk_alloc (blk_alloc (blk_alloc (by simpa using heap_alloc_new (w.alloc (.cells #[.int .i64 a0_0, .int .i64 a0_1, .int .i64 a3_2, .slice A0_3 l0_3.length c0_3] 28)) (.cells #[.int .i64 a1] 3)) _) _) _)⟩
  have BY : Aside0 ((((((w.alloc (.cells #[.int .i64 a0_0, .int .i64 a0_1, .int .i64 a3_2, .slice A0_3 l0_3.length c0_3] 28)).alloc (.cells #[.int .i64 a1] 3)).alloc (.cells #[.int .i64 a2] 3)).alloc (.cells #[.int .i64 a3_0, .int .i64 a3_1, .int .i64 a3_2, .slice A3_3 l3_3.length c3_3] 28)).alloc (.cells #[.int .i64 0, .int .i64 0, .int .i64 0, .slice none 0 0] 28)).heap[w.heap.size + 2]? = some (.cells #[.int .i64 a2] 3 (0, 0))) := ⟨(blk_alloc (blk_alloc (by simpa using heap_alloc_new ((w.alloc (.cells #[.int .i64 a0_0, .int .i64 a0_1, .int .i64 a3_2, .slice A0_3 l0_3.length c0_3] 28)).alloc (.cells #[.int .i64 a1] 3)) (.cells #[.int .i64 a2] 3)) _) _)⟩
  have BP : Aside0 ((((((w.alloc (.cells #[.int .i64 a0_0, .int .i64 a0_1, .int .i64 a3_2, .slice A0_3 l0_3.length c0_3] 28)).alloc (.cells #[.int .i64 a1] 3)).alloc (.cells #[.int .i64 a2] 3)).alloc (.cells #[.int .i64 a3_0, .int .i64 a3_1, .int .i64 a3_2, .slice A3_3 l3_3.length c3_3] 28)).alloc (.cells #[.int .i64 0, .int .i64 0, .int .i64 0, .slice none 0 0] 28)).heap[w.heap.size + 3]? = some (.cells #[.int .i64 a3_0, .int .i64 a3_1, .int .i64 a3_2, .slice A3_3 l3_3.length c3_3] 28 (0, 0))) := ⟨(blk_alloc (by simpa using heap_alloc_new (((w.alloc (.cells #[.int .i64 a0_0, .int .i64 a0_1, .int .i64 a3_2, .slice A0_3 l0_3.length c0_3] 28)).alloc (.cells #[.int .i64 a1] 3)).alloc (.cells #[.int .i64 a2] 3)) (.cells #[.int .i64 a3_0, .int .i64 a3_1, .int .i64 a3_2, .slice A3_3 l3_3.length c3_3] 28)) _)⟩
  have BZ : Aside0 ((((((w.alloc (.cells #[.int .i64 a0_0, .int .i64 a0_1, .int .i64 a3_2, .slice A0_3 l0_3.length c0_3] 28)).alloc (.cells #[.int .i64 a1] 3)).alloc (.cells #[.int .i64 a2] 3)).alloc (.cells #[.int .i64 a3_0, .int .i64 a3_1, .int .i64 a3_2, .slice A3_3 l3_3.length c3_3] 28)).alloc (.cells #[.int .i64 0, .int .i64 0, .int .i64 0, .slice none 0 0] 28)).heap[w.heap.size + 4]? = some (.cells #[.int .i64 0, .int .i64 0, .int .i64 0, .slice none 0 0] 28 (0, 0))) := ⟨(by simpa using heap_alloc_new ((((w.alloc (.cells #[.int .i64 a0_0, .int .i64 a0_1, .int .i64 a3_2, .slice A0_3 l0_3.length c0_3] 28)).alloc (.cells #[.int .i64 a1] 3)).alloc (.cells #[.int .i64 a2] 3)).alloc (.cells #[.int .i64 a3_0, .int .i64 a3_1, .int .i64 a3_2, .slice A3_3 l3_3.length c3_3] 28)) (.cells #[.int .i64 0, .int .i64 0, .int .i64 0, .slice none 0 0] 28))⟩
  have HB : Aside0 (Below w.heap.size w (((((w.alloc (.cells #[.int .i64 a0_0, .int .i64 a0_1, .int .i64 a3_2, .slice A0_3 l0_3.length c0_3] 28)).alloc (.cells #[.int .i64 a1] 3)).alloc (.cells #[.int .i64 a2] 3)).alloc (.cells #[.int .i64 a3_0, .int .i64 a3_1, .int .i64 a3_2, .slice A3_3 l3_3.length c3_3] 28)).alloc (.cells #[.int .i64 0, .int .i64 0, .int .i64 0, .slice none 0 0] 28))) := ⟨(below_alloc (below_alloc (below_alloc (below_alloc (below_alloc (Below.refl _ _) _) _) _) _) _)⟩
  clear hv hq hr0_3 hc0_3 hr3_3 hc3_3
  go_enter Try.func18, Try.ntmps18
  go_wp2_with fail
  refine (H1.out _ HB.out).mono ?_
  rintro e w1 ⟨rfl, hb1⟩
  have n0_ := Aside0.mk (blk_below BM.out hb1)
  have n1_ := Aside0.mk (blk_below BX.out hb1)
  have n2_ := Aside0.mk (blk_below BY.out hb1)
  have n3_ := Aside0.mk (blk_below BP.out hb1)
  have n4_ := Aside0.mk (blk_below BZ.out hb1)
  have nb_ := Aside0.mk (below_step HB.out hb1)
  clear BM BX BY BP BZ HB hb1
  have BM := n0_
  have BX := n1_
  have BY := n2_
  have BP := n3_
  have BZ := n4_
  have HB := nb_
  clear n0_ n1_ n2_ n3_ n4_ nb_
  have hcBM0 := B.bc BM 0
  have hcBM1 := B.bc BM 1
  have hcBM2 := B.bc BM 2
  have hcBM3 := B.bc BM 3
  have hcBX0 := B.bc BX 0
  have hcBY0 := B.bc BY 0
  have hcBP0 := B.bc BP 0
  have hcBP1 := B.bc BP 1
  have hcBP2 := B.bc BP 2
  have hcBP3 := B.bc BP 3
  go_wp2_with fail
  refine (H2.out _ HB.out).mono ?_
  rintro e w2 ⟨rfl, hb2⟩
  clear hcBM0 hcBM1 hcBM2 hcBM3
  clear hcBX0
  clear hcBY0
  clear hcBP0 hcBP1 hcBP2 hcBP3
  have n0_ := Aside0.mk (blk_below BM.out hb2)
  have n1_ := Aside0.mk (blk_below BX.out hb2)
  have n2_ := Aside0.mk (blk_below BY.out hb2)
  have n3_ := Aside0.mk (blk_below BP.out hb2)
  have n4_ := Aside0.mk (blk_below BZ.out hb2)
  have nb_ := Aside0.mk (below_step HB.out hb2)
  clear BM BX BY BP BZ HB hb2
  have BM := n0_
  have BX := n1_
  have BY := n2_
  have BP := n3_
  have BZ := n4_
  have HB := nb_
  clear n0_ n1_ n2_ n3_ n4_ nb_
  have hcBM0 := B.bc BM 0
  have hcBM1 := B.bc BM 1
  have hcBM2 := B.bc BM 2
  have hcBM3 := B.bc BM 3
  have hcBX0 := B.bc BX 0
  have hcBY0 := B.bc BY 0
  have hcBP0 := B.bc BP 0
  have hcBP1 := B.bc BP 1
  have hcBP2 := B.bc BP 2
  have hcBP3 := B.bc BP 3
  go_wp2_with fail
  refine (H3.out _ HB.out BM.out BX.out BY.out BP.out).mono ?_
  rintro e w3 ⟨v, rfl, hrow, hb3⟩
  clear hcBM0 hcBM1 hcBM2 hcBM3
  clear hcBX0
  clear hcBY0
  clear hcBP0 hcBP1 hcBP2 hcBP3
  have HO := Aside0.mk (Kd.R_lower hrow HB.out.size)
  clear hrow
  have n0_ := Aside0.mk (blk_below BM.out hb3)
  have n1_ := Aside0.mk (blk_below BX.out hb3)
  have n2_ := Aside0.mk (blk_below BY.out hb3)
  have n3_ := Aside0.mk (blk_below BP.out hb3)
  have n4_ := Aside0.mk (blk_below BZ.out hb3)
  have nb_ := Aside0.mk (below_step HB.out hb3)
  clear BM BX BY BP BZ HB hb3
  have BM := n0_
  have BX := n1_
  have BY := n2_
  have BP := n3_
  have BZ := n4_
  have HB := nb_
  clear n0_ n1_ n2_ n3_ n4_ nb_
  obtain ⟨Av, cv, ev⟩ := Kd.R_slice HO.out
  subst ev
  have hcBZ0 := B.bc BZ 0
  have hcBZ1 := B.bc BZ 1
  have hcBZ2 := B.bc BZ 2
  have hcBZ3 := B.bc BZ 3
  have hfBZ0 := blk_frozen BZ.out 0
  have hfBZ1 := blk_frozen BZ.out 1
  have hfBZ2 := blk_frozen BZ.out 2
  have hfBZ3 := blk_frozen BZ.out 3
  go_wp2
  refine bodyPost_ret (results_ct rfl _ _ (w.heap.size + 4) 28 #[.int .i64 a0_0, .int .i64 a0_1, .int .i64 a3_2, .slice Av tb.length cv] (0, 0) _ rfl (by first | exact BZ.out | (refine blk_put (cs := #[.int .i64 a0_0, .int .i64 a0_1, .int .i64 a3_2, .slice none 0 0]) ?_ 3 _ rfl; refine blk_put (cs := #[.int .i64 a0_0, .int .i64 a0_1, .int .i64 0, .slice none 0 0]) ?_ 2 _ rfl; refine blk_put (cs := #[.int .i64 a0_0, .int .i64 0, .int .i64 0, .slice none 0 0]) ?_ 1 _ rfl; refine blk_put (cs := #[.int .i64 0, .int .i64 0, .int .i64 0, .slice none 0 0]) ?_ 0 _ rfl; exact BZ.out)) Try.underlying28 rfl (by kernel_rfl)) rfl ?_
  exact ⟨_, by first | rfl | (simp; done), Kd.R_mono (Kd.R_far (p := ⟨w.heap.size + 4, 3, none⟩) (Kd.R_far (p := ⟨w.heap.size + 4, 2, none⟩) (Kd.R_far (p := ⟨w.heap.size + 4, 1, none⟩) (Kd.R_far (p := ⟨w.heap.size + 4, 0, none⟩) (Kd.R_types HO.out BZ.out (by decide)) (fun _ hk => hk.2) (.int .i64 a0_0)) (fun _ hk => hk.2) (.int .i64 a0_1)) (fun _ hk => hk.2) (.int .i64 a3_2)) (fun _ hk => hk.2) (.slice Av tb.length cv)) (fun _ _ => trivial), by first | exact HB.out | exact (below_set (below_set (below_set (below_set HB.out (by omega)) (by omega)) (by omega)) (by omega))⟩
theorem impl_PasteImage.calls (a0_0 : Int) (a0_1 : Int) (a0_2 : Int) (A0_3 : Option Addr) (c0_3 : Nat) (l0_3 : List Int) (a1 : Int) (a2 : Int) (a3_0 : Int) (a3_1 : Int) (a3_2 : Int) (A3_3 : Option Addr) (c3_3 : Nat) (l3_3 : List Int) (r1 : Int) (r2 : Int) (r3 : Int) (r4 : List Int) (r5 : Bool) (w : World) (hr0_3 : Kd.C (Kd.int .i64) w A0_3 l0_3.length l0_3) (hc0_3 : l0_3.length ≤ c0_3) (hr3_3 : Kd.C (Kd.int .i64) w A3_3 l3_3.length l3_3) (hc3_3 : l3_3.length ≤ c3_3) (h : impl_PasteImage.f a0_0 a0_1 a0_2 l0_3 a1 a2 a3_0 a3_1 a3_2 l3_3 = some (r1, r2, r3, r4, r5)) :
    Calls Try.prog 18 #[.agg #[.int .i64 a0_0, .int .i64 a0_1, .int .i64 a0_2, .slice A0_3 l0_3.length c0_3], .int .i64 a1, .int .i64 a2, .agg #[.int .i64 a3_0, .int .i64 a3_1, .int .i64 a3_2, .slice A3_3 l3_3.length c3_3]] w fun e w' => ∃ v3_ : Value, e = .returned (.tuple #[.agg #[.int .i64 r1, .int .i64 r2, .int .i64 r3, v3_], .bool r5]) ∧ Kd.R (Kd.int .i64) 3 w' w.heap.size (fun _ => True) v3_ r4 ∧ Below w.heap.size w w' := by
  unfold impl_PasteImage.f at h
  by_cases hv : B.okImg a0_0 a0_1 a0_2 l0_3 = true
  case neg =>
    exact (by
    rw [if_neg (fun g => hv g.1)] at h
    simp only [Option.some.injEq, Prod.mk.injEq] at h
    obtain ⟨rfl, rfl, rfl, rfl, rfl⟩ := h
    exact paste_no a0_0 a0_1 a0_2 A0_3 c0_3 l0_3 a1 a2 a3_0 a3_1 a3_2 A3_3 c3_3 l3_3 w hr0_3 hc0_3 hr3_3 hc3_3 (Bool.eq_false_iff.2 hv))
  by_cases hq : B.okImg a3_0 a3_1 a3_2 l3_3 = true
  case neg =>
    exact (by
    rw [if_neg (fun g => hq g.2.1)] at h
    simp only [Option.some.injEq, Prod.mk.injEq] at h
    obtain ⟨rfl, rfl, rfl, rfl, rfl⟩ := h
    exact paste_part a0_0 a0_1 a0_2 A0_3 c0_3 l0_3 a1 a2 a3_0 a3_1 a3_2 A3_3 c3_3 l3_3 w hr0_3 hc0_3 hr3_3 hc3_3 hv (Bool.eq_false_iff.2 hq))
  by_cases t0 : a3_2 = a0_2
  case neg =>
    exact (by
    rw [if_neg (fun g => t0 g.2.2.1)] at h
    simp only [Option.some.injEq, Prod.mk.injEq] at h
    obtain ⟨rfl, rfl, rfl, rfl, rfl⟩ := h
    exact paste_planes a0_0 a0_1 a0_2 A0_3 c0_3 l0_3 a1 a2 a3_0 a3_1 a3_2 A3_3 c3_3 l3_3 w hr0_3 hc0_3 hr3_3 hc3_3 hv hq t0)
  by_cases t1 : a1 < -16
  · exact (by
    rw [if_neg (fun g => by have := g.2.2.2; omega)] at h
    simp only [Option.some.injEq, Prod.mk.injEq] at h
    obtain ⟨rfl, rfl, rfl, rfl, rfl⟩ := h
    exact paste_x0 a0_0 a0_1 a0_2 A0_3 c0_3 l0_3 a1 a2 a3_0 a3_1 a3_2 A3_3 c3_3 l3_3 w hr0_3 hc0_3 hr3_3 hc3_3 hv hq t0 t1)
  by_cases t2 : 16 < a1
  · exact (by
    rw [if_neg (fun g => by have := g.2.2.2; omega)] at h
    simp only [Option.some.injEq, Prod.mk.injEq] at h
    obtain ⟨rfl, rfl, rfl, rfl, rfl⟩ := h
    exact paste_x1 a0_0 a0_1 a0_2 A0_3 c0_3 l0_3 a1 a2 a3_0 a3_1 a3_2 A3_3 c3_3 l3_3 w hr0_3 hc0_3 hr3_3 hc3_3 hv hq t0 t1 t2)
  by_cases t3 : a2 < -16
  · exact (by
    rw [if_neg (fun g => by have := g.2.2.2; omega)] at h
    simp only [Option.some.injEq, Prod.mk.injEq] at h
    obtain ⟨rfl, rfl, rfl, rfl, rfl⟩ := h
    exact paste_y0 a0_0 a0_1 a0_2 A0_3 c0_3 l0_3 a1 a2 a3_0 a3_1 a3_2 A3_3 c3_3 l3_3 w hr0_3 hc0_3 hr3_3 hc3_3 hv hq t0 t1 t2 t3)
  by_cases t4 : 16 < a2
  · exact (by
    rw [if_neg (fun g => by have := g.2.2.2; omega)] at h
    simp only [Option.some.injEq, Prod.mk.injEq] at h
    obtain ⟨rfl, rfl, rfl, rfl, rfl⟩ := h
    exact paste_y1 a0_0 a0_1 a0_2 A0_3 c0_3 l0_3 a1 a2 a3_0 a3_1 a3_2 A3_3 c3_3 l3_3 w hr0_3 hc0_3 hr3_3 hc3_3 hv hq t0 t1 t2 t3 t4)
  rw [if_pos ⟨hv, hq, t0, by omega, by omega, by omega, by omega⟩] at h
  simp only [Option.some.injEq, Prod.mk.injEq] at h
  obtain ⟨rfl, rfl, rfl, rfl, rfl⟩ := h
  exact paste_yes a0_0 a0_1 a0_2 A0_3 c0_3 l0_3 a1 a2 a3_0 a3_1 a3_2 A3_3 c3_3 l3_3 w hr0_3 hc0_3 hr3_3 hc3_3 hv hq t0 t1 t2 t3 t4

end Go.Proofs.Ytmljcnhecjlinaa.Q
