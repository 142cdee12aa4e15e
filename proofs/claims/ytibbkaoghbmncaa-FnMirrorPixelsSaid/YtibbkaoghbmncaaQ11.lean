-- Written by a program of this session (the kit's printer, with hand-proved contracts for the functions that it does not take).
import Derived.Test.YtibbkaoghbmncaaQ0
import Derived.Test.YtibbkaoghbmncaaQ2
import Derived.Test.YtibbkaoghbmncaaQ4
namespace Go.Proofs.Ytibbkaoghbmncaa.Q
open Go.RowKit Go.Proofs.YtibbkaoghbmncaaW.PrintWords Go.Proofs.YtibbkaoghbmncaaW.PrintLast Go.Proofs.YtibbkaoghbmncaaW.PrintMore
attribute [local go_sem] max2_int min2_int max_two min_two max_three min_three max_four min_four   -- for this text's walks alone
set_option linter.unusedVariables false
set_option linter.unusedSimpArgs false

/-! ### spec_mirror: function 63 -/
mutual
def spec_mirror.l0 : Nat → Int → Int → Int → Int → List Int → Int → Int → Int → List Int → Option (Int × Int × Int × List Int)
  | 0, _, _, _, _, _, _, _, _, _ => none
  | k + 1, x4, x791000, x791001, x791002, x791003, x799000, x799001, x799002, x799003 => if x4 < x791001 then (spec_mirror.l1 k x4 0 x791000 x791001 x791002 x791003 x799000 x799001 x799002 x799003) else (some (x799000, x799001, x799002, x799003))
def spec_mirror.l1 : Nat → Int → Int → Int → Int → Int → List Int → Int → Int → Int → List Int → Option (Int × Int × Int × List Int)
  | 0, _, _, _, _, _, _, _, _, _, _ => none
  | k + 1, x4, x5, x791000, x791001, x791002, x791003, x799000, x799001, x799002, x799003 => if x5 < x791000 then ((spec_pixelAt.f x791000 x791001 x791002 x791003 x5 x4).bind fun t799 => ((spec_setPixel.f k x799000 x799001 x799002 x799003 (wrap64 ((wrap64 (x791000 - 1)) - x5)) x4 t799).bind fun t802 => (spec_mirror.l1 k x4 (wrap64 (x5 + 1)) x791000 x791001 x791002 x791003 x799000 x799001 x799002 t802))) else (spec_mirror.l0 k (wrap64 (x4 + 1)) x791000 x791001 x791002 x791003 x799000 x799001 x799002 x799003)
end
def spec_mirror.f (k : Nat) (a0_0 : Int) (a0_1 : Int) (a0_2 : Int) (l0_3 : List Int) : Option (Int × Int × Int × List Int) := (spec_copyImage.f a0_0 a0_1 a0_2 l0_3).bind fun bt792 => (spec_mirror.l0 k 0 a0_0 a0_1 a0_2 l0_3 bt792.1 bt792.2.1 bt792.2.2.1 bt792.2.2.2)
theorem spec_mirror.mono_l : ∀ k, (∀ y0 y1 y2 y3 y4 y5 y6 y7 y8, LeO (spec_mirror.l0 k y0 y1 y2 y3 y4 y5 y6 y7 y8) (spec_mirror.l0 (k + 1) y0 y1 y2 y3 y4 y5 y6 y7 y8)) ∧ (∀ y0 y1 y2 y3 y4 y5 y6 y7 y8 y9, LeO (spec_mirror.l1 k y0 y1 y2 y3 y4 y5 y6 y7 y8 y9) (spec_mirror.l1 (k + 1) y0 y1 y2 y3 y4 y5 y6 y7 y8 y9))
  | 0 => ⟨fun _ _ _ _ _ _ _ _ _ r h => by simp [spec_mirror.l0] at h, fun _ _ _ _ _ _ _ _ _ _ r h => by simp [spec_mirror.l1] at h⟩
  | k + 1 => by
    obtain ⟨ih0, ih1⟩ := spec_mirror.mono_l k
    refine ⟨?_, ?_⟩
    · intro y0 y1 y2 y3 y4 y5 y6 y7 y8
      unfold spec_mirror.l0
      repeat' first
      | (with_reducible exact ih0 _ _ _ _ _ _ _ _ _)
      | (with_reducible exact ih1 _ _ _ _ _ _ _ _ _ _)
      | (with_reducible exact spec_setPixel.mono _ _ _ _ _ _ _ _)
      | (with_reducible exact LeO.refl _)
      | (with_reducible exact LeO.none _)
      | (with_reducible refine LeO.ite ?_ ?_)
      | (with_reducible refine LeO.bind ?_ (fun _ => ?_))
      | exact ih0 _ _ _ _ _ _ _ _ _
      | exact ih1 _ _ _ _ _ _ _ _ _ _
      | exact spec_setPixel.mono _ _ _ _ _ _ _ _
      | exact LeO.none _
      | refine LeO.ite ?_ ?_
      | refine LeO.bind ?_ (fun _ => ?_)
    intro y0 y1 y2 y3 y4 y5 y6 y7 y8 y9
    unfold spec_mirror.l1
    repeat' first
    | (with_reducible exact ih0 _ _ _ _ _ _ _ _ _)
    | (with_reducible exact ih1 _ _ _ _ _ _ _ _ _ _)
    | (with_reducible exact spec_setPixel.mono _ _ _ _ _ _ _ _)
    | (with_reducible exact LeO.refl _)
    | (with_reducible exact LeO.none _)
    | (with_reducible refine LeO.ite ?_ ?_)
    | (with_reducible refine LeO.bind ?_ (fun _ => ?_))
    | exact ih0 _ _ _ _ _ _ _ _ _
    | exact ih1 _ _ _ _ _ _ _ _ _ _
    | exact spec_setPixel.mono _ _ _ _ _ _ _ _
    | exact LeO.none _
    | refine LeO.ite ?_ ?_
    | refine LeO.bind ?_ (fun _ => ?_)
theorem spec_mirror.mono : ∀ a0 a1 a2 a3 k, LeO (spec_mirror.f k a0 a1 a2 a3) (spec_mirror.f (k + 1) a0 a1 a2 a3) := by
  intro a0 a1 a2 a3 k
  obtain ⟨ih0, ih1⟩ := spec_mirror.mono_l k
  unfold spec_mirror.f
  repeat' first
      | (with_reducible exact ih0 _ _ _ _ _ _ _ _ _)
      | (with_reducible exact ih1 _ _ _ _ _ _ _ _ _ _)
      | (with_reducible exact spec_setPixel.mono _ _ _ _ _ _ _ _)
      | (with_reducible exact LeO.refl _)
      | (with_reducible exact LeO.none _)
      | (with_reducible refine LeO.ite ?_ ?_)
      | (with_reducible refine LeO.bind ?_ (fun _ => ?_))
      | exact ih0 _ _ _ _ _ _ _ _ _
      | exact ih1 _ _ _ _ _ _ _ _ _ _
      | exact spec_setPixel.mono _ _ _ _ _ _ _ _
      | exact LeO.none _
      | refine LeO.ite ?_ ?_
      | refine LeO.bind ?_ (fun _ => ?_)
def spec_mirror.T8 : Bool × List (List Nat × List Nat) := (true, [([], []), ([], []), ([1], [1]), ([2], [2]), ([], []), ([3, 4], [3, 4]), ([], []), ([], []), ([], []), ([], []), ([7, 8, 9], [7, 8, 9]), ([0, 5, 6, 10, 10], [0, 5, 6, 10])])
def spec_mirror.B8 : List Nat := [0, 0, 2, 6, 0, 30, 0, 0, 0, 0, 896, 2047]
theorem spec_mirror.tab8 : rtab .any (opsOf Try.f63 8) = spec_mirror.T8 := by kernel_rfl
theorem spec_mirror.bits8 : waitsOk spec_mirror.T8.2 spec_mirror.B8 = true := by kernel_rfl
set_option maxHeartbeats 8000000 in
set_option maxRecDepth 100000 in
theorem spec_mirror.calls (k : Nat) (a0_0 : Int) (a0_1 : Int) (a0_2 : Int) (A0_3 : Option Addr) (c0_3 : Nat) (l0_3 : List Int) (r1 : Int) (r2 : Int) (r3 : Int) (r4 : List Int) (w : World) (hr0_3 : Kd.C (Kd.int .i64) w A0_3 l0_3.length l0_3) (hc0_3 : l0_3.length ≤ c0_3) (h : spec_mirror.f k a0_0 a0_1 a0_2 l0_3 = some (r1, r2, r3, r4)) :
    Calls Try.prog 63 #[.agg #[.int .i64 a0_0, .int .i64 a0_1, .int .i64 a0_2, .slice A0_3 l0_3.length c0_3]] w fun e w' => ∃ v3_ : Value, e = .returned (.agg #[.int .i64 r1, .int .i64 r2, .int .i64 r3, v3_]) ∧ Kd.R (Kd.int .i64) 3 w' w.heap.size (fun _ => True) v3_ r4 ∧ Below w.heap.size w w' := by
  have hu26 := Try.underlying26
  have HR0_3 := Aside0.mk hr0_3
  have HC0_3 := Aside0.mk hc0_3
  clear hr0_3 hc0_3
  have HB := Aside0.mk (Below.refl w.heap.size w)
  have H : ((spec_copyImage.f a0_0 a0_1 a0_2 l0_3).bind fun bt792 => (spec_mirror.l0 k 0 a0_0 a0_1 a0_2 l0_3 bt792.1 bt792.2.1 bt792.2.2.1 bt792.2.2.2)) = some (r1, r2, r3, r4) := h
  clear h
  replace H := Option.bind_eq_some_iff.mp H
  obtain ⟨⟨t792, t793, t794, t795⟩, A20, H⟩ := H
  replace H : (spec_mirror.l0 k 0 a0_0 a0_1 a0_2 l0_3 t792 t793 t794 t795) = some (r1, r2, r3, r4) := H
  have A2 := Aside0.mk A20
  clear A20
  have H' := Aside0.mk H
  clear H
  go_enter Try.func63, Try.ntmps63
  go_wp2_with (first | ((with_reducible refine gate_dst (N := 1) rfl ?_); refine box_event ?hg (N := 1) ?hd (cs := #[.int .i64 a0_0, .int .i64 a0_1, .int .i64 a0_2, .slice A0_3 l0_3.length c0_3]) (t := 26) ?hr ?_; (case hd => rfl); (case hg => rfl); (case hr => first | (go_simp; done) | (go_simp; rfl)); intro gb790 hg w3 hbox hb; have n0_ := Aside0.mk (below_step (B.bl HB) hb); have n1_ := Aside0.mk (hbox); have n2_ := Aside0.mk (B.nle hg (below_size (B.bl HB))); have n3_ := Aside0.mk (B.nle hg (below_size (B.bl HB))); clear HB; have HB := n0_; have BK790 := n1_; have GW790 := n2_; have GE790 := n3_; clear n0_ n1_ n2_ n3_; clear hb hbox hg) | ((with_reducible refine gate_dst (N := 2) rfl ?_); refine box_event ?hg (N := 2) ?hd (cs := #[.int .i64 0, .int .i64 0, .int .i64 0, .slice none 0 0]) (t := 26) ?hr ?_; (case hd => rfl); (case hg => rfl); (case hr => first | (go_simp; done) | (go_simp; rfl)); intro gb791 hg w4 hbox hb; have n0_ := Aside0.mk (blk_below (B.kb BK790) hb); have n1_ := Aside0.mk (below_step (B.bl HB) hb); have n2_ := Aside0.mk (hbox); have n3_ := Aside0.mk (B.nle hg (below_size (B.bl HB))); have n4_ := Aside0.mk (B.nle hg (below_size (B.bl HB))); have n5_ := Aside0.mk (B.nlt hg (blk_lt (B.kb BK790))); have n6_ := Aside0.mk (B.ngt hg (blk_lt (B.kb BK790))); clear BK790 HB; have BK790 := n0_; have HB := n1_; have BK791 := n2_; have GW791 := n3_; have GE791 := n4_; have NB790_791 := n5_; have NB791_790 := n6_; clear n0_ n1_ n2_ n3_ n4_ n5_ n6_; clear hb hbox hg; have hnb5 := NB790_791.out; have hnc5 := NB791_790.out; have hcz6_0 : w4.cell? ⟨gb790, 0, none⟩ = some (.int .i64 a0_0) := B.bc BK790 0; have hcz6_1 : w4.cell? ⟨gb790, 1, none⟩ = some (.int .i64 a0_1) := B.bc BK790 1; have hcz6_2 : w4.cell? ⟨gb790, 2, none⟩ = some (.int .i64 a0_2) := B.bc BK790 2; have hcz6_3 : w4.cell? ⟨gb790, 3, none⟩ = some (.slice A0_3 l0_3.length c0_3) := B.bc BK790 3; have hfz6_0 := blk_frozen BK790.out 0; have hfz6_1 := blk_frozen BK790.out 1; have hfz6_2 := blk_frozen BK790.out 2; have hfz6_3 := blk_frozen BK790.out 3) | ((with_reducible refine gate_callee (f := 54) rfl ?_); refine goesL_ (some 7) rfl rfl Try.func54 (by kernel_rfl) rfl #[.agg #[.int .i64 a0_0, .int .i64 a0_1, .int .i64 a0_2, .slice A0_3 l0_3.length c0_3]] rfl B.am ?_; (with_reducible refine (spec_copyImage.calls a0_0 a0_1 a0_2 _ _ l0_3 t792 t793 t794 t795 _ ?side1 ?side2 A2.out).mono ?_); (case side1 => exact B.kc (Kd.C_below HR0_3.out HB.out)); (case side2 => exact HC0_3.out); rintro e w7 ⟨v796, rfl, ho0, hb⟩; refine ⟨_, rfl, ?_⟩; have n0_ := Aside0.mk (Kd.R_lower ho0 (below_size (B.bl HB))); have n1_ := Aside0.mk (blk_below (B.kb BK790) hb); have n2_ := Aside0.mk (blk_below (B.kb BK791) hb); have n3_ := Aside0.mk (below_step (B.bl HB) hb); clear BK790 BK791 HB; have HO797 := n0_; have BK790 := n1_; have BK791 := n2_; have HB := n3_; clear n0_ n1_ n2_ n3_; (try clear hb); (try clear hb2); (try clear hk); (try clear hi); (try clear ho0)) | ((with_reducible refine gate_dst (N := 3) rfl ?_); refine box_event ?hg (N := 3) ?hd (cs := #[.int .i64 0, .int .i64 0, .int .i64 0, .slice none 0 0]) (t := 26) ?hr ?_; (case hd => rfl); (case hg => rfl); (case hr => first | (go_simp; done) | (go_simp; rfl)); intro gb798 hg w8 hbox hb; have n0_ := Aside0.mk (Kd.R_below (B.kr HO797) hb); have n1_ := Aside0.mk (blk_below (B.kb BK790) hb); have n2_ := Aside0.mk (blk_below (B.kb BK791) hb); have n3_ := Aside0.mk (below_step (B.bl HB) hb); have n4_ := Aside0.mk (hbox); have n5_ := Aside0.mk (B.nle hg (below_size (B.bl HB))); have n6_ := Aside0.mk (B.nle hg (below_size (B.bl HB))); have n7_ := Aside0.mk (B.nlt hg (blk_lt (B.kb BK790))); have n8_ := Aside0.mk (B.ngt hg (blk_lt (B.kb BK790))); have n9_ := Aside0.mk (B.nlt hg (blk_lt (B.kb BK791))); have n10_ := Aside0.mk (B.ngt hg (blk_lt (B.kb BK791))); clear HO797 BK790 BK791 HB; have HO797 := n0_; have BK790 := n1_; have BK791 := n2_; have HB := n3_; have BK798 := n4_; have GW798 := n5_; have GE798 := n6_; have NB790_798 := n7_; have NB798_790 := n8_; have NB791_798 := n9_; have NB798_791 := n10_; clear n0_ n1_ n2_ n3_ n4_ n5_ n6_ n7_ n8_ n9_ n10_; clear hb hbox hg; have hnb9 := NB798_790.out; have hnc9 := NB790_798.out; have hnb10 := NB798_791.out; have hnc10 := NB791_798.out; have hcz11_0 : w8.cell? ⟨gb798, 0, none⟩ = some (.int .i64 0) := B.bc BK798 0; have hcz11_1 : w8.cell? ⟨gb798, 1, none⟩ = some (.int .i64 0) := B.bc BK798 1; have hcz11_2 : w8.cell? ⟨gb798, 2, none⟩ = some (.int .i64 0) := B.bc BK798 2; have hcz11_3 : w8.cell? ⟨gb798, 3, none⟩ = some (.slice none 0 0) := B.bc BK798 3; have hfz11_0 := blk_frozen BK798.out 0; have hfz11_1 := blk_frozen BK798.out 1; have hfz11_2 := blk_frozen BK798.out 2; have hfz11_3 := blk_frozen BK798.out 3; obtain ⟨Ao12, co12, eo12⟩ := Kd.R_slice HO797.out; subst eo12))
  go_loopg [4] k (fun kq v4 w' => ∃ (x4_1 : Int) (x799003_1 : List Int) (u799003 : Value), v4 = .int .i64 x4_1 ∧ Aside0 (spec_mirror.l0 kq x4_1 a0_0 a0_1 a0_2 l0_3 t792 t793 t794 x799003_1 = some (r1, r2, r3, r4)) ∧ Aside0 (kq ≤ k) ∧ Aside0 (Kd.R (Kd.int .i64) 3 w' w.heap.size (fun _ => True) u799003 x799003_1) ∧ Aside0 (w'.heap[gb790]? = some (.cells #[.int .i64 a0_0, .int .i64 a0_1, .int .i64 a0_2, (.slice A0_3 l0_3.length c0_3)] 26 (0, 0))) ∧ Aside0 (w'.heap[gb791]? = some (.cells #[.int .i64 0, .int .i64 0, .int .i64 0, (.slice none 0 0)] 26 (0, 0))) ∧ Aside0 (w'.heap[gb798]? = some (.cells #[.int .i64 t792, .int .i64 t793, .int .i64 t794, u799003] 26 (0, 0))) ∧ Aside0 (Below w.heap.size w w'))
  case atStart => exact ⟨(0), (t795), (.slice Ao12 t795.length co12), (by first | rfl | (simp; done) | (simp [*]; done)), H', ⟨Nat.le_refl _⟩, ⟨B.kr0 (Kd.R_mono (B.rf4 HO797 BK798) (fun _ hk => trivial))⟩, ⟨B.kb0 (B.bf4 BK790 NB790_798)⟩, ⟨B.kb0 (B.bf4 BK791 NB791_798)⟩, ⟨B.kb0 (B.bp4 BK798)⟩, ⟨B.bl HB⟩⟩
  case round =>
    clear H'
    try clear c1
    try clear p2
    try clear c5
    try clear c6
    try clear c9
    try clear c10
    try clear hcz11_0
    try clear hcz11_1
    try clear hcz11_2
    try clear hcz11_3
    try clear hcz6_0
    try clear hcz6_1
    try clear hcz6_2
    try clear hcz6_3
    try clear hfz11_0
    try clear hfz11_1
    try clear hfz11_2
    try clear hfz11_3
    try clear hfz6_0
    try clear hfz6_1
    try clear hfz6_2
    try clear hfz6_3
    obtain ⟨x4_1, x799003_1, u799003, rfl, HA, HK1, HO_799003, BK790, BK791, BK798, HB⟩ := hrel
    cases gk with
    | zero => exact absurd HA.out (by simp [spec_mirror.l0])
    | succ k1 =>
      have H := HA.out
      clear HA
      simp only [spec_mirror.l0] at H
      by_cases c13 : x4_1 < a0_1
      · rw [if_pos c13] at H
        have c13b0 : decide (x4_1 < a0_1) = true := decide_eq_true c13
        clear c13
        have H' := Aside0.mk H
        clear H
        have hnb14 := NB790_791.out
        have hnc14 := NB791_790.out
        have hnb15 := NB790_798.out
        have hnc15 := NB798_790.out
        have hcz16_0 : wr.cell? ⟨gb790, 0, none⟩ = some (.int .i64 a0_0) := B.bc BK790 0
        have hcz16_1 : wr.cell? ⟨gb790, 1, none⟩ = some (.int .i64 a0_1) := B.bc BK790 1
        have hcz16_2 : wr.cell? ⟨gb790, 2, none⟩ = some (.int .i64 a0_2) := B.bc BK790 2
        have hcz16_3 : wr.cell? ⟨gb790, 3, none⟩ = some (.slice A0_3 l0_3.length c0_3) := B.bc BK790 3
        have hfz16_0 := blk_frozen BK790.out 0
        have hfz16_1 := blk_frozen BK790.out 1
        have hfz16_2 := blk_frozen BK790.out 2
        have hfz16_3 := blk_frozen BK790.out 3
        go_wp2
        go_loopg [5] k1 (fun kq v5 w' => ∃ (x5_2 : Int) (x799003_2 : List Int) (u799003 : Value), v5 = .int .i64 x5_2 ∧ Aside0 (spec_mirror.l1 kq x4_1 x5_2 a0_0 a0_1 a0_2 l0_3 t792 t793 t794 x799003_2 = some (r1, r2, r3, r4)) ∧ Aside0 (kq ≤ k1) ∧ Aside0 (Kd.R (Kd.int .i64) 3 w' w.heap.size (fun _ => True) u799003 x799003_2) ∧ Aside0 (w'.heap[gb790]? = some (.cells #[.int .i64 a0_0, .int .i64 a0_1, .int .i64 a0_2, (.slice A0_3 l0_3.length c0_3)] 26 (0, 0))) ∧ Aside0 (w'.heap[gb791]? = some (.cells #[.int .i64 0, .int .i64 0, .int .i64 0, (.slice none 0 0)] 26 (0, 0))) ∧ Aside0 (w'.heap[gb798]? = some (.cells #[.int .i64 t792, .int .i64 t793, .int .i64 t794, u799003] 26 (0, 0))) ∧ Aside0 (Below w.heap.size w w'))
        case atStart => exact ⟨(0), (x799003_1), (u799003), (by first | rfl | (simp; done) | (simp [*]; done)), H', ⟨Nat.le_refl _⟩, ⟨B.kr HO_799003⟩, ⟨B.kb BK790⟩, ⟨B.kb BK791⟩, ⟨B.kb BK798⟩, ⟨B.bl HB⟩⟩
        case round =>
          clear H'
          try clear c1
          try clear p2
          try clear c5
          try clear c6
          try clear c9
          try clear c10
          try clear c13
          try clear c13b0
          try clear c14
          try clear c15
          try clear hcz11_0
          try clear hcz11_1
          try clear hcz11_2
          try clear hcz11_3
          try clear hcz16_0
          try clear hcz16_1
          try clear hcz16_2
          try clear hcz16_3
          try clear hcz6_0
          try clear hcz6_1
          try clear hcz6_2
          try clear hcz6_3
          try clear hfz11_0
          try clear hfz11_1
          try clear hfz11_2
          try clear hfz11_3
          try clear hfz16_0
          try clear hfz16_1
          try clear hfz16_2
          try clear hfz16_3
          try clear hfz6_0
          try clear hfz6_1
          try clear hfz6_2
          try clear hfz6_3
          try clear p2
          obtain ⟨x5_2, x799003_2, u799003, rfl, HA, HK2, HO_799003, BK790, BK791, BK798, HB⟩ := hrel
          cases gk with
          | zero => exact absurd HA.out (by simp [spec_mirror.l1])
          | succ k2 =>
            have H := HA.out
            clear HA
            simp only [spec_mirror.l1] at H
            by_cases c17 : x5_2 < a0_0
            · rw [if_pos c17] at H
              have c17b0 : decide (x5_2 < a0_0) = true := decide_eq_true c17
              clear c17
              replace H := Option.bind_eq_some_iff.mp H
              obtain ⟨t799, A180, H⟩ := H
              replace H : ((spec_setPixel.f k2 t792 t793 t794 x799003_2 (wrap64 ((wrap64 (a0_0 - 1)) - x5_2)) x4_1 t799).bind fun t802 => (spec_mirror.l1 k2 x4_1 (wrap64 (x5_2 + 1)) a0_0 a0_1 a0_2 l0_3 t792 t793 t794 t802)) = some (r1, r2, r3, r4) := H
              have A18 := Aside0.mk A180
              clear A180
              replace H := Option.bind_eq_some_iff.mp H
              obtain ⟨t802, A190, H⟩ := H
              replace H : (spec_mirror.l1 k2 x4_1 (wrap64 (x5_2 + 1)) a0_0 a0_1 a0_2 l0_3 t792 t793 t794 t802) = some (r1, r2, r3, r4) := H
              have A19 := Aside0.mk A190
              clear A190
              have H' := Aside0.mk H
              clear H
              have hnb20 := NB790_791.out
              have hnc20 := NB791_790.out
              have hnb21 := NB790_798.out
              have hnc21 := NB798_790.out
              have hcz22_0 : wr.cell? ⟨gb790, 0, none⟩ = some (.int .i64 a0_0) := B.bc BK790 0
              have hcz22_1 : wr.cell? ⟨gb790, 1, none⟩ = some (.int .i64 a0_1) := B.bc BK790 1
              have hcz22_2 : wr.cell? ⟨gb790, 2, none⟩ = some (.int .i64 a0_2) := B.bc BK790 2
              have hcz22_3 : wr.cell? ⟨gb790, 3, none⟩ = some (.slice A0_3 l0_3.length c0_3) := B.bc BK790 3
              have hfz22_0 := blk_frozen BK790.out 0
              have hfz22_1 := blk_frozen BK790.out 1
              have hfz22_2 := blk_frozen BK790.out 2
              have hfz22_3 := blk_frozen BK790.out 3
              try go_wp2
              have n0_ := Aside0.mk (Kd.R_drew HO_799003.out)
              have n1_ := Aside0.mk (blk_drew BK790.out)
              have n2_ := Aside0.mk (blk_drew BK791.out)
              have n3_ := Aside0.mk (blk_drew BK798.out)
              have n4_ := Aside0.mk (below_drew1 HB.out)
              clear HO_799003 BK790 BK791 BK798 HB
              have HO_799003 := n0_
              have BK790 := n1_
              have BK791 := n2_
              have BK798 := n3_
              have HB := n4_
              clear n0_ n1_ n2_ n3_ n4_
              refine start_ (n := 12) (S := fun w' => w'.cell? ⟨gb798, 0, none⟩ = some (.int .i64 t792) ∧ w'.cell? ⟨gb798, 1, none⟩ = some (.int .i64 t793) ∧ w'.cell? ⟨gb798, 2, none⟩ = some (.int .i64 t794) ∧ w'.cell? ⟨gb798, 3, none⟩ = some (u799003) ∧ w'.cell? ⟨gb790, 0, none⟩ = some (.int .i64 a0_0) ∧ w'.cell? ⟨gb790, 1, none⟩ = some (.int .i64 a0_1) ∧ w'.cell? ⟨gb790, 2, none⟩ = some (.int .i64 a0_2) ∧ w'.cell? ⟨gb790, 3, none⟩ = some (.slice A0_3 l0_3.length c0_3)) (ds := []) #[false, false, false, false, false, false, false, false, false, false, false, false] (by kernel_rfl) rfl rfl ⟨B.bc BK798 0, B.bc BK798 1, B.bc BK798 2, B.bc BK798 3, B.bc BK790 0, B.bc BK790 1, B.bc BK790 2, B.bc BK790 3⟩ (fun hHeld => ?_); refine with_tabW spec_mirror.tab8 spec_mirror.bits8 (fun HT_ HW_ => ?_)
              generalize wr.drew = w23 at HO_799003 BK790 BK791 BK798 HB hHeld ⊢
              refine pure_ (i := 1) (N := some 21) (v := ?_) (a' := ?_) #[false, true, false, false, false, false, false, false, false, false, false, false] rfl rfl (any_of HT_.out (by kernel_rfl)) (fun _ _ _ h => h) (Or.inl ⟨by rfl, ?_⟩) ?_ ?_
              rotate_left
              · intro w'
                go_simp
                with_reducible rfl
              rotate_left
              · simp only [Act.put, List.setIfInBounds_toArray, List.set_cons_zero, List.set_cons_succ, i64_w, i32_w]
                rfl
              refine pure_ (i := 4) (N := some 24) (v := ?_) (a' := ?_) #[false, true, false, false, true, false, false, false, false, false, false, false] rfl rfl (any_of HT_.out (by kernel_rfl)) (fun _ _ _ h => h) (Or.inl ⟨by rfl, ?_⟩) ?_ ?_
              rotate_left
              · intro w'
                go_simp
                with_reducible rfl
              rotate_left
              · simp only [Act.put, List.setIfInBounds_toArray, List.set_cons_zero, List.set_cons_succ, i64_w, i32_w]
                rfl
              refine pure_ (i := 6) (N := some 26) (v := ?_) (a' := ?_) #[false, true, false, false, true, false, true, false, false, false, false, false] rfl rfl (any_of HT_.out (by kernel_rfl)) (fun _ _ _ h => h) (Or.inl ⟨by rfl, ?_⟩) ?_ ?_
              rotate_left
              · intro w'
                go_simp
                with_reducible rfl
              rotate_left
              · simp only [Act.put, List.setIfInBounds_toArray, List.set_cons_zero, List.set_cons_succ, i64_w, i32_w]
                rfl
              refine pure_ (i := 8) (N := some 28) (v := ?_) (a' := ?_) #[false, true, false, false, true, false, true, false, true, false, false, false] rfl rfl (any_of HT_.out (by kernel_rfl)) (fun _ _ _ h => h) (Or.inl ⟨by rfl, ?_⟩) ?_ ?_
              rotate_left
              · intro w'
                go_simp
                with_reducible rfl
              rotate_left
              · simp only [Act.put, List.setIfInBounds_toArray, List.set_cons_zero, List.set_cons_succ, i64_w, i32_w]
                rfl
              refine pure_ (i := 9) (N := some 29) (v := ?_) (a' := ?_) #[false, true, false, false, true, false, true, false, true, true, false, false] rfl rfl (any_of HT_.out (by kernel_rfl)) (fun _ _ _ h => h) (Or.inl ⟨by rfl, ?_⟩) ?_ ?_
              rotate_left
              · intro w'
                go_simp
                with_reducible rfl
              rotate_left
              · simp only [Act.put, List.setIfInBounds_toArray, List.set_cons_zero, List.set_cons_succ, i64_w, i32_w]
                rfl
              refine take_ (i := 0) (N := some 20) (v := ?_) (a' := ?_) #[true, true, false, false, true, false, true, false, true, true, false, false] rfl rfl (take_ofW HT_.out HW_.out (by kernel_rfl)) (fun _ _ _ h => h) (Or.inl ⟨by rfl, ?_⟩) hHeld ?_ ?_
              rotate_left
              · rintro w' ⟨s0, s1, s2, s3, s4, s5, s6, s7⟩
                go_simp
                with_reducible rfl
              rotate_left
              · simp only [Act.put, List.setIfInBounds_toArray, List.set_cons_zero, List.set_cons_succ, i64_w, i32_w]
                rfl
              refine take_ (i := 2) (N := some 22) (v := ?_) (a' := ?_) #[true, true, true, false, true, false, true, false, true, true, false, false] rfl rfl (take_ofW HT_.out HW_.out (by kernel_rfl)) (fun _ _ _ h => h) (Or.inl ⟨by rfl, ?_⟩) hHeld ?_ ?_
              rotate_left
              · rintro w' ⟨s0, s1, s2, s3, s4, s5, s6, s7⟩
                go_simp
                with_reducible rfl
              rotate_left
              · simp only [Act.put, List.setIfInBounds_toArray, List.set_cons_zero, List.set_cons_succ, i64_w, i32_w]
                rfl
              refine pure_ (i := 3) (N := some 23) (v := ?_) (a' := ?_) #[true, true, true, true, true, false, true, false, true, true, false, false] rfl rfl (any_of HT_.out (by kernel_rfl)) (fun _ _ _ h => h) (Or.inl ⟨by rfl, ?_⟩) ?_ ?_
              rotate_left
              · intro w'
                go_simp
                with_reducible rfl
              rotate_left
              · simp only [Act.put, List.setIfInBounds_toArray, List.set_cons_zero, List.set_cons_succ, i64_w, i32_w]
                rfl
              refine pure_ (i := 5) (N := some 25) (v := ?_) (a' := ?_) #[true, true, true, true, true, true, true, false, true, true, false, false] rfl rfl (any_of HT_.out (by kernel_rfl)) (fun _ _ _ h => h) (Or.inl ⟨by rfl, ?_⟩) ?_ ?_
              rotate_left
              · intro w'
                go_simp
                with_reducible rfl
              rotate_left
              · simp only [Act.put, List.setIfInBounds_toArray, List.set_cons_zero, List.set_cons_succ, i64_w, i32_w]
                rfl
              refine take_ (i := 7) (N := some 27) (v := ?_) (a' := ?_) #[true, true, true, true, true, true, true, true, true, true, false, false] rfl rfl (take_ofW HT_.out HW_.out (by kernel_rfl)) (fun _ _ _ h => h) (Or.inl ⟨by rfl, ?_⟩) hHeld ?_ ?_
              rotate_left
              · rintro w' ⟨s0, s1, s2, s3, s4, s5, s6, s7⟩
                go_simp
                with_reducible rfl
              rotate_left
              · simp only [Act.put, List.setIfInBounds_toArray, List.set_cons_zero, List.set_cons_succ, i64_w, i32_w]
                rfl
              refine one_ (i := 10) (N := some 30) #[true, true, true, true, true, true, true, true, true, true, true, false] rfl rfl (one_of HT_.out (by kernel_rfl)) (by decide) (fun K hK => ?_)
              refine goes_ Try.func38 (by kernel_rfl) rfl #[.agg #[.int .i64 a0_0, .int .i64 a0_1, .int .i64 a0_2, .slice A0_3 l0_3.length c0_3], .int .i64 x5_2, .int .i64 x4_1] (by rfl) rfl rfl B.am ?_
              with_reducible refine (spec_pixelAt.calls a0_0 a0_1 a0_2 _ _ l0_3 x5_2 x4_1 t799 _ ?side1 ?side2 A18.out).mono ?_
              (case side1 => exact B.kc (Kd.C_below HR0_3.out HB.out))
              (case side2 => exact HC0_3.out)
              rintro e w24 ⟨v800, rfl, ho0, hb⟩
              refine ⟨_, rfl, ?_⟩
              have n0_ := Aside0.mk (Kd.R_elder' (B.kr HO_799003) (Kd.R_base ho0) hb)
              have n1_ := Aside0.mk (Kd.R_lower (Kd.R_new' ho0 (Kd.R_lt (B.kr HO_799003))) (below_size (B.bl HB)))
              have n2_ := Aside0.mk (blk_below (B.kb BK790) hb)
              have n3_ := Aside0.mk (blk_below (B.kb BK791) hb)
              have n4_ := Aside0.mk (blk_below (B.kb BK798) hb)
              have n5_ := Aside0.mk (below_step (B.bl HB) hb)
              clear HO_799003 BK790 BK791 BK798 HB
              have HO_799003 := n0_
              have HO801 := n1_
              have BK790 := n2_
              have BK791 := n3_
              have BK798 := n4_
              have HB := n5_
              clear n0_ n1_ n2_ n3_ n4_ n5_
              (try clear hb)
              (try clear hb2)
              (try clear hk)
              (try clear hi)
              (try clear ho0)
              obtain ⟨Ao25, co25, eo25⟩ := Kd.R_slice HO_799003.out
              (first | subst eo25 | (injection eo25 with f1_ f2_ f3_; have f4_ := f1_.symm; have f5_ := f3_.symm; clear f1_ f2_ f3_; subst f4_; subst f5_))
              obtain ⟨Ao26, co26, eo26⟩ := Kd.R_slice HO801.out
              (first | subst eo26 | (injection eo26 with f1_ f2_ f3_; have f4_ := f1_.symm; have f5_ := f3_.symm; clear f1_ f2_ f3_; subst f4_; subst f5_))
              refine hK.out _ _ ⟨B.bc BK798 0, B.bc BK798 1, B.bc BK798 2, B.bc BK798 3, B.bc BK790 0, B.bc BK790 1, B.bc BK790 2, B.bc BK790 3⟩ (fun hHeld => ?_)
              clear hK K
              refine norm_ (a' := ?_) ?_ ?_
              rotate_left
              · show Act.put _ (some 30) _ = _
                simp only [Act.put, List.setIfInBounds_toArray, List.set_cons_zero, List.set_cons_succ, i64_w, i32_w]
                rfl
              refine one_ (i := 11) (N := some 31) #[true, true, true, true, true, true, true, true, true, true, true, true] rfl rfl (one_of HT_.out (by kernel_rfl)) (by decide) (fun K hK => ?_)
              refine goes_ Try.func37 (by kernel_rfl) rfl #[.agg #[.int .i64 t792, .int .i64 t793, .int .i64 t794, .slice Ao25 x799003_2.length co25], .int .i64 (wrap64 ((wrap64 (a0_0 - 1)) - x5_2)), .int .i64 x4_1, .slice Ao26 t799.length co26] (by rfl) rfl rfl B.am ?_
              with_reducible refine (spec_setPixel.calls k2 t792 t793 t794 (fun k_ => some k_ = (.slice Ao25 x799003_2.length co25 : Value).ownBlock) (.slice Ao25 x799003_2.length co25) x799003_2 (wrap64 ((wrap64 (a0_0 - 1)) - x5_2)) x4_1 _ _ t799 t802 w _ ?side1 ?side2 ?side3 ?side4 A19.out).mono ?_
              (case side1 => exact B.bl HB)
              (case side2 => exact Kd.R_tight rfl HO_799003.out)
              (case side3 => exact Kd.C_kept_own (HO801.out) (fun k_ hk_ hs_ => (hk_.2) hs_))
              (case side4 => exact (Kd.R_reads' HO801.out).2.1)
              rintro e w27 ⟨rfl, hy0, hb, hkp⟩
              refine ⟨_, rfl, ?_⟩
              have n0_ := Aside0.mk (Kd.R_reok rfl hy0 (fun k_ e_ => HO_799003.out.1 k_ e_))
              have n1_ := Aside0.mk (blk_kept (B.kb BK790) hkp (fun hs_ => (fun e_ => (Kd.R_ne HO_799003.out BK790.out (by decide)) e_) hs_))
              have n2_ := Aside0.mk (blk_kept (B.kb BK791) hkp (fun hs_ => (fun e_ => (Kd.R_ne HO_799003.out BK791.out (by decide)) e_) hs_))
              have n3_ := Aside0.mk (blk_kept (B.kb BK798) hkp (fun hs_ => (fun e_ => (Kd.R_ne HO_799003.out BK798.out (by decide)) e_) hs_))
              have n4_ := Aside0.mk (Kd.R_mono (ok' := fun k_ => some k_ ≠ (.slice Ao25 x799003_2.length co25 : Value).ownBlock) (Kd.R_keptB (HO801.out) hkp (fun k_ hk_ hs_ => (hk_.2) hs_)) (fun k_ hk_ => hk_.1.2))
              have n5_ := Aside0.mk (hb)
              clear HO_799003 BK790 BK791 BK798 HO801 HB
              have HO_799003 := n0_
              have BK790 := n1_
              have BK791 := n2_
              have BK798 := n3_
              have HO801 := n4_
              have HB := n5_
              clear n0_ n1_ n2_ n3_ n4_ n5_
              (try clear hb)
              (try clear hkp)
              (try clear hy0)
              refine hK.out _ _ ⟨B.bc BK798 0, B.bc BK798 1, B.bc BK798 2, B.bc BK798 3, B.bc BK790 0, B.bc BK790 1, B.bc BK790 2, B.bc BK790 3⟩ (fun hHeld => ?_)
              clear hK K
              refine norm_ (a' := ?_) ?_ ?_
              rotate_left
              · show Act.put _ (some 31) _ = _
                simp only [Act.put, List.setIfInBounds_toArray, List.set_cons_zero, List.set_cons_succ, i64_w, i32_w]
                rfl
              refine done_ (done_of HT_.out (by kernel_rfl)) ?_
              try go_wp2
              go_roundg k2
              case measure => have := HK1.out; have := HK2.out; omega
              case rel => exact ⟨(wrap64 (x5_2 + 1)), (t802), (.slice Ao25 x799003_2.length co25), (by first | rfl | (simp; done) | (simp [*]; done)), H', ⟨by have := HK1.out; have := HK2.out; omega⟩, ⟨B.kr0 (Kd.R_mono HO_799003.out (fun _ hk => trivial))⟩, ⟨B.kb BK790⟩, ⟨B.kb BK791⟩, ⟨B.kb BK798⟩, ⟨B.bl HB⟩⟩
            rw [if_neg c17] at H
            have c17b0 : decide (x5_2 < a0_0) = false := decide_eq_false c17
            clear c17
            have H' := Aside0.mk H
            clear H
            have hnb28 := NB790_791.out
            have hnc28 := NB791_790.out
            have hnb29 := NB790_798.out
            have hnc29 := NB798_790.out
            have hcz30_0 : wr.cell? ⟨gb790, 0, none⟩ = some (.int .i64 a0_0) := B.bc BK790 0
            have hcz30_1 : wr.cell? ⟨gb790, 1, none⟩ = some (.int .i64 a0_1) := B.bc BK790 1
            have hcz30_2 : wr.cell? ⟨gb790, 2, none⟩ = some (.int .i64 a0_2) := B.bc BK790 2
            have hcz30_3 : wr.cell? ⟨gb790, 3, none⟩ = some (.slice A0_3 l0_3.length c0_3) := B.bc BK790 3
            have hfz30_0 := blk_frozen BK790.out 0
            have hfz30_1 := blk_frozen BK790.out 1
            have hfz30_2 := blk_frozen BK790.out 2
            have hfz30_3 := blk_frozen BK790.out 3
            go_wp2
            go_roundg k2
            case measure => have := HK1.out; have := HK2.out; omega
            case rel => exact ⟨(wrap64 (x4_1 + 1)), (x799003_2), (u799003), (by first | rfl | (simp; done) | (simp [*]; done)), H', ⟨by have := HK1.out; have := HK2.out; omega⟩, ⟨B.kr HO_799003⟩, ⟨B.kb BK790⟩, ⟨B.kb BK791⟩, ⟨B.kb BK798⟩, ⟨B.bl HB⟩⟩
      rw [if_neg c13] at H
      have c13b0 : decide (x4_1 < a0_1) = false := decide_eq_false c13
      clear c13
      simp only [Option.some.injEq, Prod.mk.injEq] at H
      obtain ⟨rfl, rfl, rfl, rfl⟩ := H
      have hnb31 := NB790_791.out
      have hnc31 := NB791_790.out
      have hnb32 := NB790_798.out
      have hnc32 := NB798_790.out
      have hcz33_0 : wr.cell? ⟨gb790, 0, none⟩ = some (.int .i64 a0_0) := B.bc BK790 0
      have hcz33_1 : wr.cell? ⟨gb790, 1, none⟩ = some (.int .i64 a0_1) := B.bc BK790 1
      have hcz33_2 : wr.cell? ⟨gb790, 2, none⟩ = some (.int .i64 a0_2) := B.bc BK790 2
      have hcz33_3 : wr.cell? ⟨gb790, 3, none⟩ = some (.slice A0_3 l0_3.length c0_3) := B.bc BK790 3
      have hfz33_0 := blk_frozen BK790.out 0
      have hfz33_1 := blk_frozen BK790.out 1
      have hfz33_2 := blk_frozen BK790.out 2
      have hfz33_3 := blk_frozen BK790.out 3
      have hnb34 := NB798_791.out
      have hnc34 := NB791_798.out
      have hcz35_0 : wr.cell? ⟨gb798, 0, none⟩ = some (.int .i64 t792) := B.bc BK798 0
      have hcz35_1 : wr.cell? ⟨gb798, 1, none⟩ = some (.int .i64 t793) := B.bc BK798 1
      have hcz35_2 : wr.cell? ⟨gb798, 2, none⟩ = some (.int .i64 t794) := B.bc BK798 2
      have hcz35_3 : wr.cell? ⟨gb798, 3, none⟩ = some (u799003) := B.bc BK798 3
      have hfz35_0 := blk_frozen BK798.out 0
      have hfz35_1 := blk_frozen BK798.out 1
      have hfz35_2 := blk_frozen BK798.out 2
      have hfz35_3 := blk_frozen BK798.out 3
      have hcz36_0 : wr.cell? ⟨gb791, 0, none⟩ = some (.int .i64 0) := B.bc BK791 0
      have hcz36_1 : wr.cell? ⟨gb791, 1, none⟩ = some (.int .i64 0) := B.bc BK791 1
      have hcz36_2 : wr.cell? ⟨gb791, 2, none⟩ = some (.int .i64 0) := B.bc BK791 2
      have hcz36_3 : wr.cell? ⟨gb791, 3, none⟩ = some (.slice none 0 0) := B.bc BK791 3
      have hfz36_0 := blk_frozen BK791.out 0
      have hfz36_1 := blk_frozen BK791.out 1
      have hfz36_2 := blk_frozen BK791.out 2
      have hfz36_3 := blk_frozen BK791.out 3
      obtain ⟨Ao37, co37, eo37⟩ := Kd.R_slice HO_799003.out
      subst eo37
      go_wp2
      refine bodyPost_ret (results_cell_row rfl _ _ gb791 26 #[.int .i64 t792, .int .i64 t793, .int .i64 t794, .slice Ao37 x799003_1.length co37] (0, 0) _ rfl (B.kb0 (B.bp4 BK791)) Try.underlying26 rfl (by kernel_rfl)) rfl ?_
      exact ⟨_, by first | rfl | (simp [errW_none, errW_some] <;> rfl) | (simp [*, errW_none, errW_some] <;> rfl), by (with_reducible repeat (first | apply Kd.R_alloc | apply Kd.R_drewN | apply Kd.R_drew)); exact Kd.R_mono (B.rf4 HO_799003 BK791) (fun _ hk => trivial), B.bl HB⟩

/-! ### spec_MirrorImage: function 32 -/
def spec_MirrorImage.f (k : Nat) (a0_0 : Int) (a0_1 : Int) (a0_2 : Int) (l0_3 : List Int) : Option (Int × Int × Int × List Int) := (spec_validImage.f k a0_0 a0_1 a0_2 l0_3).bind fun t805 => (if t805 = true then ((spec_mirror.f k a0_0 a0_1 a0_2 l0_3).bind fun bt806 => (some (bt806.1, bt806.2.1, bt806.2.2.1, bt806.2.2.2))) else (some (0, 0, 0, ([] : List Int))))
theorem spec_MirrorImage.mono : ∀ a0 a1 a2 a3 k, LeO (spec_MirrorImage.f k a0 a1 a2 a3) (spec_MirrorImage.f (k + 1) a0 a1 a2 a3) := by
  intro a0 a1 a2 a3 k
  unfold spec_MirrorImage.f
  repeat' first
      | (with_reducible exact spec_mirror.mono _ _ _ _ _)
      | (with_reducible exact spec_validImage.mono _ _ _ _ _)
      | (with_reducible exact LeO.refl _)
      | (with_reducible exact LeO.none _)
      | (with_reducible refine LeO.ite ?_ ?_)
      | (with_reducible refine LeO.bind ?_ (fun _ => ?_))
      | exact spec_mirror.mono _ _ _ _ _
      | exact spec_validImage.mono _ _ _ _ _
      | exact LeO.none _
      | refine LeO.ite ?_ ?_
      | refine LeO.bind ?_ (fun _ => ?_)
set_option maxHeartbeats 8000000 in
set_option maxRecDepth 100000 in
theorem spec_MirrorImage.calls (k : Nat) (a0_0 : Int) (a0_1 : Int) (a0_2 : Int) (A0_3 : Option Addr) (c0_3 : Nat) (l0_3 : List Int) (r1 : Int) (r2 : Int) (r3 : Int) (r4 : List Int) (w : World) (hr0_3 : Kd.C (Kd.int .i64) w A0_3 l0_3.length l0_3) (hc0_3 : l0_3.length ≤ c0_3) (h : spec_MirrorImage.f k a0_0 a0_1 a0_2 l0_3 = some (r1, r2, r3, r4)) :
    Calls Try.prog 32 #[.agg #[.int .i64 a0_0, .int .i64 a0_1, .int .i64 a0_2, .slice A0_3 l0_3.length c0_3]] w fun e w' => ∃ v3_ : Value, e = .returned (.agg #[.int .i64 r1, .int .i64 r2, .int .i64 r3, v3_]) ∧ Kd.R (Kd.int .i64) 3 w' w.heap.size (fun _ => True) v3_ r4 ∧ Below w.heap.size w w' := by
  have hu26 := Try.underlying26
  have HR0_3 := Aside0.mk hr0_3
  have HC0_3 := Aside0.mk hc0_3
  clear hr0_3 hc0_3
  have HB := Aside0.mk (Below.refl w.heap.size w)
  have H : ((spec_validImage.f k a0_0 a0_1 a0_2 l0_3).bind fun t805 => (if t805 = true then ((spec_mirror.f k a0_0 a0_1 a0_2 l0_3).bind fun bt806 => (some (bt806.1, bt806.2.1, bt806.2.2.1, bt806.2.2.2))) else (some (0, 0, 0, ([] : List Int))))) = some (r1, r2, r3, r4) := h
  clear h
  replace H := Option.bind_eq_some_iff.mp H
  obtain ⟨t805, A20, H⟩ := H
  replace H : (if t805 = true then ((spec_mirror.f k a0_0 a0_1 a0_2 l0_3).bind fun bt806 => (some (bt806.1, bt806.2.1, bt806.2.2.1, bt806.2.2.2))) else (some (0, 0, 0, ([] : List Int)))) = some (r1, r2, r3, r4) := H
  have A2 := Aside0.mk A20
  clear A20
  by_cases c3 : t805 = true
  · subst c3
    have H1 : ((spec_mirror.f k a0_0 a0_1 a0_2 l0_3).bind fun bt806 => (some (bt806.1, bt806.2.1, bt806.2.2.1, bt806.2.2.2))) = some (r1, r2, r3, r4) := by rw [if_pos rfl] at H; exact H
    clear H
    have H := H1
    clear H1
    replace H := Option.bind_eq_some_iff.mp H
    obtain ⟨⟨t806, t807, t808, t809⟩, A40, H⟩ := H
    replace H : (some (t806, t807, t808, t809)) = some (r1, r2, r3, r4) := H
    have A4 := Aside0.mk A40
    clear A40
    simp only [Option.some.injEq, Prod.mk.injEq] at H
    obtain ⟨rfl, rfl, rfl, rfl⟩ := H
    go_enter Try.func32, Try.ntmps32
    go_wp2_with (first | ((with_reducible refine gate_dst (N := 1) rfl ?_); refine box_event ?hg (N := 1) ?hd (cs := #[.int .i64 a0_0, .int .i64 a0_1, .int .i64 a0_2, .slice A0_3 l0_3.length c0_3]) (t := 26) ?hr ?_; (case hd => rfl); (case hg => rfl); (case hr => first | (go_simp; done) | (go_simp; rfl)); intro gb803 hg w5 hbox hb; have n0_ := Aside0.mk (below_step (B.bl HB) hb); have n1_ := Aside0.mk (hbox); have n2_ := Aside0.mk (B.nle hg (below_size (B.bl HB))); have n3_ := Aside0.mk (B.nle hg (below_size (B.bl HB))); clear HB; have HB := n0_; have BK803 := n1_; have GW803 := n2_; have GE803 := n3_; clear n0_ n1_ n2_ n3_; clear hb hbox hg) | ((with_reducible refine gate_dst (N := 2) rfl ?_); refine box_event ?hg (N := 2) ?hd (cs := #[.int .i64 0, .int .i64 0, .int .i64 0, .slice none 0 0]) (t := 26) ?hr ?_; (case hd => rfl); (case hg => rfl); (case hr => first | (go_simp; done) | (go_simp; rfl)); intro gb804 hg w6 hbox hb; have n0_ := Aside0.mk (blk_below (B.kb BK803) hb); have n1_ := Aside0.mk (below_step (B.bl HB) hb); have n2_ := Aside0.mk (hbox); have n3_ := Aside0.mk (B.nle hg (below_size (B.bl HB))); have n4_ := Aside0.mk (B.nle hg (below_size (B.bl HB))); have n5_ := Aside0.mk (B.nlt hg (blk_lt (B.kb BK803))); have n6_ := Aside0.mk (B.ngt hg (blk_lt (B.kb BK803))); clear BK803 HB; have BK803 := n0_; have HB := n1_; have BK804 := n2_; have GW804 := n3_; have GE804 := n4_; have NB803_804 := n5_; have NB804_803 := n6_; clear n0_ n1_ n2_ n3_ n4_ n5_ n6_; clear hb hbox hg; have hnb7 := NB803_804.out; have hnc7 := NB804_803.out; have hcz8_0 : w6.cell? ⟨gb803, 0, none⟩ = some (.int .i64 a0_0) := B.bc BK803 0; have hcz8_1 : w6.cell? ⟨gb803, 1, none⟩ = some (.int .i64 a0_1) := B.bc BK803 1; have hcz8_2 : w6.cell? ⟨gb803, 2, none⟩ = some (.int .i64 a0_2) := B.bc BK803 2; have hcz8_3 : w6.cell? ⟨gb803, 3, none⟩ = some (.slice A0_3 l0_3.length c0_3) := B.bc BK803 3; have hfz8_0 := blk_frozen BK803.out 0; have hfz8_1 := blk_frozen BK803.out 1; have hfz8_2 := blk_frozen BK803.out 2; have hfz8_3 := blk_frozen BK803.out 3) | ((with_reducible refine gate_callee (f := 35) rfl ?_); refine goesL_ (some 4) rfl rfl Try.func35 (by kernel_rfl) rfl #[.agg #[.int .i64 a0_0, .int .i64 a0_1, .int .i64 a0_2, .slice A0_3 l0_3.length c0_3]] rfl B.am ?_; (with_reducible refine (spec_validImage.calls k a0_0 a0_1 a0_2 _ _ l0_3 true _ ?side1 ?side2 A2.out).mono ?_); (case side1 => exact B.kc (Kd.C_below HR0_3.out HB.out)); (case side2 => exact HC0_3.out); rintro e w9 ⟨rfl, hb⟩; refine ⟨_, rfl, ?_⟩; have n0_ := Aside0.mk (blk_below (B.kb BK803) hb); have n1_ := Aside0.mk (blk_below (B.kb BK804) hb); have n2_ := Aside0.mk (below_step (B.bl HB) hb); clear BK803 BK804 HB; have BK803 := n0_; have BK804 := n1_; have HB := n2_; clear n0_ n1_ n2_; (try clear hb); (try clear hb2); (try clear hk); (try clear hi); have hcz10_0 : w9.cell? ⟨gb803, 0, none⟩ = some (.int .i64 a0_0) := B.bc BK803 0; have hcz10_1 : w9.cell? ⟨gb803, 1, none⟩ = some (.int .i64 a0_1) := B.bc BK803 1; have hcz10_2 : w9.cell? ⟨gb803, 2, none⟩ = some (.int .i64 a0_2) := B.bc BK803 2; have hcz10_3 : w9.cell? ⟨gb803, 3, none⟩ = some (.slice A0_3 l0_3.length c0_3) := B.bc BK803 3; have hfz10_0 := blk_frozen BK803.out 0; have hfz10_1 := blk_frozen BK803.out 1; have hfz10_2 := blk_frozen BK803.out 2; have hfz10_3 := blk_frozen BK803.out 3) | ((with_reducible refine gate_callee (f := 63) rfl ?_); refine goesL_ (some 8) rfl rfl Try.func63 (by kernel_rfl) rfl #[.agg #[.int .i64 a0_0, .int .i64 a0_1, .int .i64 a0_2, .slice A0_3 l0_3.length c0_3]] rfl B.am ?_; (with_reducible refine (spec_mirror.calls k a0_0 a0_1 a0_2 _ _ l0_3 t806 t807 t808 t809 _ ?side1 ?side2 A4.out).mono ?_); (case side1 => exact B.kc (Kd.C_below HR0_3.out HB.out)); (case side2 => exact HC0_3.out); rintro e w11 ⟨v810, rfl, ho0, hb⟩; refine ⟨_, rfl, ?_⟩; have n0_ := Aside0.mk (Kd.R_lower ho0 (below_size (B.bl HB))); have n1_ := Aside0.mk (blk_below (B.kb BK803) hb); have n2_ := Aside0.mk (blk_below (B.kb BK804) hb); have n3_ := Aside0.mk (below_step (B.bl HB) hb); clear BK803 BK804 HB; have HO811 := n0_; have BK803 := n1_; have BK804 := n2_; have HB := n3_; clear n0_ n1_ n2_ n3_; (try clear hb); (try clear hb2); (try clear hk); (try clear hi); (try clear ho0); have hcz12_0 : w11.cell? ⟨gb804, 0, none⟩ = some (.int .i64 0) := B.bc BK804 0; have hcz12_1 : w11.cell? ⟨gb804, 1, none⟩ = some (.int .i64 0) := B.bc BK804 1; have hcz12_2 : w11.cell? ⟨gb804, 2, none⟩ = some (.int .i64 0) := B.bc BK804 2; have hcz12_3 : w11.cell? ⟨gb804, 3, none⟩ = some (.slice none 0 0) := B.bc BK804 3; have hfz12_0 := blk_frozen BK804.out 0; have hfz12_1 := blk_frozen BK804.out 1; have hfz12_2 := blk_frozen BK804.out 2; have hfz12_3 := blk_frozen BK804.out 3; obtain ⟨Ao13, co13, eo13⟩ := Kd.R_slice HO811.out; subst eo13))
    refine bodyPost_ret (results_cell_row rfl _ _ gb804 26 #[.int .i64 t806, .int .i64 t807, .int .i64 t808, .slice Ao13 t809.length co13] (0, 0) _ rfl (B.kb0 (B.bp4 BK804)) Try.underlying26 rfl (by kernel_rfl)) rfl ?_
    exact ⟨_, by first | rfl | (simp [errW_none, errW_some] <;> rfl) | (simp [*, errW_none, errW_some] <;> rfl), by (with_reducible repeat (first | apply Kd.R_alloc | apply Kd.R_drewN | apply Kd.R_drew)); exact Kd.R_mono (B.rf4 HO811 BK804) (fun _ hk => trivial), B.bl HB⟩
  replace c3 := Bool.eq_false_iff.mpr c3
  subst c3
  have H1 : (some (0, 0, 0, ([] : List Int))) = some (r1, r2, r3, r4) := by rw [if_neg (show ¬ (false = true) by decide)] at H; exact H
  clear H
  have H := H1
  clear H1
  simp only [Option.some.injEq, Prod.mk.injEq] at H
  obtain ⟨rfl, rfl, rfl, rfl⟩ := H
  go_enter Try.func32, Try.ntmps32
  go_wp2_with (first | ((with_reducible refine gate_dst (N := 1) rfl ?_); refine box_event ?hg (N := 1) ?hd (cs := #[.int .i64 a0_0, .int .i64 a0_1, .int .i64 a0_2, .slice A0_3 l0_3.length c0_3]) (t := 26) ?hr ?_; (case hd => rfl); (case hg => rfl); (case hr => first | (go_simp; done) | (go_simp; rfl)); intro gb803 hg w14 hbox hb; have n0_ := Aside0.mk (below_step (B.bl HB) hb); have n1_ := Aside0.mk (hbox); have n2_ := Aside0.mk (B.nle hg (below_size (B.bl HB))); have n3_ := Aside0.mk (B.nle hg (below_size (B.bl HB))); clear HB; have HB := n0_; have BK803 := n1_; have GW803 := n2_; have GE803 := n3_; clear n0_ n1_ n2_ n3_; clear hb hbox hg) | ((with_reducible refine gate_dst (N := 2) rfl ?_); refine box_event ?hg (N := 2) ?hd (cs := #[.int .i64 0, .int .i64 0, .int .i64 0, .slice none 0 0]) (t := 26) ?hr ?_; (case hd => rfl); (case hg => rfl); (case hr => first | (go_simp; done) | (go_simp; rfl)); intro gb804 hg w15 hbox hb; have n0_ := Aside0.mk (blk_below (B.kb BK803) hb); have n1_ := Aside0.mk (below_step (B.bl HB) hb); have n2_ := Aside0.mk (hbox); have n3_ := Aside0.mk (B.nle hg (below_size (B.bl HB))); have n4_ := Aside0.mk (B.nle hg (below_size (B.bl HB))); have n5_ := Aside0.mk (B.nlt hg (blk_lt (B.kb BK803))); have n6_ := Aside0.mk (B.ngt hg (blk_lt (B.kb BK803))); clear BK803 HB; have BK803 := n0_; have HB := n1_; have BK804 := n2_; have GW804 := n3_; have GE804 := n4_; have NB803_804 := n5_; have NB804_803 := n6_; clear n0_ n1_ n2_ n3_ n4_ n5_ n6_; clear hb hbox hg; have hnb16 := NB803_804.out; have hnc16 := NB804_803.out; have hcz17_0 : w15.cell? ⟨gb803, 0, none⟩ = some (.int .i64 a0_0) := B.bc BK803 0; have hcz17_1 : w15.cell? ⟨gb803, 1, none⟩ = some (.int .i64 a0_1) := B.bc BK803 1; have hcz17_2 : w15.cell? ⟨gb803, 2, none⟩ = some (.int .i64 a0_2) := B.bc BK803 2; have hcz17_3 : w15.cell? ⟨gb803, 3, none⟩ = some (.slice A0_3 l0_3.length c0_3) := B.bc BK803 3; have hfz17_0 := blk_frozen BK803.out 0; have hfz17_1 := blk_frozen BK803.out 1; have hfz17_2 := blk_frozen BK803.out 2; have hfz17_3 := blk_frozen BK803.out 3) | ((with_reducible refine gate_callee (f := 35) rfl ?_); refine goesL_ (some 4) rfl rfl Try.func35 (by kernel_rfl) rfl #[.agg #[.int .i64 a0_0, .int .i64 a0_1, .int .i64 a0_2, .slice A0_3 l0_3.length c0_3]] rfl B.am ?_; (with_reducible refine (spec_validImage.calls k a0_0 a0_1 a0_2 _ _ l0_3 false _ ?side1 ?side2 A2.out).mono ?_); (case side1 => exact B.kc (Kd.C_below HR0_3.out HB.out)); (case side2 => exact HC0_3.out); rintro e w18 ⟨rfl, hb⟩; refine ⟨_, rfl, ?_⟩; have n0_ := Aside0.mk (blk_below (B.kb BK803) hb); have n1_ := Aside0.mk (blk_below (B.kb BK804) hb); have n2_ := Aside0.mk (below_step (B.bl HB) hb); clear BK803 BK804 HB; have BK803 := n0_; have BK804 := n1_; have HB := n2_; clear n0_ n1_ n2_; (try clear hb); (try clear hb2); (try clear hk); (try clear hi); have hcz19_0 : w18.cell? ⟨gb804, 0, none⟩ = some (.int .i64 0) := B.bc BK804 0; have hcz19_1 : w18.cell? ⟨gb804, 1, none⟩ = some (.int .i64 0) := B.bc BK804 1; have hcz19_2 : w18.cell? ⟨gb804, 2, none⟩ = some (.int .i64 0) := B.bc BK804 2; have hcz19_3 : w18.cell? ⟨gb804, 3, none⟩ = some (.slice none 0 0) := B.bc BK804 3; have hfz19_0 := blk_frozen BK804.out 0; have hfz19_1 := blk_frozen BK804.out 1; have hfz19_2 := blk_frozen BK804.out 2; have hfz19_3 := blk_frozen BK804.out 3))
  refine bodyPost_ret (results_cell_row rfl _ _ gb804 26 #[.int .i64 0, .int .i64 0, .int .i64 0, .slice none 0 0] (0, 0) _ rfl (B.kb0 (B.bp4 BK804)) Try.underlying26 rfl (by kernel_rfl)) rfl ?_
  exact ⟨_, by first | rfl | (simp [errW_none, errW_some] <;> rfl) | (simp [*, errW_none, errW_some] <;> rfl), by first | exact Kd.R_nil _ _ _ _ _ | exact Kd.N_nil _ _ _ _ _ | exact Kd.V_nil _ _ _ _ _ | exact Kd.Q_nil _ _ _ _ _ | exact Kd.S_nil _ _ _ _ _, B.bl HB⟩

end Go.Proofs.Ytibbkaoghbmncaa.Q
