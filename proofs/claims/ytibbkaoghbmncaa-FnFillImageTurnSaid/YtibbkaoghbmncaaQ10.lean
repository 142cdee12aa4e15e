-- Written by a program of this session (the kit's printer, with hand-proved contracts for the functions that it does not take).
import Derived.Test.YtibbkaoghbmncaaQ0
import Derived.Test.YtibbkaoghbmncaaQ1
import Derived.Test.YtibbkaoghbmncaaQ2
import Derived.Test.YtibbkaoghbmncaaQ4
namespace Go.Proofs.Ytibbkaoghbmncaa.Q
open Go.RowKit Go.Proofs.YtibbkaoghbmncaaW.PrintWords Go.Proofs.YtibbkaoghbmncaaW.PrintLast Go.Proofs.YtibbkaoghbmncaaW.PrintMore
attribute [local go_sem] max2_int min2_int max_two min_two max_three min_three max_four min_four   -- for this text's walks alone
set_option linter.unusedVariables false
set_option linter.unusedSimpArgs false

/-! ### spec_turn: function 55 -/
mutual
def spec_turn.l0 : Nat → Int → Int → Int → Int → List Int → Int → Int → Int → List Int → Option (Int × Int × Int × List Int)
  | 0, _, _, _, _, _, _, _, _, _ => none
  | k + 1, x4, x410000, x410001, x410002, x410003, x418000, x418001, x418002, x418003 => if x4 < x410001 then (spec_turn.l1 k x4 0 x410000 x410001 x410002 x410003 x418000 x418001 x418002 x418003) else (some (x418000, x418001, x418002, x418003))
def spec_turn.l1 : Nat → Int → Int → Int → Int → Int → List Int → Int → Int → Int → List Int → Option (Int × Int × Int × List Int)
  | 0, _, _, _, _, _, _, _, _, _, _ => none
  | k + 1, x4, x5, x410000, x410001, x410002, x410003, x418000, x418001, x418002, x418003 => if x5 < x410000 then ((spec_pixelAt.f x410000 x410001 x410002 x410003 x5 x4).bind fun t418 => ((spec_setPixel.f k x418000 x418001 x418002 x418003 (wrap64 ((wrap64 (x410001 - 1)) - x4)) x5 t418).bind fun t421 => (spec_turn.l1 k x4 (wrap64 (x5 + 1)) x410000 x410001 x410002 x410003 x418000 x418001 x418002 t421))) else (spec_turn.l0 k (wrap64 (x4 + 1)) x410000 x410001 x410002 x410003 x418000 x418001 x418002 x418003)
end
def spec_turn.f (k : Nat) (a0_0 : Int) (a0_1 : Int) (a0_2 : Int) (l0_3 : List Int) : Option (Int × Int × Int × List Int) := (spec_newImage.f a0_1 a0_0 a0_2).bind fun bt411 => (spec_turn.l0 k 0 a0_0 a0_1 a0_2 l0_3 bt411.1 bt411.2.1 bt411.2.2.1 bt411.2.2.2)
theorem spec_turn.mono_l : ∀ k, (∀ y0 y1 y2 y3 y4 y5 y6 y7 y8, LeO (spec_turn.l0 k y0 y1 y2 y3 y4 y5 y6 y7 y8) (spec_turn.l0 (k + 1) y0 y1 y2 y3 y4 y5 y6 y7 y8)) ∧ (∀ y0 y1 y2 y3 y4 y5 y6 y7 y8 y9, LeO (spec_turn.l1 k y0 y1 y2 y3 y4 y5 y6 y7 y8 y9) (spec_turn.l1 (k + 1) y0 y1 y2 y3 y4 y5 y6 y7 y8 y9))
  | 0 => ⟨fun _ _ _ _ _ _ _ _ _ r h => by simp [spec_turn.l0] at h, fun _ _ _ _ _ _ _ _ _ _ r h => by simp [spec_turn.l1] at h⟩
  | k + 1 => by
    obtain ⟨ih0, ih1⟩ := spec_turn.mono_l k
    refine ⟨?_, ?_⟩
    · intro y0 y1 y2 y3 y4 y5 y6 y7 y8
      unfold spec_turn.l0
      repeat' first
      | (with_reducible exact ih0 _ _ _ _ _ _ _ _ _)
      | (with_reducible exact ih1 _ _ _ _ _ _ _ _ _ _)
      | (with_reducible exact spec_setPixel.mono _ _ _ _ _ _ _ _)
      | (with_reducible exact LeO.refl _)
      | (with_reducible exact LeO.none _)
      | (with_reducible refine LeO.ite ?_ ?_)
      | (with_reducible refine LeO.bind ?_ (fun _ => ?_))
      | exact ih0 _ _ _ _ _ _ _ _ _
      | exact ih1 _ _ _ _ _ _ _ _ _ _
      | exact spec_setPixel.mono _ _ _ _ _ _ _ _
      | exact LeO.none _
      | refine LeO.ite ?_ ?_
      | refine LeO.bind ?_ (fun _ => ?_)
    intro y0 y1 y2 y3 y4 y5 y6 y7 y8 y9
    unfold spec_turn.l1
    repeat' first
    | (with_reducible exact ih0 _ _ _ _ _ _ _ _ _)
    | (with_reducible exact ih1 _ _ _ _ _ _ _ _ _ _)
    | (with_reducible exact spec_setPixel.mono _ _ _ _ _ _ _ _)
    | (with_reducible exact LeO.refl _)
    | (with_reducible exact LeO.none _)
    | (with_reducible refine LeO.ite ?_ ?_)
    | (with_reducible refine LeO.bind ?_ (fun _ => ?_))
    | exact ih0 _ _ _ _ _ _ _ _ _
    | exact ih1 _ _ _ _ _ _ _ _ _ _
    | exact spec_setPixel.mono _ _ _ _ _ _ _ _
    | exact LeO.none _
    | refine LeO.ite ?_ ?_
    | refine LeO.bind ?_ (fun _ => ?_)
theorem spec_turn.mono : ∀ a0 a1 a2 a3 k, LeO (spec_turn.f k a0 a1 a2 a3) (spec_turn.f (k + 1) a0 a1 a2 a3) := by
  intro a0 a1 a2 a3 k
  obtain ⟨ih0, ih1⟩ := spec_turn.mono_l k
  unfold spec_turn.f
  repeat' first
      | (with_reducible exact ih0 _ _ _ _ _ _ _ _ _)
      | (with_reducible exact ih1 _ _ _ _ _ _ _ _ _ _)
      | (with_reducible exact spec_setPixel.mono _ _ _ _ _ _ _ _)
      | (with_reducible exact LeO.refl _)
      | (with_reducible exact LeO.none _)
      | (with_reducible refine LeO.ite ?_ ?_)
      | (with_reducible refine LeO.bind ?_ (fun _ => ?_))
      | exact ih0 _ _ _ _ _ _ _ _ _
      | exact ih1 _ _ _ _ _ _ _ _ _ _
      | exact spec_setPixel.mono _ _ _ _ _ _ _ _
      | exact LeO.none _
      | refine LeO.ite ?_ ?_
      | refine LeO.bind ?_ (fun _ => ?_)
def spec_turn.T8 : Bool × List (List Nat × List Nat) := (true, [([], []), ([], []), ([1], [1]), ([2], [2]), ([], []), ([3, 4], [3, 4]), ([], []), ([], []), ([], []), ([], []), ([7, 8, 9], [7, 8, 9]), ([0, 5, 6, 10, 10], [0, 5, 6, 10])])
def spec_turn.B8 : List Nat := [0, 0, 2, 6, 0, 30, 0, 0, 0, 0, 896, 2047]
theorem spec_turn.tab8 : rtab .any (opsOf Try.f55 8) = spec_turn.T8 := by kernel_rfl
theorem spec_turn.bits8 : waitsOk spec_turn.T8.2 spec_turn.B8 = true := by kernel_rfl
set_option maxHeartbeats 8000000 in
set_option maxRecDepth 100000 in
theorem spec_turn.calls (k : Nat) (a0_0 : Int) (a0_1 : Int) (a0_2 : Int) (A0_3 : Option Addr) (c0_3 : Nat) (l0_3 : List Int) (r1 : Int) (r2 : Int) (r3 : Int) (r4 : List Int) (w : World) (hr0_3 : Kd.C (Kd.int .i64) w A0_3 l0_3.length l0_3) (hc0_3 : l0_3.length ≤ c0_3) (h : spec_turn.f k a0_0 a0_1 a0_2 l0_3 = some (r1, r2, r3, r4)) :
    Calls Try.prog 55 #[.agg #[.int .i64 a0_0, .int .i64 a0_1, .int .i64 a0_2, .slice A0_3 l0_3.length c0_3]] w fun e w' => ∃ v3_ : Value, e = .returned (.agg #[.int .i64 r1, .int .i64 r2, .int .i64 r3, v3_]) ∧ Kd.R (Kd.int .i64) 3 w' w.heap.size (fun _ => True) v3_ r4 ∧ Below w.heap.size w w' := by
  have hu26 := Try.underlying26
  have HR0_3 := Aside0.mk hr0_3
  have HC0_3 := Aside0.mk hc0_3
  clear hr0_3 hc0_3
  have HB := Aside0.mk (Below.refl w.heap.size w)
  have H : ((spec_newImage.f a0_1 a0_0 a0_2).bind fun bt411 => (spec_turn.l0 k 0 a0_0 a0_1 a0_2 l0_3 bt411.1 bt411.2.1 bt411.2.2.1 bt411.2.2.2)) = some (r1, r2, r3, r4) := h
  clear h
  replace H := Option.bind_eq_some_iff.mp H
  obtain ⟨⟨t411, t412, t413, t414⟩, A20, H⟩ := H
  replace H : (spec_turn.l0 k 0 a0_0 a0_1 a0_2 l0_3 t411 t412 t413 t414) = some (r1, r2, r3, r4) := H
  have A2 := Aside0.mk A20
  clear A20
  have H' := Aside0.mk H
  clear H
  go_enter Try.func55, Try.ntmps55
  go_wp2_with (first | ((with_reducible refine gate_dst (N := 1) rfl ?_); refine box_event ?hg (N := 1) ?hd (cs := #[.int .i64 a0_0, .int .i64 a0_1, .int .i64 a0_2, .slice A0_3 l0_3.length c0_3]) (t := 26) ?hr ?_; (case hd => rfl); (case hg => rfl); (case hr => first | (go_simp; done) | (go_simp; rfl)); intro gb409 hg w3 hbox hb; have n0_ := Aside0.mk (below_step (B.bl HB) hb); have n1_ := Aside0.mk (hbox); have n2_ := Aside0.mk (B.nle hg (below_size (B.bl HB))); have n3_ := Aside0.mk (B.nle hg (below_size (B.bl HB))); clear HB; have HB := n0_; have BK409 := n1_; have GW409 := n2_; have GE409 := n3_; clear n0_ n1_ n2_ n3_; clear hb hbox hg) | ((with_reducible refine gate_dst (N := 2) rfl ?_); refine box_event ?hg (N := 2) ?hd (cs := #[.int .i64 0, .int .i64 0, .int .i64 0, .slice none 0 0]) (t := 26) ?hr ?_; (case hd => rfl); (case hg => rfl); (case hr => first | (go_simp; done) | (go_simp; rfl)); intro gb410 hg w4 hbox hb; have n0_ := Aside0.mk (blk_below (B.kb BK409) hb); have n1_ := Aside0.mk (below_step (B.bl HB) hb); have n2_ := Aside0.mk (hbox); have n3_ := Aside0.mk (B.nle hg (below_size (B.bl HB))); have n4_ := Aside0.mk (B.nle hg (below_size (B.bl HB))); have n5_ := Aside0.mk (B.nlt hg (blk_lt (B.kb BK409))); have n6_ := Aside0.mk (B.ngt hg (blk_lt (B.kb BK409))); clear BK409 HB; have BK409 := n0_; have HB := n1_; have BK410 := n2_; have GW410 := n3_; have GE410 := n4_; have NB409_410 := n5_; have NB410_409 := n6_; clear n0_ n1_ n2_ n3_ n4_ n5_ n6_; clear hb hbox hg; have hnb5 := NB409_410.out; have hnc5 := NB410_409.out; have hcz6_0 : w4.cell? ⟨gb409, 0, none⟩ = some (.int .i64 a0_0) := B.bc BK409 0; have hcz6_1 : w4.cell? ⟨gb409, 1, none⟩ = some (.int .i64 a0_1) := B.bc BK409 1; have hcz6_2 : w4.cell? ⟨gb409, 2, none⟩ = some (.int .i64 a0_2) := B.bc BK409 2; have hcz6_3 : w4.cell? ⟨gb409, 3, none⟩ = some (.slice A0_3 l0_3.length c0_3) := B.bc BK409 3; have hfz6_0 := blk_frozen BK409.out 0; have hfz6_1 := blk_frozen BK409.out 1; have hfz6_2 := blk_frozen BK409.out 2; have hfz6_3 := blk_frozen BK409.out 3) | ((with_reducible refine gate_callee (f := 36) rfl ?_); refine goesL_ (some 12) rfl rfl Try.func36 (by kernel_rfl) rfl #[.int .i64 a0_1, .int .i64 a0_0, .int .i64 a0_2] rfl B.am ?_; (with_reducible refine (spec_newImage.calls a0_1 a0_0 a0_2 t411 t412 t413 t414 _ A2.out).mono ?_); rintro e w7 ⟨v415, rfl, ho0, hb⟩; refine ⟨_, rfl, ?_⟩; have n0_ := Aside0.mk (Kd.R_lower ho0 (below_size (B.bl HB))); have n1_ := Aside0.mk (blk_below (B.kb BK409) hb); have n2_ := Aside0.mk (blk_below (B.kb BK410) hb); have n3_ := Aside0.mk (below_step (B.bl HB) hb); clear BK409 BK410 HB; have HO416 := n0_; have BK409 := n1_; have BK410 := n2_; have HB := n3_; clear n0_ n1_ n2_ n3_; (try clear hb); (try clear hb2); (try clear hk); (try clear hi); (try clear ho0)) | ((with_reducible refine gate_dst (N := 3) rfl ?_); refine box_event ?hg (N := 3) ?hd (cs := #[.int .i64 0, .int .i64 0, .int .i64 0, .slice none 0 0]) (t := 26) ?hr ?_; (case hd => rfl); (case hg => rfl); (case hr => first | (go_simp; done) | (go_simp; rfl)); intro gb417 hg w8 hbox hb; have n0_ := Aside0.mk (Kd.R_below (B.kr HO416) hb); have n1_ := Aside0.mk (blk_below (B.kb BK409) hb); have n2_ := Aside0.mk (blk_below (B.kb BK410) hb); have n3_ := Aside0.mk (below_step (B.bl HB) hb); have n4_ := Aside0.mk (hbox); have n5_ := Aside0.mk (B.nle hg (below_size (B.bl HB))); have n6_ := Aside0.mk (B.nle hg (below_size (B.bl HB))); have n7_ := Aside0.mk (B.nlt hg (blk_lt (B.kb BK409))); have n8_ := Aside0.mk (B.ngt hg (blk_lt (B.kb BK409))); have n9_ := Aside0.mk (B.nlt hg (blk_lt (B.kb BK410))); have n10_ := Aside0.mk (B.ngt hg (blk_lt (B.kb BK410))); clear HO416 BK409 BK410 HB; have HO416 := n0_; have BK409 := n1_; have BK410 := n2_; have HB := n3_; have BK417 := n4_; have GW417 := n5_; have GE417 := n6_; have NB409_417 := n7_; have NB417_409 := n8_; have NB410_417 := n9_; have NB417_410 := n10_; clear n0_ n1_ n2_ n3_ n4_ n5_ n6_ n7_ n8_ n9_ n10_; clear hb hbox hg; have hnb9 := NB417_409.out; have hnc9 := NB409_417.out; have hnb10 := NB417_410.out; have hnc10 := NB410_417.out; have hcz11_0 : w8.cell? ⟨gb417, 0, none⟩ = some (.int .i64 0) := B.bc BK417 0; have hcz11_1 : w8.cell? ⟨gb417, 1, none⟩ = some (.int .i64 0) := B.bc BK417 1; have hcz11_2 : w8.cell? ⟨gb417, 2, none⟩ = some (.int .i64 0) := B.bc BK417 2; have hcz11_3 : w8.cell? ⟨gb417, 3, none⟩ = some (.slice none 0 0) := B.bc BK417 3; have hfz11_0 := blk_frozen BK417.out 0; have hfz11_1 := blk_frozen BK417.out 1; have hfz11_2 := blk_frozen BK417.out 2; have hfz11_3 := blk_frozen BK417.out 3; obtain ⟨Ao12, co12, eo12⟩ := Kd.R_slice HO416.out; subst eo12))
  go_loopg [4] k (fun kq v4 w' => ∃ (x4_1 : Int) (x418003_1 : List Int) (u418003 : Value), v4 = .int .i64 x4_1 ∧ Aside0 (spec_turn.l0 kq x4_1 a0_0 a0_1 a0_2 l0_3 t411 t412 t413 x418003_1 = some (r1, r2, r3, r4)) ∧ Aside0 (kq ≤ k) ∧ Aside0 (Kd.R (Kd.int .i64) 3 w' w.heap.size (fun _ => True) u418003 x418003_1) ∧ Aside0 (w'.heap[gb409]? = some (.cells #[.int .i64 a0_0, .int .i64 a0_1, .int .i64 a0_2, (.slice A0_3 l0_3.length c0_3)] 26 (0, 0))) ∧ Aside0 (w'.heap[gb410]? = some (.cells #[.int .i64 0, .int .i64 0, .int .i64 0, (.slice none 0 0)] 26 (0, 0))) ∧ Aside0 (w'.heap[gb417]? = some (.cells #[.int .i64 t411, .int .i64 t412, .int .i64 t413, u418003] 26 (0, 0))) ∧ Aside0 (Below w.heap.size w w'))
  case atStart => exact ⟨(0), (t414), (.slice Ao12 t414.length co12), (by first | rfl | (simp; done) | (simp [*]; done)), H', ⟨Nat.le_refl _⟩, ⟨B.kr0 (Kd.R_mono (B.rf4 HO416 BK417) (fun _ hk => trivial))⟩, ⟨B.kb0 (B.bf4 BK409 NB409_417)⟩, ⟨B.kb0 (B.bf4 BK410 NB410_417)⟩, ⟨B.kb0 (B.bp4 BK417)⟩, ⟨B.bl HB⟩⟩
  case round =>
    clear H'
    try clear c1
    try clear p2
    try clear c3
    try clear c5
    try clear c9
    try clear c10
    try clear hcz11_0
    try clear hcz11_1
    try clear hcz11_2
    try clear hcz11_3
    try clear hcz6_0
    try clear hcz6_1
    try clear hcz6_2
    try clear hcz6_3
    try clear hfz11_0
    try clear hfz11_1
    try clear hfz11_2
    try clear hfz11_3
    try clear hfz6_0
    try clear hfz6_1
    try clear hfz6_2
    try clear hfz6_3
    obtain ⟨x4_1, x418003_1, u418003, rfl, HA, HK1, HO_418003, BK409, BK410, BK417, HB⟩ := hrel
    cases gk with
    | zero => exact absurd HA.out (by simp [spec_turn.l0])
    | succ k1 =>
      have H := HA.out
      clear HA
      simp only [spec_turn.l0] at H
      by_cases c13 : x4_1 < a0_1
      · rw [if_pos c13] at H
        have c13b0 : decide (x4_1 < a0_1) = true := decide_eq_true c13
        clear c13
        have H' := Aside0.mk H
        clear H
        have hnb14 := NB409_410.out
        have hnc14 := NB410_409.out
        have hnb15 := NB409_417.out
        have hnc15 := NB417_409.out
        have hcz16_0 : wr.cell? ⟨gb409, 0, none⟩ = some (.int .i64 a0_0) := B.bc BK409 0
        have hcz16_1 : wr.cell? ⟨gb409, 1, none⟩ = some (.int .i64 a0_1) := B.bc BK409 1
        have hcz16_2 : wr.cell? ⟨gb409, 2, none⟩ = some (.int .i64 a0_2) := B.bc BK409 2
        have hcz16_3 : wr.cell? ⟨gb409, 3, none⟩ = some (.slice A0_3 l0_3.length c0_3) := B.bc BK409 3
        have hfz16_0 := blk_frozen BK409.out 0
        have hfz16_1 := blk_frozen BK409.out 1
        have hfz16_2 := blk_frozen BK409.out 2
        have hfz16_3 := blk_frozen BK409.out 3
        go_wp2
        go_loopg [5] k1 (fun kq v5 w' => ∃ (x5_2 : Int) (x418003_2 : List Int) (u418003 : Value), v5 = .int .i64 x5_2 ∧ Aside0 (spec_turn.l1 kq x4_1 x5_2 a0_0 a0_1 a0_2 l0_3 t411 t412 t413 x418003_2 = some (r1, r2, r3, r4)) ∧ Aside0 (kq ≤ k1) ∧ Aside0 (Kd.R (Kd.int .i64) 3 w' w.heap.size (fun _ => True) u418003 x418003_2) ∧ Aside0 (w'.heap[gb409]? = some (.cells #[.int .i64 a0_0, .int .i64 a0_1, .int .i64 a0_2, (.slice A0_3 l0_3.length c0_3)] 26 (0, 0))) ∧ Aside0 (w'.heap[gb410]? = some (.cells #[.int .i64 0, .int .i64 0, .int .i64 0, (.slice none 0 0)] 26 (0, 0))) ∧ Aside0 (w'.heap[gb417]? = some (.cells #[.int .i64 t411, .int .i64 t412, .int .i64 t413, u418003] 26 (0, 0))) ∧ Aside0 (Below w.heap.size w w'))
        case atStart => exact ⟨(0), (x418003_1), (u418003), (by first | rfl | (simp; done) | (simp [*]; done)), H', ⟨Nat.le_refl _⟩, ⟨B.kr HO_418003⟩, ⟨B.kb BK409⟩, ⟨B.kb BK410⟩, ⟨B.kb BK417⟩, ⟨B.bl HB⟩⟩
        case round =>
          clear H'
          try clear c1
          try clear p2
          try clear c3
          try clear c5
          try clear c9
          try clear c10
          try clear c13
          try clear c13b0
          try clear c14
          try clear c15
          try clear hcz11_0
          try clear hcz11_1
          try clear hcz11_2
          try clear hcz11_3
          try clear hcz16_0
          try clear hcz16_1
          try clear hcz16_2
          try clear hcz16_3
          try clear hcz6_0
          try clear hcz6_1
          try clear hcz6_2
          try clear hcz6_3
          try clear hfz11_0
          try clear hfz11_1
          try clear hfz11_2
          try clear hfz11_3
          try clear hfz16_0
          try clear hfz16_1
          try clear hfz16_2
          try clear hfz16_3
          try clear hfz6_0
          try clear hfz6_1
          try clear hfz6_2
          try clear hfz6_3
          try clear p2
          obtain ⟨x5_2, x418003_2, u418003, rfl, HA, HK2, HO_418003, BK409, BK410, BK417, HB⟩ := hrel
          cases gk with
          | zero => exact absurd HA.out (by simp [spec_turn.l1])
          | succ k2 =>
            have H := HA.out
            clear HA
            simp only [spec_turn.l1] at H
            by_cases c17 : x5_2 < a0_0
            · rw [if_pos c17] at H
              have c17b0 : decide (x5_2 < a0_0) = true := decide_eq_true c17
              clear c17
              replace H := Option.bind_eq_some_iff.mp H
              obtain ⟨t418, A180, H⟩ := H
              replace H : ((spec_setPixel.f k2 t411 t412 t413 x418003_2 (wrap64 ((wrap64 (a0_1 - 1)) - x4_1)) x5_2 t418).bind fun t421 => (spec_turn.l1 k2 x4_1 (wrap64 (x5_2 + 1)) a0_0 a0_1 a0_2 l0_3 t411 t412 t413 t421)) = some (r1, r2, r3, r4) := H
              have A18 := Aside0.mk A180
              clear A180
              replace H := Option.bind_eq_some_iff.mp H
              obtain ⟨t421, A190, H⟩ := H
              replace H : (spec_turn.l1 k2 x4_1 (wrap64 (x5_2 + 1)) a0_0 a0_1 a0_2 l0_3 t411 t412 t413 t421) = some (r1, r2, r3, r4) := H
              have A19 := Aside0.mk A190
              clear A190
              have H' := Aside0.mk H
              clear H
              have hnb20 := NB409_410.out
              have hnc20 := NB410_409.out
              have hnb21 := NB409_417.out
              have hnc21 := NB417_409.out
              have hcz22_0 : wr.cell? ⟨gb409, 0, none⟩ = some (.int .i64 a0_0) := B.bc BK409 0
              have hcz22_1 : wr.cell? ⟨gb409, 1, none⟩ = some (.int .i64 a0_1) := B.bc BK409 1
              have hcz22_2 : wr.cell? ⟨gb409, 2, none⟩ = some (.int .i64 a0_2) := B.bc BK409 2
              have hcz22_3 : wr.cell? ⟨gb409, 3, none⟩ = some (.slice A0_3 l0_3.length c0_3) := B.bc BK409 3
              have hfz22_0 := blk_frozen BK409.out 0
              have hfz22_1 := blk_frozen BK409.out 1
              have hfz22_2 := blk_frozen BK409.out 2
              have hfz22_3 := blk_frozen BK409.out 3
              try go_wp2
              have n0_ := Aside0.mk (Kd.R_drew HO_418003.out)
              have n1_ := Aside0.mk (blk_drew BK409.out)
              have n2_ := Aside0.mk (blk_drew BK410.out)
              have n3_ := Aside0.mk (blk_drew BK417.out)
              have n4_ := Aside0.mk (below_drew1 HB.out)
              clear HO_418003 BK409 BK410 BK417 HB
              have HO_418003 := n0_
              have BK409 := n1_
              have BK410 := n2_
              have BK417 := n3_
              have HB := n4_
              clear n0_ n1_ n2_ n3_ n4_
              refine start_ (n := 12) (S := fun w' => w'.cell? ⟨gb417, 0, none⟩ = some (.int .i64 t411) ∧ w'.cell? ⟨gb417, 1, none⟩ = some (.int .i64 t412) ∧ w'.cell? ⟨gb417, 2, none⟩ = some (.int .i64 t413) ∧ w'.cell? ⟨gb417, 3, none⟩ = some (u418003) ∧ w'.cell? ⟨gb409, 0, none⟩ = some (.int .i64 a0_0) ∧ w'.cell? ⟨gb409, 1, none⟩ = some (.int .i64 a0_1) ∧ w'.cell? ⟨gb409, 2, none⟩ = some (.int .i64 a0_2) ∧ w'.cell? ⟨gb409, 3, none⟩ = some (.slice A0_3 l0_3.length c0_3)) (ds := []) #[false, false, false, false, false, false, false, false, false, false, false, false] (by kernel_rfl) rfl rfl ⟨B.bc BK417 0, B.bc BK417 1, B.bc BK417 2, B.bc BK417 3, B.bc BK409 0, B.bc BK409 1, B.bc BK409 2, B.bc BK409 3⟩ (fun hHeld => ?_); refine with_tabW spec_turn.tab8 spec_turn.bits8 (fun HT_ HW_ => ?_)
              generalize wr.drew = w23 at HO_418003 BK409 BK410 BK417 HB hHeld ⊢
              refine pure_ (i := 1) (N := some 26) (v := ?_) (a' := ?_) #[false, true, false, false, false, false, false, false, false, false, false, false] rfl rfl (any_of HT_.out (by kernel_rfl)) (fun _ _ _ h => h) (Or.inl ⟨by rfl, ?_⟩) ?_ ?_
              rotate_left
              · intro w'
                go_simp
                with_reducible rfl
              rotate_left
              · simp only [Act.put, List.setIfInBounds_toArray, List.set_cons_zero, List.set_cons_succ, i64_w, i32_w]
                rfl
              refine pure_ (i := 4) (N := some 29) (v := ?_) (a' := ?_) #[false, true, false, false, true, false, false, false, false, false, false, false] rfl rfl (any_of HT_.out (by kernel_rfl)) (fun _ _ _ h => h) (Or.inl ⟨by rfl, ?_⟩) ?_ ?_
              rotate_left
              · intro w'
                go_simp
                with_reducible rfl
              rotate_left
              · simp only [Act.put, List.setIfInBounds_toArray, List.set_cons_zero, List.set_cons_succ, i64_w, i32_w]
                rfl
              refine pure_ (i := 6) (N := some 31) (v := ?_) (a' := ?_) #[false, true, false, false, true, false, true, false, false, false, false, false] rfl rfl (any_of HT_.out (by kernel_rfl)) (fun _ _ _ h => h) (Or.inl ⟨by rfl, ?_⟩) ?_ ?_
              rotate_left
              · intro w'
                go_simp
                with_reducible rfl
              rotate_left
              · simp only [Act.put, List.setIfInBounds_toArray, List.set_cons_zero, List.set_cons_succ, i64_w, i32_w]
                rfl
              refine pure_ (i := 8) (N := some 33) (v := ?_) (a' := ?_) #[false, true, false, false, true, false, true, false, true, false, false, false] rfl rfl (any_of HT_.out (by kernel_rfl)) (fun _ _ _ h => h) (Or.inl ⟨by rfl, ?_⟩) ?_ ?_
              rotate_left
              · intro w'
                go_simp
                with_reducible rfl
              rotate_left
              · simp only [Act.put, List.setIfInBounds_toArray, List.set_cons_zero, List.set_cons_succ, i64_w, i32_w]
                rfl
              refine pure_ (i := 9) (N := some 34) (v := ?_) (a' := ?_) #[false, true, false, false, true, false, true, false, true, true, false, false] rfl rfl (any_of HT_.out (by kernel_rfl)) (fun _ _ _ h => h) (Or.inl ⟨by rfl, ?_⟩) ?_ ?_
              rotate_left
              · intro w'
                go_simp
                with_reducible rfl
              rotate_left
              · simp only [Act.put, List.setIfInBounds_toArray, List.set_cons_zero, List.set_cons_succ, i64_w, i32_w]
                rfl
              refine take_ (i := 0) (N := some 25) (v := ?_) (a' := ?_) #[true, true, false, false, true, false, true, false, true, true, false, false] rfl rfl (take_ofW HT_.out HW_.out (by kernel_rfl)) (fun _ _ _ h => h) (Or.inl ⟨by rfl, ?_⟩) hHeld ?_ ?_
              rotate_left
              · rintro w' ⟨s0, s1, s2, s3, s4, s5, s6, s7⟩
                go_simp
                with_reducible rfl
              rotate_left
              · simp only [Act.put, List.setIfInBounds_toArray, List.set_cons_zero, List.set_cons_succ, i64_w, i32_w]
                rfl
              refine take_ (i := 2) (N := some 27) (v := ?_) (a' := ?_) #[true, true, true, false, true, false, true, false, true, true, false, false] rfl rfl (take_ofW HT_.out HW_.out (by kernel_rfl)) (fun _ _ _ h => h) (Or.inl ⟨by rfl, ?_⟩) hHeld ?_ ?_
              rotate_left
              · rintro w' ⟨s0, s1, s2, s3, s4, s5, s6, s7⟩
                go_simp
                with_reducible rfl
              rotate_left
              · simp only [Act.put, List.setIfInBounds_toArray, List.set_cons_zero, List.set_cons_succ, i64_w, i32_w]
                rfl
              refine pure_ (i := 3) (N := some 28) (v := ?_) (a' := ?_) #[true, true, true, true, true, false, true, false, true, true, false, false] rfl rfl (any_of HT_.out (by kernel_rfl)) (fun _ _ _ h => h) (Or.inl ⟨by rfl, ?_⟩) ?_ ?_
              rotate_left
              · intro w'
                go_simp
                with_reducible rfl
              rotate_left
              · simp only [Act.put, List.setIfInBounds_toArray, List.set_cons_zero, List.set_cons_succ, i64_w, i32_w]
                rfl
              refine pure_ (i := 5) (N := some 30) (v := ?_) (a' := ?_) #[true, true, true, true, true, true, true, false, true, true, false, false] rfl rfl (any_of HT_.out (by kernel_rfl)) (fun _ _ _ h => h) (Or.inl ⟨by rfl, ?_⟩) ?_ ?_
              rotate_left
              · intro w'
                go_simp
                with_reducible rfl
              rotate_left
              · simp only [Act.put, List.setIfInBounds_toArray, List.set_cons_zero, List.set_cons_succ, i64_w, i32_w]
                rfl
              refine take_ (i := 7) (N := some 32) (v := ?_) (a' := ?_) #[true, true, true, true, true, true, true, true, true, true, false, false] rfl rfl (take_ofW HT_.out HW_.out (by kernel_rfl)) (fun _ _ _ h => h) (Or.inl ⟨by rfl, ?_⟩) hHeld ?_ ?_
              rotate_left
              · rintro w' ⟨s0, s1, s2, s3, s4, s5, s6, s7⟩
                go_simp
                with_reducible rfl
              rotate_left
              · simp only [Act.put, List.setIfInBounds_toArray, List.set_cons_zero, List.set_cons_succ, i64_w, i32_w]
                rfl
              refine one_ (i := 10) (N := some 35) #[true, true, true, true, true, true, true, true, true, true, true, false] rfl rfl (one_of HT_.out (by kernel_rfl)) (by decide) (fun K hK => ?_)
              refine goes_ Try.func38 (by kernel_rfl) rfl #[.agg #[.int .i64 a0_0, .int .i64 a0_1, .int .i64 a0_2, .slice A0_3 l0_3.length c0_3], .int .i64 x5_2, .int .i64 x4_1] (by rfl) rfl rfl B.am ?_
              with_reducible refine (spec_pixelAt.calls a0_0 a0_1 a0_2 _ _ l0_3 x5_2 x4_1 t418 _ ?side1 ?side2 A18.out).mono ?_
              (case side1 => exact B.kc (Kd.C_below HR0_3.out HB.out))
              (case side2 => exact HC0_3.out)
              rintro e w24 ⟨v419, rfl, ho0, hb⟩
              refine ⟨_, rfl, ?_⟩
              have n0_ := Aside0.mk (Kd.R_elder' (B.kr HO_418003) (Kd.R_base ho0) hb)
              have n1_ := Aside0.mk (Kd.R_lower (Kd.R_new' ho0 (Kd.R_lt (B.kr HO_418003))) (below_size (B.bl HB)))
              have n2_ := Aside0.mk (blk_below (B.kb BK409) hb)
              have n3_ := Aside0.mk (blk_below (B.kb BK410) hb)
              have n4_ := Aside0.mk (blk_below (B.kb BK417) hb)
              have n5_ := Aside0.mk (below_step (B.bl HB) hb)
              clear HO_418003 BK409 BK410 BK417 HB
              have HO_418003 := n0_
              have HO420 := n1_
              have BK409 := n2_
              have BK410 := n3_
              have BK417 := n4_
              have HB := n5_
              clear n0_ n1_ n2_ n3_ n4_ n5_
              (try clear hb)
              (try clear hb2)
              (try clear hk)
              (try clear hi)
              (try clear ho0)
              obtain ⟨Ao25, co25, eo25⟩ := Kd.R_slice HO_418003.out
              (first | subst eo25 | (injection eo25 with f1_ f2_ f3_; have f4_ := f1_.symm; have f5_ := f3_.symm; clear f1_ f2_ f3_; subst f4_; subst f5_))
              obtain ⟨Ao26, co26, eo26⟩ := Kd.R_slice HO420.out
              (first | subst eo26 | (injection eo26 with f1_ f2_ f3_; have f4_ := f1_.symm; have f5_ := f3_.symm; clear f1_ f2_ f3_; subst f4_; subst f5_))
              refine hK.out _ _ ⟨B.bc BK417 0, B.bc BK417 1, B.bc BK417 2, B.bc BK417 3, B.bc BK409 0, B.bc BK409 1, B.bc BK409 2, B.bc BK409 3⟩ (fun hHeld => ?_)
              clear hK K
              refine norm_ (a' := ?_) ?_ ?_
              rotate_left
              · show Act.put _ (some 35) _ = _
                simp only [Act.put, List.setIfInBounds_toArray, List.set_cons_zero, List.set_cons_succ, i64_w, i32_w]
                rfl
              refine one_ (i := 11) (N := some 36) #[true, true, true, true, true, true, true, true, true, true, true, true] rfl rfl (one_of HT_.out (by kernel_rfl)) (by decide) (fun K hK => ?_)
              refine goes_ Try.func37 (by kernel_rfl) rfl #[.agg #[.int .i64 t411, .int .i64 t412, .int .i64 t413, .slice Ao25 x418003_2.length co25], .int .i64 (wrap64 ((wrap64 (a0_1 - 1)) - x4_1)), .int .i64 x5_2, .slice Ao26 t418.length co26] (by rfl) rfl rfl B.am ?_
              with_reducible refine (spec_setPixel.calls k2 t411 t412 t413 (fun k_ => some k_ = (.slice Ao25 x418003_2.length co25 : Value).ownBlock) (.slice Ao25 x418003_2.length co25) x418003_2 (wrap64 ((wrap64 (a0_1 - 1)) - x4_1)) x5_2 _ _ t418 t421 w _ ?side1 ?side2 ?side3 ?side4 A19.out).mono ?_
              (case side1 => exact B.bl HB)
              (case side2 => exact Kd.R_tight rfl HO_418003.out)
              (case side3 => exact Kd.C_kept_own (HO420.out) (fun k_ hk_ hs_ => (hk_.2) hs_))
              (case side4 => exact (Kd.R_reads' HO420.out).2.1)
              rintro e w27 ⟨rfl, hy0, hb, hkp⟩
              refine ⟨_, rfl, ?_⟩
              have n0_ := Aside0.mk (Kd.R_reok rfl hy0 (fun k_ e_ => HO_418003.out.1 k_ e_))
              have n1_ := Aside0.mk (blk_kept (B.kb BK409) hkp (fun hs_ => (fun e_ => (Kd.R_ne HO_418003.out BK409.out (by decide)) e_) hs_))
              have n2_ := Aside0.mk (blk_kept (B.kb BK410) hkp (fun hs_ => (fun e_ => (Kd.R_ne HO_418003.out BK410.out (by decide)) e_) hs_))
              have n3_ := Aside0.mk (blk_kept (B.kb BK417) hkp (fun hs_ => (fun e_ => (Kd.R_ne HO_418003.out BK417.out (by decide)) e_) hs_))
              have n4_ := Aside0.mk (Kd.R_mono (ok' := fun k_ => some k_ ≠ (.slice Ao25 x418003_2.length co25 : Value).ownBlock) (Kd.R_keptB (HO420.out) hkp (fun k_ hk_ hs_ => (hk_.2) hs_)) (fun k_ hk_ => hk_.1.2))
              have n5_ := Aside0.mk (hb)
              clear HO_418003 BK409 BK410 BK417 HO420 HB
              have HO_418003 := n0_
              have BK409 := n1_
              have BK410 := n2_
              have BK417 := n3_
              have HO420 := n4_
              have HB := n5_
              clear n0_ n1_ n2_ n3_ n4_ n5_
              (try clear hb)
              (try clear hkp)
              (try clear hy0)
              refine hK.out _ _ ⟨B.bc BK417 0, B.bc BK417 1, B.bc BK417 2, B.bc BK417 3, B.bc BK409 0, B.bc BK409 1, B.bc BK409 2, B.bc BK409 3⟩ (fun hHeld => ?_)
              clear hK K
              refine norm_ (a' := ?_) ?_ ?_
              rotate_left
              · show Act.put _ (some 36) _ = _
                simp only [Act.put, List.setIfInBounds_toArray, List.set_cons_zero, List.set_cons_succ, i64_w, i32_w]
                rfl
              refine done_ (done_of HT_.out (by kernel_rfl)) ?_
              try go_wp2
              go_roundg k2
              case measure => have := HK1.out; have := HK2.out; omega
              case rel => exact ⟨(wrap64 (x5_2 + 1)), (t421), (.slice Ao25 x418003_2.length co25), (by first | rfl | (simp; done) | (simp [*]; done)), H', ⟨by have := HK1.out; have := HK2.out; omega⟩, ⟨B.kr0 (Kd.R_mono HO_418003.out (fun _ hk => trivial))⟩, ⟨B.kb BK409⟩, ⟨B.kb BK410⟩, ⟨B.kb BK417⟩, ⟨B.bl HB⟩⟩
            rw [if_neg c17] at H
            have c17b0 : decide (x5_2 < a0_0) = false := decide_eq_false c17
            clear c17
            have H' := Aside0.mk H
            clear H
            have hnb28 := NB409_410.out
            have hnc28 := NB410_409.out
            have hnb29 := NB409_417.out
            have hnc29 := NB417_409.out
            have hcz30_0 : wr.cell? ⟨gb409, 0, none⟩ = some (.int .i64 a0_0) := B.bc BK409 0
            have hcz30_1 : wr.cell? ⟨gb409, 1, none⟩ = some (.int .i64 a0_1) := B.bc BK409 1
            have hcz30_2 : wr.cell? ⟨gb409, 2, none⟩ = some (.int .i64 a0_2) := B.bc BK409 2
            have hcz30_3 : wr.cell? ⟨gb409, 3, none⟩ = some (.slice A0_3 l0_3.length c0_3) := B.bc BK409 3
            have hfz30_0 := blk_frozen BK409.out 0
            have hfz30_1 := blk_frozen BK409.out 1
            have hfz30_2 := blk_frozen BK409.out 2
            have hfz30_3 := blk_frozen BK409.out 3
            go_wp2
            go_roundg k2
            case measure => have := HK1.out; have := HK2.out; omega
            case rel => exact ⟨(wrap64 (x4_1 + 1)), (x418003_2), (u418003), (by first | rfl | (simp; done) | (simp [*]; done)), H', ⟨by have := HK1.out; have := HK2.out; omega⟩, ⟨B.kr HO_418003⟩, ⟨B.kb BK409⟩, ⟨B.kb BK410⟩, ⟨B.kb BK417⟩, ⟨B.bl HB⟩⟩
      rw [if_neg c13] at H
      have c13b0 : decide (x4_1 < a0_1) = false := decide_eq_false c13
      clear c13
      simp only [Option.some.injEq, Prod.mk.injEq] at H
      obtain ⟨rfl, rfl, rfl, rfl⟩ := H
      have hnb31 := NB409_410.out
      have hnc31 := NB410_409.out
      have hnb32 := NB409_417.out
      have hnc32 := NB417_409.out
      have hcz33_0 : wr.cell? ⟨gb409, 0, none⟩ = some (.int .i64 a0_0) := B.bc BK409 0
      have hcz33_1 : wr.cell? ⟨gb409, 1, none⟩ = some (.int .i64 a0_1) := B.bc BK409 1
      have hcz33_2 : wr.cell? ⟨gb409, 2, none⟩ = some (.int .i64 a0_2) := B.bc BK409 2
      have hcz33_3 : wr.cell? ⟨gb409, 3, none⟩ = some (.slice A0_3 l0_3.length c0_3) := B.bc BK409 3
      have hfz33_0 := blk_frozen BK409.out 0
      have hfz33_1 := blk_frozen BK409.out 1
      have hfz33_2 := blk_frozen BK409.out 2
      have hfz33_3 := blk_frozen BK409.out 3
      have hnb34 := NB417_410.out
      have hnc34 := NB410_417.out
      have hcz35_0 : wr.cell? ⟨gb417, 0, none⟩ = some (.int .i64 t411) := B.bc BK417 0
      have hcz35_1 : wr.cell? ⟨gb417, 1, none⟩ = some (.int .i64 t412) := B.bc BK417 1
      have hcz35_2 : wr.cell? ⟨gb417, 2, none⟩ = some (.int .i64 t413) := B.bc BK417 2
      have hcz35_3 : wr.cell? ⟨gb417, 3, none⟩ = some (u418003) := B.bc BK417 3
      have hfz35_0 := blk_frozen BK417.out 0
      have hfz35_1 := blk_frozen BK417.out 1
      have hfz35_2 := blk_frozen BK417.out 2
      have hfz35_3 := blk_frozen BK417.out 3
      have hcz36_0 : wr.cell? ⟨gb410, 0, none⟩ = some (.int .i64 0) := B.bc BK410 0
      have hcz36_1 : wr.cell? ⟨gb410, 1, none⟩ = some (.int .i64 0) := B.bc BK410 1
      have hcz36_2 : wr.cell? ⟨gb410, 2, none⟩ = some (.int .i64 0) := B.bc BK410 2
      have hcz36_3 : wr.cell? ⟨gb410, 3, none⟩ = some (.slice none 0 0) := B.bc BK410 3
      have hfz36_0 := blk_frozen BK410.out 0
      have hfz36_1 := blk_frozen BK410.out 1
      have hfz36_2 := blk_frozen BK410.out 2
      have hfz36_3 := blk_frozen BK410.out 3
      obtain ⟨Ao37, co37, eo37⟩ := Kd.R_slice HO_418003.out
      subst eo37
      go_wp2
      refine bodyPost_ret (results_cell_row rfl _ _ gb410 26 #[.int .i64 t411, .int .i64 t412, .int .i64 t413, .slice Ao37 x418003_1.length co37] (0, 0) _ rfl (B.kb0 (B.bp4 BK410)) Try.underlying26 rfl (by kernel_rfl)) rfl ?_
      exact ⟨_, by first | rfl | (simp [errW_none, errW_some] <;> rfl) | (simp [*, errW_none, errW_some] <;> rfl), by (with_reducible repeat (first | apply Kd.R_alloc | apply Kd.R_drewN | apply Kd.R_drew)); exact Kd.R_mono (B.rf4 HO_418003 BK410) (fun _ hk => trivial), B.bl HB⟩

/-! ### spec_TurnImage: function 24 -/
mutual
def spec_TurnImage.j0 : Nat → Int → Bool → Int → Int → Int → List Int → Option (Int × Int × Int × List Int)
  | 0, _, _, _, _, _, _ => none
  | k + 1, x1, x14, x423000, x423001, x423002, x423003 => if x14 = true then (some (0, 0, 0, ([] : List Int))) else ((spec_copyImage.f x423000 x423001 x423002 x423003).bind fun bt426 => (spec_TurnImage.l0 k x1 0 bt426.1 bt426.2.1 bt426.2.2.1 bt426.2.2.2))
def spec_TurnImage.l0 : Nat → Int → Int → Int → Int → Int → List Int → Option (Int × Int × Int × List Int)
  | 0, _, _, _, _, _, _ => none
  | k + 1, x1, x6, x433000, x433001, x433002, x433003 => if x6 < x1 then ((spec_turn.f k x433000 x433001 x433002 x433003).bind fun bt433 => (spec_TurnImage.l0 k x1 (wrap64 (x6 + 1)) bt433.1 bt433.2.1 bt433.2.2.1 bt433.2.2.2)) else (some (x433000, x433001, x433002, x433003))
end
def spec_TurnImage.f (k : Nat) (a0_0 : Int) (a0_1 : Int) (a0_2 : Int) (l0_3 : List Int) (a1 : Int) : Option (Int × Int × Int × List Int) := (spec_validImage.f k a0_0 a0_1 a0_2 l0_3).bind fun t424 => (if t424 = true then ((spec_inRange.f a1 0 3).bind fun t425 => (spec_TurnImage.j0 k a1 (!t425) a0_0 a0_1 a0_2 l0_3)) else (spec_TurnImage.j0 k a1 true a0_0 a0_1 a0_2 l0_3))
theorem spec_TurnImage.mono_l : ∀ k, (∀ y0 y1 y2 y3 y4 y5, LeO (spec_TurnImage.j0 k y0 y1 y2 y3 y4 y5) (spec_TurnImage.j0 (k + 1) y0 y1 y2 y3 y4 y5)) ∧ (∀ y0 y1 y2 y3 y4 y5, LeO (spec_TurnImage.l0 k y0 y1 y2 y3 y4 y5) (spec_TurnImage.l0 (k + 1) y0 y1 y2 y3 y4 y5))
  | 0 => ⟨fun _ _ _ _ _ _ r h => by simp [spec_TurnImage.j0] at h, fun _ _ _ _ _ _ r h => by simp [spec_TurnImage.l0] at h⟩
  | k + 1 => by
    obtain ⟨ih0, ih1⟩ := spec_TurnImage.mono_l k
    refine ⟨?_, ?_⟩
    · intro y0 y1 y2 y3 y4 y5
      unfold spec_TurnImage.j0
      repeat' first
      | (with_reducible exact ih0 _ _ _ _ _ _)
      | (with_reducible exact ih1 _ _ _ _ _ _)
      | (with_reducible exact spec_turn.mono _ _ _ _ _)
      | (with_reducible exact spec_validImage.mono _ _ _ _ _)
      | (with_reducible exact LeO.refl _)
      | (with_reducible exact LeO.none _)
      | (with_reducible refine LeO.ite ?_ ?_)
      | (with_reducible refine LeO.bind ?_ (fun _ => ?_))
      | exact ih0 _ _ _ _ _ _
      | exact ih1 _ _ _ _ _ _
      | exact spec_turn.mono _ _ _ _ _
      | exact spec_validImage.mono _ _ _ _ _
      | exact LeO.none _
      | refine LeO.ite ?_ ?_
      | refine LeO.bind ?_ (fun _ => ?_)
    intro y0 y1 y2 y3 y4 y5
    unfold spec_TurnImage.l0
    repeat' first
    | (with_reducible exact ih0 _ _ _ _ _ _)
    | (with_reducible exact ih1 _ _ _ _ _ _)
    | (with_reducible exact spec_turn.mono _ _ _ _ _)
    | (with_reducible exact spec_validImage.mono _ _ _ _ _)
    | (with_reducible exact LeO.refl _)
    | (with_reducible exact LeO.none _)
    | (with_reducible refine LeO.ite ?_ ?_)
    | (with_reducible refine LeO.bind ?_ (fun _ => ?_))
    | exact ih0 _ _ _ _ _ _
    | exact ih1 _ _ _ _ _ _
    | exact spec_turn.mono _ _ _ _ _
    | exact spec_validImage.mono _ _ _ _ _
    | exact LeO.none _
    | refine LeO.ite ?_ ?_
    | refine LeO.bind ?_ (fun _ => ?_)
theorem spec_TurnImage.mono : ∀ a0 a1 a2 a3 a4 k, LeO (spec_TurnImage.f k a0 a1 a2 a3 a4) (spec_TurnImage.f (k + 1) a0 a1 a2 a3 a4) := by
  intro a0 a1 a2 a3 a4 k
  obtain ⟨ih0, ih1⟩ := spec_TurnImage.mono_l k
  unfold spec_TurnImage.f
  repeat' first
      | (with_reducible exact ih0 _ _ _ _ _ _)
      | (with_reducible exact ih1 _ _ _ _ _ _)
      | (with_reducible exact spec_turn.mono _ _ _ _ _)
      | (with_reducible exact spec_validImage.mono _ _ _ _ _)
      | (with_reducible exact LeO.refl _)
      | (with_reducible exact LeO.none _)
      | (with_reducible refine LeO.ite ?_ ?_)
      | (with_reducible refine LeO.bind ?_ (fun _ => ?_))
      | exact ih0 _ _ _ _ _ _
      | exact ih1 _ _ _ _ _ _
      | exact spec_turn.mono _ _ _ _ _
      | exact spec_validImage.mono _ _ _ _ _
      | exact LeO.none _
      | refine LeO.ite ?_ ?_
      | refine LeO.bind ?_ (fun _ => ?_)
set_option maxHeartbeats 8000000 in
set_option maxRecDepth 100000 in
theorem spec_TurnImage.calls (k : Nat) (a0_0 : Int) (a0_1 : Int) (a0_2 : Int) (A0_3 : Option Addr) (c0_3 : Nat) (l0_3 : List Int) (a1 : Int) (r1 : Int) (r2 : Int) (r3 : Int) (r4 : List Int) (w : World) (hr0_3 : Kd.C (Kd.int .i64) w A0_3 l0_3.length l0_3) (hc0_3 : l0_3.length ≤ c0_3) (h : spec_TurnImage.f k a0_0 a0_1 a0_2 l0_3 a1 = some (r1, r2, r3, r4)) :
    Calls Try.prog 24 #[.agg #[.int .i64 a0_0, .int .i64 a0_1, .int .i64 a0_2, .slice A0_3 l0_3.length c0_3], .int .i64 a1] w fun e w' => ∃ v3_ : Value, e = .returned (.agg #[.int .i64 r1, .int .i64 r2, .int .i64 r3, v3_]) ∧ Kd.R (Kd.int .i64) 3 w' w.heap.size (fun _ => True) v3_ r4 ∧ Below w.heap.size w w' := by
  have hu26 := Try.underlying26
  have HR0_3 := Aside0.mk hr0_3
  have HC0_3 := Aside0.mk hc0_3
  clear hr0_3 hc0_3
  have HB := Aside0.mk (Below.refl w.heap.size w)
  have H : ((spec_validImage.f k a0_0 a0_1 a0_2 l0_3).bind fun t424 => (if t424 = true then ((spec_inRange.f a1 0 3).bind fun t425 => (spec_TurnImage.j0 k a1 (!t425) a0_0 a0_1 a0_2 l0_3)) else (spec_TurnImage.j0 k a1 true a0_0 a0_1 a0_2 l0_3))) = some (r1, r2, r3, r4) := h
  clear h
  have HC3 := Aside0.mk H
  clear H
  go_enter Try.func24, Try.ntmps24
  go_upto_region 1 with (first | ((with_reducible refine gate_dst (N := 2) rfl ?_); refine box_event ?hg (N := 2) ?hd (cs := #[.int .i64 a0_0, .int .i64 a0_1, .int .i64 a0_2, .slice A0_3 l0_3.length c0_3]) (t := 26) ?hr ?_; (case hd => rfl); (case hg => rfl); (case hr => first | (go_simp; done) | (go_simp; rfl)); intro gb422 hg w4 hbox hb; have n0_ := Aside0.mk (below_step (B.bl HB) hb); have n1_ := Aside0.mk (hbox); have n2_ := Aside0.mk (B.nle hg (below_size (B.bl HB))); have n3_ := Aside0.mk (B.nle hg (below_size (B.bl HB))); clear HB; have HB := n0_; have BK422 := n1_; have GW422 := n2_; have GE422 := n3_; clear n0_ n1_ n2_ n3_; clear hb hbox hg) | ((with_reducible refine gate_dst (N := 4) rfl ?_); refine box_event ?hg (N := 4) ?hd (cs := #[.int .i64 0, .int .i64 0, .int .i64 0, .slice none 0 0]) (t := 26) ?hr ?_; (case hd => rfl); (case hg => rfl); (case hr => first | (go_simp; done) | (go_simp; rfl)); intro gb423 hg w5 hbox hb; have n0_ := Aside0.mk (blk_below (B.kb BK422) hb); have n1_ := Aside0.mk (below_step (B.bl HB) hb); have n2_ := Aside0.mk (hbox); have n3_ := Aside0.mk (B.nle hg (below_size (B.bl HB))); have n4_ := Aside0.mk (B.nle hg (below_size (B.bl HB))); have n5_ := Aside0.mk (B.nlt hg (blk_lt (B.kb BK422))); have n6_ := Aside0.mk (B.ngt hg (blk_lt (B.kb BK422))); clear BK422 HB; have BK422 := n0_; have HB := n1_; have BK423 := n2_; have GW423 := n3_; have GE423 := n4_; have NB422_423 := n5_; have NB423_422 := n6_; clear n0_ n1_ n2_ n3_ n4_ n5_ n6_; clear hb hbox hg))
  (try simp only [Act.put, List.setIfInBounds_toArray, List.set_cons_zero, List.set_cons_succ])
  go_cut [14] (fun v14 wc => ∃ (kq : Nat) (x14_2 : Bool), v14 = .bool x14_2 ∧ Aside0 (spec_TurnImage.j0 kq a1 x14_2 a0_0 a0_1 a0_2 l0_3 = some (r1, r2, r3, r4)) ∧ Aside0 (kq ≤ k) ∧ Aside0 (wc.heap[gb422]? = some (.cells #[.int .i64 a0_0, .int .i64 a0_1, .int .i64 a0_2, (.slice A0_3 l0_3.length c0_3)] 26 (0, 0))) ∧ Aside0 (wc.heap[gb423]? = some (.cells #[.int .i64 0, .int .i64 0, .int .i64 0, (.slice none 0 0)] 26 (0, 0))) ∧ Aside0 (Below w.heap.size w wc))
  case first =>
    have H := HC3.out
    clear HC3
    replace H := Option.bind_eq_some_iff.mp H
    obtain ⟨t424, A60, H⟩ := H
    replace H : (if t424 = true then ((spec_inRange.f a1 0 3).bind fun t425 => (spec_TurnImage.j0 k a1 (!t425) a0_0 a0_1 a0_2 l0_3)) else (spec_TurnImage.j0 k a1 true a0_0 a0_1 a0_2 l0_3)) = some (r1, r2, r3, r4) := H
    have A6 := Aside0.mk A60
    clear A60
    by_cases c7 : t424 = true
    · subst c7
      have H1 : ((spec_inRange.f a1 0 3).bind fun t425 => (spec_TurnImage.j0 k a1 (!t425) a0_0 a0_1 a0_2 l0_3)) = some (r1, r2, r3, r4) := by rw [if_pos rfl] at H; exact H
      clear H
      have H := H1
      clear H1
      replace H := Option.bind_eq_some_iff.mp H
      obtain ⟨t425, A80, H⟩ := H
      replace H : (spec_TurnImage.j0 k a1 (!t425) a0_0 a0_1 a0_2 l0_3) = some (r1, r2, r3, r4) := H
      have A8 := Aside0.mk A80
      clear A80
      have H' := Aside0.mk H
      clear H
      have hnb9 := NB422_423.out
      have hnc9 := NB423_422.out
      have hcz10_0 : w5.cell? ⟨gb422, 0, none⟩ = some (.int .i64 a0_0) := B.bc BK422 0
      have hcz10_1 : w5.cell? ⟨gb422, 1, none⟩ = some (.int .i64 a0_1) := B.bc BK422 1
      have hcz10_2 : w5.cell? ⟨gb422, 2, none⟩ = some (.int .i64 a0_2) := B.bc BK422 2
      have hcz10_3 : w5.cell? ⟨gb422, 3, none⟩ = some (.slice A0_3 l0_3.length c0_3) := B.bc BK422 3
      have hfz10_0 := blk_frozen BK422.out 0
      have hfz10_1 := blk_frozen BK422.out 1
      have hfz10_2 := blk_frozen BK422.out 2
      have hfz10_3 := blk_frozen BK422.out 3
      go_wp2_with (first | ((with_reducible refine gate_callee (f := 35) rfl ?_); refine goesL_ (some 8) rfl rfl Try.func35 (by kernel_rfl) rfl #[.agg #[.int .i64 a0_0, .int .i64 a0_1, .int .i64 a0_2, .slice A0_3 l0_3.length c0_3]] rfl B.am ?_; (with_reducible refine (spec_validImage.calls k a0_0 a0_1 a0_2 _ _ l0_3 true _ ?side1 ?side2 A6.out).mono ?_); (case side1 => exact B.kc (Kd.C_below HR0_3.out HB.out)); (case side2 => exact HC0_3.out); rintro e w11 ⟨rfl, hb⟩; refine ⟨_, rfl, ?_⟩; have n0_ := Aside0.mk (blk_below (B.kb BK422) hb); have n1_ := Aside0.mk (blk_below (B.kb BK423) hb); have n2_ := Aside0.mk (below_step (B.bl HB) hb); clear BK422 BK423 HB; have BK422 := n0_; have BK423 := n1_; have HB := n2_; clear n0_ n1_ n2_; (try clear hb); (try clear hb2); (try clear hk); (try clear hi)) | (go_at_call 53; (with_reducible refine (spec_inRange.calls a1 0 3 t425 _ A8.out).mono ?_); rintro e w' ⟨rfl, ⟨nd, rfl⟩⟩))
      go_meet
      case rel => exact ⟨_, (!t425), (by first | rfl | (simp; done) | (simp [*]; done)), H', ⟨by first | omega | exact Nat.le_refl _⟩, ⟨B.kb BK422⟩, ⟨B.kb BK423⟩, ⟨B.bl HB⟩⟩
    replace c7 := Bool.eq_false_iff.mpr c7
    subst c7
    have H1 : (spec_TurnImage.j0 k a1 true a0_0 a0_1 a0_2 l0_3) = some (r1, r2, r3, r4) := by rw [if_neg (show ¬ (false = true) by decide)] at H; exact H
    clear H
    have H := H1
    clear H1
    have H' := Aside0.mk H
    clear H
    have hnb12 := NB422_423.out
    have hnc12 := NB423_422.out
    have hcz13_0 : w5.cell? ⟨gb422, 0, none⟩ = some (.int .i64 a0_0) := B.bc BK422 0
    have hcz13_1 : w5.cell? ⟨gb422, 1, none⟩ = some (.int .i64 a0_1) := B.bc BK422 1
    have hcz13_2 : w5.cell? ⟨gb422, 2, none⟩ = some (.int .i64 a0_2) := B.bc BK422 2
    have hcz13_3 : w5.cell? ⟨gb422, 3, none⟩ = some (.slice A0_3 l0_3.length c0_3) := B.bc BK422 3
    have hfz13_0 := blk_frozen BK422.out 0
    have hfz13_1 := blk_frozen BK422.out 1
    have hfz13_2 := blk_frozen BK422.out 2
    have hfz13_3 := blk_frozen BK422.out 3
    go_wp2_with (first | ((with_reducible refine gate_callee (f := 35) rfl ?_); refine goesL_ (some 8) rfl rfl Try.func35 (by kernel_rfl) rfl #[.agg #[.int .i64 a0_0, .int .i64 a0_1, .int .i64 a0_2, .slice A0_3 l0_3.length c0_3]] rfl B.am ?_; (with_reducible refine (spec_validImage.calls k a0_0 a0_1 a0_2 _ _ l0_3 false _ ?side1 ?side2 A6.out).mono ?_); (case side1 => exact B.kc (Kd.C_below HR0_3.out HB.out)); (case side2 => exact HC0_3.out); rintro e w14 ⟨rfl, hb⟩; refine ⟨_, rfl, ?_⟩; have n0_ := Aside0.mk (blk_below (B.kb BK422) hb); have n1_ := Aside0.mk (blk_below (B.kb BK423) hb); have n2_ := Aside0.mk (below_step (B.bl HB) hb); clear BK422 BK423 HB; have BK422 := n0_; have BK423 := n1_; have HB := n2_; clear n0_ n1_ n2_; (try clear hb); (try clear hb2); (try clear hk); (try clear hi)))
    go_meet
    case rel => exact ⟨_, (true), (by first | rfl | (simp; done) | (simp [*]; done)), H', ⟨by first | omega | exact Nat.le_refl _⟩, ⟨B.kb BK422⟩, ⟨B.kb BK423⟩, ⟨B.bl HB⟩⟩
  case rest =>
    clear HC3
    try clear c1
    try clear c2
    try clear p2
    try clear c3
    try clear c7
    try clear c9
    try clear c12
    try clear hcz10_0
    try clear hcz10_1
    try clear hcz10_2
    try clear hcz10_3
    try clear hcz13_0
    try clear hcz13_1
    try clear hcz13_2
    try clear hcz13_3
    try clear hfz10_0
    try clear hfz10_1
    try clear hfz10_2
    try clear hfz10_3
    try clear hfz13_0
    try clear hfz13_1
    try clear hfz13_2
    try clear hfz13_3
    obtain ⟨kq, x14_2, rfl, HA, HJ2, BK422, BK423, HB⟩ := hcut
    cases kq with
    | zero => exact absurd HA.out (by simp [spec_TurnImage.j0])
    | succ kj2 =>
      have H := HA.out
      clear HA
      simp only [spec_TurnImage.j0] at H
      by_cases c15 : x14_2 = true
      · subst c15
        have H1 : (some (0, 0, 0, ([] : List Int))) = some (r1, r2, r3, r4) := by rw [if_pos rfl] at H; exact H
        clear H
        have H := H1
        clear H1
        simp only [Option.some.injEq, Prod.mk.injEq] at H
        obtain ⟨rfl, rfl, rfl, rfl⟩ := H
        have hnb16 := NB423_422.out
        have hnc16 := NB422_423.out
        have hcz17_0 : wc.cell? ⟨gb423, 0, none⟩ = some (.int .i64 0) := B.bc BK423 0
        have hcz17_1 : wc.cell? ⟨gb423, 1, none⟩ = some (.int .i64 0) := B.bc BK423 1
        have hcz17_2 : wc.cell? ⟨gb423, 2, none⟩ = some (.int .i64 0) := B.bc BK423 2
        have hcz17_3 : wc.cell? ⟨gb423, 3, none⟩ = some (.slice none 0 0) := B.bc BK423 3
        have hfz17_0 := blk_frozen BK423.out 0
        have hfz17_1 := blk_frozen BK423.out 1
        have hfz17_2 := blk_frozen BK423.out 2
        have hfz17_3 := blk_frozen BK423.out 3
        go_wp2
        refine bodyPost_ret (results_cell_row rfl _ _ gb423 26 #[.int .i64 0, .int .i64 0, .int .i64 0, .slice none 0 0] (0, 0) _ rfl (B.kb0 (B.bp4 BK423)) Try.underlying26 rfl (by kernel_rfl)) rfl ?_
        exact ⟨_, by first | rfl | (simp [errW_none, errW_some] <;> rfl) | (simp [*, errW_none, errW_some] <;> rfl), by first | exact Kd.R_nil _ _ _ _ _ | exact Kd.N_nil _ _ _ _ _ | exact Kd.V_nil _ _ _ _ _ | exact Kd.Q_nil _ _ _ _ _ | exact Kd.S_nil _ _ _ _ _, B.bl HB⟩
      replace c15 := Bool.eq_false_iff.mpr c15
      subst c15
      have H1 : ((spec_copyImage.f a0_0 a0_1 a0_2 l0_3).bind fun bt426 => (spec_TurnImage.l0 kj2 a1 0 bt426.1 bt426.2.1 bt426.2.2.1 bt426.2.2.2)) = some (r1, r2, r3, r4) := by rw [if_neg (show ¬ (false = true) by decide)] at H; exact H
      clear H
      have H := H1
      clear H1
      replace H := Option.bind_eq_some_iff.mp H
      obtain ⟨⟨t426, t427, t428, t429⟩, A180, H⟩ := H
      replace H : (spec_TurnImage.l0 kj2 a1 0 t426 t427 t428 t429) = some (r1, r2, r3, r4) := H
      have A18 := Aside0.mk A180
      clear A180
      have H' := Aside0.mk H
      clear H
      have hnb19 := NB422_423.out
      have hnc19 := NB423_422.out
      have hcz20_0 : wc.cell? ⟨gb422, 0, none⟩ = some (.int .i64 a0_0) := B.bc BK422 0
      have hcz20_1 : wc.cell? ⟨gb422, 1, none⟩ = some (.int .i64 a0_1) := B.bc BK422 1
      have hcz20_2 : wc.cell? ⟨gb422, 2, none⟩ = some (.int .i64 a0_2) := B.bc BK422 2
      have hcz20_3 : wc.cell? ⟨gb422, 3, none⟩ = some (.slice A0_3 l0_3.length c0_3) := B.bc BK422 3
      have hfz20_0 := blk_frozen BK422.out 0
      have hfz20_1 := blk_frozen BK422.out 1
      have hfz20_2 := blk_frozen BK422.out 2
      have hfz20_3 := blk_frozen BK422.out 3
      go_wp2_with (first | ((with_reducible refine gate_callee (f := 54) rfl ?_); refine goesL_ (some 17) rfl rfl Try.func54 (by kernel_rfl) rfl #[.agg #[.int .i64 a0_0, .int .i64 a0_1, .int .i64 a0_2, .slice A0_3 l0_3.length c0_3]] rfl B.am ?_; (with_reducible refine (spec_copyImage.calls a0_0 a0_1 a0_2 _ _ l0_3 t426 t427 t428 t429 _ ?side1 ?side2 A18.out).mono ?_); (case side1 => exact B.kc (Kd.C_below HR0_3.out HB.out)); (case side2 => exact HC0_3.out); rintro e w21 ⟨v430, rfl, ho0, hb⟩; refine ⟨_, rfl, ?_⟩; have n0_ := Aside0.mk (Kd.R_lower ho0 (below_size (B.bl HB))); have n1_ := Aside0.mk (blk_below (B.kb BK422) hb); have n2_ := Aside0.mk (blk_below (B.kb BK423) hb); have n3_ := Aside0.mk (below_step (B.bl HB) hb); clear BK422 BK423 HB; have HO431 := n0_; have BK422 := n1_; have BK423 := n2_; have HB := n3_; clear n0_ n1_ n2_ n3_; (try clear hb); (try clear hb2); (try clear hk); (try clear hi); (try clear ho0)) | ((with_reducible refine gate_dst (N := 5) rfl ?_); refine box_event ?hg (N := 5) ?hd (cs := #[.int .i64 0, .int .i64 0, .int .i64 0, .slice none 0 0]) (t := 26) ?hr ?_; (case hd => rfl); (case hg => rfl); (case hr => first | (go_simp; done) | (go_simp; rfl)); intro gb432 hg w22 hbox hb; have n0_ := Aside0.mk (Kd.R_below (B.kr HO431) hb); have n1_ := Aside0.mk (blk_below (B.kb BK422) hb); have n2_ := Aside0.mk (blk_below (B.kb BK423) hb); have n3_ := Aside0.mk (below_step (B.bl HB) hb); have n4_ := Aside0.mk (hbox); have n5_ := Aside0.mk (B.nle hg (below_size (B.bl HB))); have n6_ := Aside0.mk (B.nle hg (below_size (B.bl HB))); have n7_ := Aside0.mk (B.nlt hg (blk_lt (B.kb BK422))); have n8_ := Aside0.mk (B.ngt hg (blk_lt (B.kb BK422))); have n9_ := Aside0.mk (B.nlt hg (blk_lt (B.kb BK423))); have n10_ := Aside0.mk (B.ngt hg (blk_lt (B.kb BK423))); clear HO431 BK422 BK423 HB; have HO431 := n0_; have BK422 := n1_; have BK423 := n2_; have HB := n3_; have BK432 := n4_; have GW432 := n5_; have GE432 := n6_; have NB422_432 := n7_; have NB432_422 := n8_; have NB423_432 := n9_; have NB432_423 := n10_; clear n0_ n1_ n2_ n3_ n4_ n5_ n6_ n7_ n8_ n9_ n10_; clear hb hbox hg; have hnb23 := NB432_422.out; have hnc23 := NB422_432.out; have hnb24 := NB432_423.out; have hnc24 := NB423_432.out; have hcz25_0 : w22.cell? ⟨gb432, 0, none⟩ = some (.int .i64 0) := B.bc BK432 0; have hcz25_1 : w22.cell? ⟨gb432, 1, none⟩ = some (.int .i64 0) := B.bc BK432 1; have hcz25_2 : w22.cell? ⟨gb432, 2, none⟩ = some (.int .i64 0) := B.bc BK432 2; have hcz25_3 : w22.cell? ⟨gb432, 3, none⟩ = some (.slice none 0 0) := B.bc BK432 3; have hfz25_0 := blk_frozen BK432.out 0; have hfz25_1 := blk_frozen BK432.out 1; have hfz25_2 := blk_frozen BK432.out 2; have hfz25_3 := blk_frozen BK432.out 3; obtain ⟨Ao26, co26, eo26⟩ := Kd.R_slice HO431.out; subst eo26))
      go_loopg [6] kj2 (fun kq v6 w' => ∃ (x6_2 : Int) (x433000_2 : Int) (x433001_2 : Int) (x433002_2 : Int) (x433003_2 : List Int) (u433003 : Value), v6 = .int .i64 x6_2 ∧ Aside0 (spec_TurnImage.l0 kq a1 x6_2 x433000_2 x433001_2 x433002_2 x433003_2 = some (r1, r2, r3, r4)) ∧ Aside0 (kq ≤ kj2) ∧ Aside0 (Kd.R (Kd.int .i64) 3 w' w.heap.size (fun _ => True) u433003 x433003_2) ∧ Aside0 (w'.heap[gb422]? = some (.cells #[.int .i64 a0_0, .int .i64 a0_1, .int .i64 a0_2, (.slice A0_3 l0_3.length c0_3)] 26 (0, 0))) ∧ Aside0 (w'.heap[gb423]? = some (.cells #[.int .i64 0, .int .i64 0, .int .i64 0, (.slice none 0 0)] 26 (0, 0))) ∧ Aside0 (w'.heap[gb432]? = some (.cells #[.int .i64 x433000_2, .int .i64 x433001_2, .int .i64 x433002_2, u433003] 26 (0, 0))) ∧ Aside0 (Below w.heap.size w w'))
      case atStart => exact ⟨(0), (t426), (t427), (t428), (t429), (.slice Ao26 t429.length co26), (by first | rfl | (simp; done) | (simp [*]; done)), H', ⟨Nat.le_refl _⟩, ⟨B.kr0 (Kd.R_mono (B.rf4 HO431 BK432) (fun _ hk => trivial))⟩, ⟨B.kb0 (B.bf4 BK422 NB422_432)⟩, ⟨B.kb0 (B.bf4 BK423 NB423_432)⟩, ⟨B.kb0 (B.bp4 BK432)⟩, ⟨B.bl HB⟩⟩
      case round =>
        clear H'
        try clear c1
        try clear c2
        try clear p2
        try clear c3
        try clear c5
        try clear c7
        try clear c9
        try clear c12
        try clear c15
        try clear c16
        try clear c19
        try clear c23
        try clear c24
        try clear hcz10_0
        try clear hcz10_1
        try clear hcz10_2
        try clear hcz10_3
        try clear hcz13_0
        try clear hcz13_1
        try clear hcz13_2
        try clear hcz13_3
        try clear hcz17_0
        try clear hcz17_1
        try clear hcz17_2
        try clear hcz17_3
        try clear hcz20_0
        try clear hcz20_1
        try clear hcz20_2
        try clear hcz20_3
        try clear hcz25_0
        try clear hcz25_1
        try clear hcz25_2
        try clear hcz25_3
        try clear hfz10_0
        try clear hfz10_1
        try clear hfz10_2
        try clear hfz10_3
        try clear hfz13_0
        try clear hfz13_1
        try clear hfz13_2
        try clear hfz13_3
        try clear hfz17_0
        try clear hfz17_1
        try clear hfz17_2
        try clear hfz17_3
        try clear hfz20_0
        try clear hfz20_1
        try clear hfz20_2
        try clear hfz20_3
        try clear hfz25_0
        try clear hfz25_1
        try clear hfz25_2
        try clear hfz25_3
        try clear p2
        obtain ⟨x6_2, x433000_2, x433001_2, x433002_2, x433003_2, u433003, rfl, HA, HK2, HO_433003, BK422, BK423, BK432, HB⟩ := hrel
        cases gk with
        | zero => exact absurd HA.out (by simp [spec_TurnImage.l0])
        | succ k2 =>
          have H := HA.out
          clear HA
          simp only [spec_TurnImage.l0] at H
          by_cases c27 : x6_2 < a1
          · rw [if_pos c27] at H
            have c27b0 : decide (x6_2 < a1) = true := decide_eq_true c27
            clear c27
            replace H := Option.bind_eq_some_iff.mp H
            obtain ⟨⟨t433, t434, t435, t436⟩, A280, H⟩ := H
            replace H : (spec_TurnImage.l0 k2 a1 (wrap64 (x6_2 + 1)) t433 t434 t435 t436) = some (r1, r2, r3, r4) := H
            have A28 := Aside0.mk A280
            clear A280
            have H' := Aside0.mk H
            clear H
            have hnb29 := NB432_422.out
            have hnc29 := NB422_432.out
            have hnb30 := NB432_423.out
            have hnc30 := NB423_432.out
            have hcz31_0 : wr.cell? ⟨gb432, 0, none⟩ = some (.int .i64 x433000_2) := B.bc BK432 0
            have hcz31_1 : wr.cell? ⟨gb432, 1, none⟩ = some (.int .i64 x433001_2) := B.bc BK432 1
            have hcz31_2 : wr.cell? ⟨gb432, 2, none⟩ = some (.int .i64 x433002_2) := B.bc BK432 2
            have hcz31_3 : wr.cell? ⟨gb432, 3, none⟩ = some (u433003) := B.bc BK432 3
            have hfz31_0 := blk_frozen BK432.out 0
            have hfz31_1 := blk_frozen BK432.out 1
            have hfz31_2 := blk_frozen BK432.out 2
            have hfz31_3 := blk_frozen BK432.out 3
            obtain ⟨Ao32, co32, eo32⟩ := Kd.R_slice HO_433003.out
            subst eo32
            go_wp2_with (first | ((with_reducible refine gate_callee (f := 55) rfl ?_); refine goesL_ (some 24) rfl rfl Try.func55 (by kernel_rfl) rfl #[.agg #[.int .i64 x433000_2, .int .i64 x433001_2, .int .i64 x433002_2, .slice Ao32 x433003_2.length co32]] rfl B.am ?_; (with_reducible refine (spec_turn.calls k2 x433000_2 x433001_2 x433002_2 _ _ x433003_2 t433 t434 t435 t436 _ ?side1 ?side2 A28.out).mono ?_); (case side1 => exact B.kc ((Kd.R_reads' HO_433003.out).2.2)); (case side2 => exact (Kd.R_reads' HO_433003.out).2.1); rintro e w33 ⟨v437, rfl, ho0, hb⟩; refine ⟨_, rfl, ?_⟩; have n0_ := Aside0.mk (Kd.R_elder' (B.kr HO_433003) (Kd.R_base ho0) hb); have n1_ := Aside0.mk (Kd.R_lower (Kd.R_new' ho0 (Kd.R_lt (B.kr HO_433003))) (below_size (B.bl HB))); have n2_ := Aside0.mk (blk_below (B.kb BK422) hb); have n3_ := Aside0.mk (blk_below (B.kb BK423) hb); have n4_ := Aside0.mk (blk_below (B.kb BK432) hb); have n5_ := Aside0.mk (below_step (B.bl HB) hb); clear HO_433003 BK422 BK423 BK432 HB; have HO_433003 := n0_; have HO438 := n1_; have BK422 := n2_; have BK423 := n3_; have BK432 := n4_; have HB := n5_; clear n0_ n1_ n2_ n3_ n4_ n5_; (try clear hb); (try clear hb2); (try clear hk); (try clear hi); (try clear ho0); have hcz34_0 : w33.cell? ⟨gb432, 0, none⟩ = some (.int .i64 x433000_2) := B.bc BK432 0; have hcz34_1 : w33.cell? ⟨gb432, 1, none⟩ = some (.int .i64 x433001_2) := B.bc BK432 1; have hcz34_2 : w33.cell? ⟨gb432, 2, none⟩ = some (.int .i64 x433002_2) := B.bc BK432 2; have hcz34_3 : w33.cell? ⟨gb432, 3, none⟩ = some (.slice Ao32 x433003_2.length co32) := B.bc BK432 3; have hfz34_0 := blk_frozen BK432.out 0; have hfz34_1 := blk_frozen BK432.out 1; have hfz34_2 := blk_frozen BK432.out 2; have hfz34_3 := blk_frozen BK432.out 3; obtain ⟨Ao35, co35, eo35⟩ := Kd.R_slice HO438.out; subst eo35))
            go_roundg k2
            case measure => have := HJ2.out; have := HK2.out; omega
            case rel => exact ⟨(wrap64 (x6_2 + 1)), (t433), (t434), (t435), (t436), (.slice Ao35 t436.length co35), (by first | rfl | (simp; done) | (simp [*]; done)), H', ⟨by have := HJ2.out; have := HK2.out; omega⟩, ⟨B.kr0 (Kd.R_mono (B.rf4 HO438 BK432) (fun _ hk => trivial))⟩, ⟨B.kb0 (B.bf4 BK422 NB422_432)⟩, ⟨B.kb0 (B.bf4 BK423 NB423_432)⟩, ⟨B.kb0 (B.bp4 BK432)⟩, ⟨B.bl HB⟩⟩
          rw [if_neg c27] at H
          have c27b0 : decide (x6_2 < a1) = false := decide_eq_false c27
          clear c27
          simp only [Option.some.injEq, Prod.mk.injEq] at H
          obtain ⟨rfl, rfl, rfl, rfl⟩ := H
          have hnb36 := NB432_422.out
          have hnc36 := NB422_432.out
          have hnb37 := NB432_423.out
          have hnc37 := NB423_432.out
          have hcz38_0 : wr.cell? ⟨gb432, 0, none⟩ = some (.int .i64 x433000_2) := B.bc BK432 0
          have hcz38_1 : wr.cell? ⟨gb432, 1, none⟩ = some (.int .i64 x433001_2) := B.bc BK432 1
          have hcz38_2 : wr.cell? ⟨gb432, 2, none⟩ = some (.int .i64 x433002_2) := B.bc BK432 2
          have hcz38_3 : wr.cell? ⟨gb432, 3, none⟩ = some (u433003) := B.bc BK432 3
          have hfz38_0 := blk_frozen BK432.out 0
          have hfz38_1 := blk_frozen BK432.out 1
          have hfz38_2 := blk_frozen BK432.out 2
          have hfz38_3 := blk_frozen BK432.out 3
          have hnb39 := NB423_422.out
          have hnc39 := NB422_423.out
          have hcz40_0 : wr.cell? ⟨gb423, 0, none⟩ = some (.int .i64 0) := B.bc BK423 0
          have hcz40_1 : wr.cell? ⟨gb423, 1, none⟩ = some (.int .i64 0) := B.bc BK423 1
          have hcz40_2 : wr.cell? ⟨gb423, 2, none⟩ = some (.int .i64 0) := B.bc BK423 2
          have hcz40_3 : wr.cell? ⟨gb423, 3, none⟩ = some (.slice none 0 0) := B.bc BK423 3
          have hfz40_0 := blk_frozen BK423.out 0
          have hfz40_1 := blk_frozen BK423.out 1
          have hfz40_2 := blk_frozen BK423.out 2
          have hfz40_3 := blk_frozen BK423.out 3
          obtain ⟨Ao41, co41, eo41⟩ := Kd.R_slice HO_433003.out
          subst eo41
          go_wp2
          refine bodyPost_ret (results_cell_row rfl _ _ gb423 26 #[.int .i64 x433000_2, .int .i64 x433001_2, .int .i64 x433002_2, .slice Ao41 x433003_2.length co41] (0, 0) _ rfl (B.kb0 (B.bp4 BK423)) Try.underlying26 rfl (by kernel_rfl)) rfl ?_
          exact ⟨_, by first | rfl | (simp [errW_none, errW_some] <;> rfl) | (simp [*, errW_none, errW_some] <;> rfl), by (with_reducible repeat (first | apply Kd.R_alloc | apply Kd.R_drewN | apply Kd.R_drew)); exact Kd.R_mono (B.rf4 HO_433003 BK423) (fun _ hk => trivial), B.bl HB⟩

end Go.Proofs.Ytibbkaoghbmncaa.Q
