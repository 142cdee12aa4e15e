-- Written by a program of this session (the kit's printer, with hand-proved contracts for the functions that it does not take).
import Derived.Test.YtegicfkcdmhjgaaQ0
import Derived.Test.YtegicfkcdmhjgaaQ1
import Derived.Test.YtegicfkcdmhjgaaQ2
import Derived.Test.YtegicfkcdmhjgaaQ3
namespace Go.Proofs.Ytegicfkcdmhjgaa.Q
open Go.RowKit Go.Proofs.YtegicfkcdmhjgaaW.PrintWords Go.Proofs.YtegicfkcdmhjgaaW.PrintLast Go.Proofs.YtegicfkcdmhjgaaW.PrintMore
attribute [local go_sem] max2_int min2_int max_two min_two max_three min_three max_four min_four   -- for this text's walks alone
set_option linter.unusedVariables false
set_option linter.unusedSimpArgs false

/-! ### spec_FillImage: function 16 -/
mutual
def spec_FillImage.j0 : Nat → Int → Int → List Int → Bool → Option (Int × Int × Int × List Int)
  | 0, _, _, _, _ => none
  | k + 1, x0, x1, x2, x19 => if x19 = true then (some (0, 0, 0, ([] : List Int))) else ((spec_newImage.f x0 x1 (x2.length : Int)).bind fun bt167 => (spec_FillImage.l0 k x2 0 bt167.1 bt167.2.1 bt167.2.2.1 bt167.2.2.2))
def spec_FillImage.l0 : Nat → List Int → Int → Int → Int → Int → List Int → Option (Int × Int × Int × List Int)
  | 0, _, _, _, _, _, _ => none
  | k + 1, x2, x8, x174000, x174001, x174002, x174003 => if x8 < (x174003.length : Int) then (if (x2.length : Int) = 0 then (none) else (if 0 ≤ (Int.tmod x8 (x2.length : Int)) then (if (Int.tmod x8 (x2.length : Int)) < (x2.length : Int) then (if 0 ≤ x8 then (spec_FillImage.l0 k x2 (wrap64 (x8 + 1)) x174000 x174001 x174002 (x174003.set (x8 : Int).toNat (rd x2 (Int.tmod x8 (x2.length : Int))))) else (none)) else (none)) else (none))) else (some (x174000, x174001, x174002, x174003))
end
def spec_FillImage.f (k : Nat) (a0 : Int) (a1 : Int) (l2 : List Int) : Option (Int × Int × Int × List Int) := (spec_validShape.f a0 a1 (l2.length : Int)).bind fun t165 => (if t165 = true then ((spec_allIn.f k l2 0 255).bind fun t166 => (spec_FillImage.j0 k a0 a1 l2 (!t166))) else (spec_FillImage.j0 k a0 a1 l2 true))
theorem spec_FillImage.mono_l : ∀ k, (∀ y0 y1 y2 y3, LeO (spec_FillImage.j0 k y0 y1 y2 y3) (spec_FillImage.j0 (k + 1) y0 y1 y2 y3)) ∧ (∀ y0 y1 y2 y3 y4 y5, LeO (spec_FillImage.l0 k y0 y1 y2 y3 y4 y5) (spec_FillImage.l0 (k + 1) y0 y1 y2 y3 y4 y5))
  | 0 => ⟨fun _ _ _ _ r h => by simp [spec_FillImage.j0] at h, fun _ _ _ _ _ _ r h => by simp [spec_FillImage.l0] at h⟩
  | k + 1 => by
    obtain ⟨ih0, ih1⟩ := spec_FillImage.mono_l k
    refine ⟨?_, ?_⟩
    · intro y0 y1 y2 y3
      unfold spec_FillImage.j0
      repeat' first
      | (with_reducible exact ih0 _ _ _ _)
      | (with_reducible exact ih1 _ _ _ _ _ _)
      | (with_reducible exact spec_allIn.mono _ _ _ _)
      | (with_reducible exact LeO.refl _)
      | (with_reducible exact LeO.none _)
      | (with_reducible refine LeO.ite ?_ ?_)
      | (with_reducible refine LeO.bind ?_ (fun _ => ?_))
      | exact ih0 _ _ _ _
      | exact ih1 _ _ _ _ _ _
      | exact spec_allIn.mono _ _ _ _
      | exact LeO.none _
      | refine LeO.ite ?_ ?_
      | refine LeO.bind ?_ (fun _ => ?_)
    intro y0 y1 y2 y3 y4 y5
    unfold spec_FillImage.l0
    repeat' first
    | (with_reducible exact ih0 _ _ _ _)
    | (with_reducible exact ih1 _ _ _ _ _ _)
    | (with_reducible exact spec_allIn.mono _ _ _ _)
    | (with_reducible exact LeO.refl _)
    | (with_reducible exact LeO.none _)
    | (with_reducible refine LeO.ite ?_ ?_)
    | (with_reducible refine LeO.bind ?_ (fun _ => ?_))
    | exact ih0 _ _ _ _
    | exact ih1 _ _ _ _ _ _
    | exact spec_allIn.mono _ _ _ _
    | exact LeO.none _
    | refine LeO.ite ?_ ?_
    | refine LeO.bind ?_ (fun _ => ?_)
theorem spec_FillImage.mono : ∀ a0 a1 a2 k, LeO (spec_FillImage.f k a0 a1 a2) (spec_FillImage.f (k + 1) a0 a1 a2) := by
  intro a0 a1 a2 k
  obtain ⟨ih0, ih1⟩ := spec_FillImage.mono_l k
  unfold spec_FillImage.f
  repeat' first
      | (with_reducible exact ih0 _ _ _ _)
      | (with_reducible exact ih1 _ _ _ _ _ _)
      | (with_reducible exact spec_allIn.mono _ _ _ _)
      | (with_reducible exact LeO.refl _)
      | (with_reducible exact LeO.none _)
      | (with_reducible refine LeO.ite ?_ ?_)
      | (with_reducible refine LeO.bind ?_ (fun _ => ?_))
      | exact ih0 _ _ _ _
      | exact ih1 _ _ _ _ _ _
      | exact spec_allIn.mono _ _ _ _
      | exact LeO.none _
      | refine LeO.ite ?_ ?_
      | refine LeO.bind ?_ (fun _ => ?_)
def spec_FillImage.T7 : Bool × List (List Nat × List Nat) := (true, [([], []), ([0], [0]), ([], []), ([], []), ([], []), ([], []), ([5], [5]), ([4, 6], [4, 6]), ([3, 7], [3, 7]), ([8], [8]), ([1, 2, 0, 1, 2, 3, 4, 5, 6, 7, 8, 9], [1, 2]), ([10, 9, 0, 1, 2, 3, 4, 5, 6, 7, 8, 9], [9, 10])])
def spec_FillImage.B7 : List Nat := [0, 1, 0, 0, 0, 0, 32, 112, 248, 504, 1023, 2047]
theorem spec_FillImage.tab7 : rtab .any (opsOf Try.f16 7) = spec_FillImage.T7 := by kernel_rfl
theorem spec_FillImage.bits7 : waitsOk spec_FillImage.T7.2 spec_FillImage.B7 = true := by kernel_rfl
set_option maxHeartbeats 8000000 in
set_option maxRecDepth 100000 in
theorem spec_FillImage.calls (k : Nat) (a0 : Int) (a1 : Int) (A2 : Option Addr) (c2 : Nat) (l2 : List Int) (r1 : Int) (r2 : Int) (r3 : Int) (r4 : List Int) (w : World) (hr2 : Kd.C (Kd.int .i64) w A2 l2.length l2) (hc2 : l2.length ≤ c2) (h : spec_FillImage.f k a0 a1 l2 = some (r1, r2, r3, r4)) :
    Calls Try.prog 16 #[.int .i64 a0, .int .i64 a1, .slice A2 l2.length c2] w fun e w' => ∃ v3_ : Value, e = .returned (.agg #[.int .i64 r1, .int .i64 r2, .int .i64 r3, v3_]) ∧ Kd.R (Kd.int .i64) 3 w' w.heap.size (fun _ => True) v3_ r4 ∧ Below w.heap.size w w' := by
  have hu27 := Try.underlying27
  have HR2 := Aside0.mk hr2
  have HC2 := Aside0.mk hc2
  clear hr2 hc2
  have HB := Aside0.mk (Below.refl w.heap.size w)
  have H : ((spec_validShape.f a0 a1 (l2.length : Int)).bind fun t165 => (if t165 = true then ((spec_allIn.f k l2 0 255).bind fun t166 => (spec_FillImage.j0 k a0 a1 l2 (!t166))) else (spec_FillImage.j0 k a0 a1 l2 true))) = some (r1, r2, r3, r4) := h
  clear h
  have HC4 := Aside0.mk H
  clear H
  go_enter Try.func16, Try.ntmps16
  go_upto_region 1 with (first | ((with_reducible refine gate_dst (N := 6) rfl ?_); refine box_event ?hg (N := 6) ?hd (cs := #[.int .i64 0, .int .i64 0, .int .i64 0, .slice none 0 0]) (t := 27) ?hr ?_; (case hd => rfl); (case hg => rfl); (case hr => first | (go_simp; done) | (go_simp; rfl)); intro gb164 hg w5 hbox hb; have n0_ := Aside0.mk (below_step (B.bl HB) hb); have n1_ := Aside0.mk (hbox); have n2_ := Aside0.mk (B.nle hg (below_size (B.bl HB))); have n3_ := Aside0.mk (B.nle hg (below_size (B.bl HB))); clear HB; have HB := n0_; have BK164 := n1_; have GW164 := n2_; have GE164 := n3_; clear n0_ n1_ n2_ n3_; clear hb hbox hg))
  (try simp only [Act.put, List.setIfInBounds_toArray, List.set_cons_zero, List.set_cons_succ])
  go_cut [19] (fun v19 wc => ∃ (kq : Nat) (x19_3 : Bool), v19 = .bool x19_3 ∧ Aside0 (spec_FillImage.j0 kq a0 a1 l2 x19_3 = some (r1, r2, r3, r4)) ∧ Aside0 (kq ≤ k) ∧ Aside0 (wc.heap[gb164]? = some (.cells #[.int .i64 0, .int .i64 0, .int .i64 0, (.slice none 0 0)] 27 (0, 0))) ∧ Aside0 (Below w.heap.size w wc))
  case first =>
    have H := HC4.out
    clear HC4
    replace H := Option.bind_eq_some_iff.mp H
    obtain ⟨t165, A60, H⟩ := H
    replace H : (if t165 = true then ((spec_allIn.f k l2 0 255).bind fun t166 => (spec_FillImage.j0 k a0 a1 l2 (!t166))) else (spec_FillImage.j0 k a0 a1 l2 true)) = some (r1, r2, r3, r4) := H
    have A6 := Aside0.mk A60
    clear A60
    by_cases c7 : t165 = true
    · subst c7
      have H1 : ((spec_allIn.f k l2 0 255).bind fun t166 => (spec_FillImage.j0 k a0 a1 l2 (!t166))) = some (r1, r2, r3, r4) := by rw [if_pos rfl] at H; exact H
      clear H
      have H := H1
      clear H1
      replace H := Option.bind_eq_some_iff.mp H
      obtain ⟨t166, A80, H⟩ := H
      replace H : (spec_FillImage.j0 k a0 a1 l2 (!t166)) = some (r1, r2, r3, r4) := H
      have A8 := Aside0.mk A80
      clear A80
      have H' := Aside0.mk H
      clear H
      go_wp2_with (first | ((with_reducible refine gate_callee (f := 38) rfl ?_); refine goesL_ (some 13) rfl rfl Try.func38 (by kernel_rfl) rfl #[.int .i64 a0, .int .i64 a1, .int .i64 (l2.length : Int)] rfl B.am ?_; (with_reducible refine (spec_validShape.calls a0 a1 (l2.length : Int) true _ A6.out).mono ?_); rintro e w' ⟨rfl, ⟨nd, rfl⟩⟩; refine ⟨_, rfl, ?_⟩) | (go_at_call 39; (with_reducible refine (spec_allIn.calls k _ _ l2 0 255 t166 _ ?side1 ?side2 A8.out).mono ?_); (case side1 => exact B.kc (Kd.C_below HR2.out (B.bl HB))); (case side2 => exact HC2.out); rintro e w' ⟨rfl, ⟨nd, rfl⟩⟩))
      go_meet
      case rel => exact ⟨_, (!t166), (by first | rfl | (simp; done) | (simp [*]; done)), H', ⟨by first | omega | exact Nat.le_refl _⟩, ⟨B.kb BK164⟩, ⟨B.bl HB⟩⟩
    replace c7 := Bool.eq_false_iff.mpr c7
    subst c7
    have H1 : (spec_FillImage.j0 k a0 a1 l2 true) = some (r1, r2, r3, r4) := by rw [if_neg (show ¬ (false = true) by decide)] at H; exact H
    clear H
    have H := H1
    clear H1
    have H' := Aside0.mk H
    clear H
    go_wp2_with (first | ((with_reducible refine gate_callee (f := 38) rfl ?_); refine goesL_ (some 13) rfl rfl Try.func38 (by kernel_rfl) rfl #[.int .i64 a0, .int .i64 a1, .int .i64 (l2.length : Int)] rfl B.am ?_; (with_reducible refine (spec_validShape.calls a0 a1 (l2.length : Int) false _ A6.out).mono ?_); rintro e w' ⟨rfl, ⟨nd, rfl⟩⟩; refine ⟨_, rfl, ?_⟩))
    go_meet
    case rel => exact ⟨_, (true), (by first | rfl | (simp; done) | (simp [*]; done)), H', ⟨by first | omega | exact Nat.le_refl _⟩, ⟨B.kb BK164⟩, ⟨B.bl HB⟩⟩
  case rest =>
    clear HC4
    try clear c1
    try clear c2
    try clear p2
    try clear c3
    try clear c7
    obtain ⟨kq, x19_3, rfl, HA, HJ3, BK164, HB⟩ := hcut
    cases kq with
    | zero => exact absurd HA.out (by simp [spec_FillImage.j0])
    | succ kj3 =>
      have H := HA.out
      clear HA
      simp only [spec_FillImage.j0] at H
      by_cases c9 : x19_3 = true
      · subst c9
        have H1 : (some (0, 0, 0, ([] : List Int))) = some (r1, r2, r3, r4) := by rw [if_pos rfl] at H; exact H
        clear H
        have H := H1
        clear H1
        simp only [Option.some.injEq, Prod.mk.injEq] at H
        obtain ⟨rfl, rfl, rfl, rfl⟩ := H
        have hcz10_0 : wc.cell? ⟨gb164, 0, none⟩ = some (.int .i64 0) := B.bc BK164 0
        have hcz10_1 : wc.cell? ⟨gb164, 1, none⟩ = some (.int .i64 0) := B.bc BK164 1
        have hcz10_2 : wc.cell? ⟨gb164, 2, none⟩ = some (.int .i64 0) := B.bc BK164 2
        have hcz10_3 : wc.cell? ⟨gb164, 3, none⟩ = some (.slice none 0 0) := B.bc BK164 3
        have hfz10_0 := blk_frozen BK164.out 0
        have hfz10_1 := blk_frozen BK164.out 1
        have hfz10_2 := blk_frozen BK164.out 2
        have hfz10_3 := blk_frozen BK164.out 3
        go_wp2
        refine bodyPost_ret (results_cell_row rfl _ _ gb164 27 #[.int .i64 0, .int .i64 0, .int .i64 0, .slice none 0 0] (0, 0) _ rfl (B.kb0 (B.bp4 BK164)) Try.underlying27 rfl (by kernel_rfl)) rfl ?_
        exact ⟨_, by first | rfl | (simp [errW_none, errW_some] <;> rfl) | (simp [*, errW_none, errW_some] <;> rfl), by first | exact Kd.R_nil _ _ _ _ _ | exact Kd.N_nil _ _ _ _ _ | exact Kd.V_nil _ _ _ _ _ | exact Kd.Q_nil _ _ _ _ _ | exact Kd.S_nil _ _ _ _ _, B.bl HB⟩
      replace c9 := Bool.eq_false_iff.mpr c9
      subst c9
      have H1 : ((spec_newImage.f a0 a1 (l2.length : Int)).bind fun bt167 => (spec_FillImage.l0 kj3 l2 0 bt167.1 bt167.2.1 bt167.2.2.1 bt167.2.2.2)) = some (r1, r2, r3, r4) := by rw [if_neg (show ¬ (false = true) by decide)] at H; exact H
      clear H
      have H := H1
      clear H1
      replace H := Option.bind_eq_some_iff.mp H
      obtain ⟨⟨t167, t168, t169, t170⟩, A110, H⟩ := H
      replace H : (spec_FillImage.l0 kj3 l2 0 t167 t168 t169 t170) = some (r1, r2, r3, r4) := H
      have A11 := Aside0.mk A110
      clear A110
      have H' := Aside0.mk H
      clear H
      go_wp2_with (first | ((with_reducible refine gate_callee (f := 40) rfl ?_); refine goesL_ (some 25) rfl rfl Try.func40 (by kernel_rfl) rfl #[.int .i64 a0, .int .i64 a1, .int .i64 (l2.length : Int)] rfl B.am ?_; (with_reducible refine (spec_newImage.calls a0 a1 (l2.length : Int) t167 t168 t169 t170 _ A11.out).mono ?_); rintro e w12 ⟨v171, rfl, ho0, hb⟩; refine ⟨_, rfl, ?_⟩; have n0_ := Aside0.mk (Kd.R_lower ho0 (below_size (B.bl HB))); have n1_ := Aside0.mk (blk_below (B.kb BK164) hb); have n2_ := Aside0.mk (below_step (B.bl HB) hb); clear BK164 HB; have HO172 := n0_; have BK164 := n1_; have HB := n2_; clear n0_ n1_ n2_; (try clear hb); (try clear hb2); (try clear hk); (try clear hi); (try clear ho0)) | ((with_reducible refine gate_dst (N := 7) rfl ?_); refine box_event ?hg (N := 7) ?hd (cs := #[.int .i64 0, .int .i64 0, .int .i64 0, .slice none 0 0]) (t := 27) ?hr ?_; (case hd => rfl); (case hg => rfl); (case hr => first | (go_simp; done) | (go_simp; rfl)); intro gb173 hg w13 hbox hb; have n0_ := Aside0.mk (Kd.R_below (B.kr HO172) hb); have n1_ := Aside0.mk (blk_below (B.kb BK164) hb); have n2_ := Aside0.mk (below_step (B.bl HB) hb); have n3_ := Aside0.mk (hbox); have n4_ := Aside0.mk (B.nle hg (below_size (B.bl HB))); have n5_ := Aside0.mk (B.nle hg (below_size (B.bl HB))); have n6_ := Aside0.mk (B.nlt hg (blk_lt (B.kb BK164))); have n7_ := Aside0.mk (B.ngt hg (blk_lt (B.kb BK164))); clear HO172 BK164 HB; have HO172 := n0_; have BK164 := n1_; have HB := n2_; have BK173 := n3_; have GW173 := n4_; have GE173 := n5_; have NB164_173 := n6_; have NB173_164 := n7_; clear n0_ n1_ n2_ n3_ n4_ n5_ n6_ n7_; clear hb hbox hg; have hnb14 := NB173_164.out; have hnc14 := NB164_173.out; have hcz15_0 : w13.cell? ⟨gb173, 0, none⟩ = some (.int .i64 0) := B.bc BK173 0; have hcz15_1 : w13.cell? ⟨gb173, 1, none⟩ = some (.int .i64 0) := B.bc BK173 1; have hcz15_2 : w13.cell? ⟨gb173, 2, none⟩ = some (.int .i64 0) := B.bc BK173 2; have hcz15_3 : w13.cell? ⟨gb173, 3, none⟩ = some (.slice none 0 0) := B.bc BK173 3; have hfz15_0 := blk_frozen BK173.out 0; have hfz15_1 := blk_frozen BK173.out 1; have hfz15_2 := blk_frozen BK173.out 2; have hfz15_3 := blk_frozen BK173.out 3; obtain ⟨Ao16, co16, eo16⟩ := Kd.R_slice HO172.out; subst eo16))
      go_loopg [8] kj3 (fun kq v8 w' => ∃ (x8_2 : Int) (x174003_2 : List Int) (u174003 : Value), v8 = .int .i64 x8_2 ∧ Aside0 (spec_FillImage.l0 kq l2 x8_2 t167 t168 t169 x174003_2 = some (r1, r2, r3, r4)) ∧ Aside0 (kq ≤ kj3) ∧ Aside0 (Kd.R (Kd.int .i64) 3 w' w.heap.size (fun _ => True) u174003 x174003_2) ∧ Aside0 (w'.heap[gb164]? = some (.cells #[.int .i64 0, .int .i64 0, .int .i64 0, (.slice none 0 0)] 27 (0, 0))) ∧ Aside0 (w'.heap[gb173]? = some (.cells #[.int .i64 t167, .int .i64 t168, .int .i64 t169, u174003] 27 (0, 0))) ∧ Aside0 (Below w.heap.size w w'))
      case atStart => exact ⟨(0), (t170), (.slice Ao16 t170.length co16), (by first | rfl | (simp; done) | (simp [*]; done)), H', ⟨Nat.le_refl _⟩, ⟨B.kr0 (Kd.R_mono (B.rf4 HO172 BK173) (fun _ hk => trivial))⟩, ⟨B.kb0 (B.bf4 BK164 NB164_173)⟩, ⟨B.kb0 (B.bp4 BK173)⟩, ⟨B.bl HB⟩⟩
      case round =>
        clear H'
        try clear c1
        try clear c2
        try clear p2
        try clear c3
        try clear c4
        try clear c7
        try clear c9
        try clear c14
        try clear c16
        try clear hcz10_0
        try clear hcz10_1
        try clear hcz10_2
        try clear hcz10_3
        try clear hcz15_0
        try clear hcz15_1
        try clear hcz15_2
        try clear hcz15_3
        try clear hfz10_0
        try clear hfz10_1
        try clear hfz10_2
        try clear hfz10_3
        try clear hfz15_0
        try clear hfz15_1
        try clear hfz15_2
        try clear hfz15_3
        try clear p2
        obtain ⟨x8_2, x174003_2, u174003, rfl, HA, HK2, HO_174003, BK164, BK173, HB⟩ := hrel
        cases gk with
        | zero => exact absurd HA.out (by simp [spec_FillImage.l0])
        | succ k2 =>
          have H := HA.out
          clear HA
          simp only [spec_FillImage.l0] at H
          by_cases c17 : x8_2 < (x174003_2.length : Int)
          · rw [if_pos c17] at H
            have c17b0 : decide (x8_2 < (x174003_2.length : Int)) = true := decide_eq_true c17
            clear c17
            by_cases c18 : (l2.length : Int) = 0
            · rw [if_pos c18] at H
              exact absurd H (by simp)
            rw [if_neg c18] at H
            have c18b0 : ((l2.length : Int) == 0) = false := beq_eq_false_iff_ne.mpr c18
            have c18b1 : ((l2.length : Int) != 0) = true := bne_iff_ne.mpr c18
            have c18b2 : ¬ (l2 = []) := fun h_ => c18 (by rw [h_]; rfl)
            obtain ⟨ji19, hji19⟩ : ∃ j_ : Int, (Int.tmod x8_2 (l2.length : Int)) = j_ := ⟨_, rfl⟩
            replace H : (if 0 ≤ (ji19) then (if (ji19) < (l2.length : Int) then (if 0 ≤ x8_2 then (spec_FillImage.l0 k2 l2 (wrap64 (x8_2 + 1)) t167 t168 t169 (x174003_2.set (x8_2 : Int).toNat (rd l2 (ji19)))) else (none)) else (none)) else (none)) = some (r1, r2, r3, r4) := by first | (rw [hji19] at H; exact H) | (simp only [hji19] at H ⊢; exact H)
            by_cases c20 : 0 ≤ (ji19)
            · rw [if_pos c20] at H
              have c20b0 : decide (0 ≤ (ji19)) = true := decide_eq_true c20
              clear c20
              by_cases c21 : (ji19) < (l2.length : Int)
              · rw [if_pos c21] at H
                have c21b0 : decide ((ji19) < (l2.length : Int)) = true := decide_eq_true c21
                clear c21
                by_cases c22 : 0 ≤ x8_2
                · rw [if_pos c22] at H
                  have c22b0 : decide (0 ≤ x8_2) = true := decide_eq_true c22
                  clear c22
                  obtain ⟨y175, hy175⟩ : ∃ y_ : List Int, y_ = (x174003_2.set (x8_2 : Int).toNat (rd l2 (ji19))) := ⟨_, rfl⟩
                  replace H : (spec_FillImage.l0 k2 l2 (wrap64 (x8_2 + 1)) t167 t168 t169 y175) = some (r1, r2, r3, r4) := by first | (rw [hy175]; with_reducible exact H) | (have H2_ := (Option.bind_some _ _).symm.trans H; rw [hy175]; with_reducible exact H2_) | (have H2_ := (Option.bind_some _ _).symm.trans H; with_reducible exact H2_) | with_reducible exact H | (rw [hy175]; exact H) | exact H
                  have Ny175 := Aside0.mk hy175
                  clear hy175
                  have H' := Aside0.mk H
                  clear H
                  have hnb24 := NB173_164.out
                  have hnc24 := NB164_173.out
                  have hcz25_0 : wr.cell? ⟨gb173, 0, none⟩ = some (.int .i64 t167) := B.bc BK173 0
                  have hcz25_1 : wr.cell? ⟨gb173, 1, none⟩ = some (.int .i64 t168) := B.bc BK173 1
                  have hcz25_2 : wr.cell? ⟨gb173, 2, none⟩ = some (.int .i64 t169) := B.bc BK173 2
                  have hcz25_3 : wr.cell? ⟨gb173, 3, none⟩ = some (u174003) := B.bc BK173 3
                  have hfz25_0 := blk_frozen BK173.out 0
                  have hfz25_1 := blk_frozen BK173.out 1
                  have hfz25_2 := blk_frozen BK173.out 2
                  have hfz25_3 := blk_frozen BK173.out 3
                  obtain ⟨Ao26, co26, eo26⟩ := Kd.R_slice HO_174003.out
                  subst eo26
                  try go_wp2
                  have n0_ := Aside0.mk (Kd.R_drew HO_174003.out)
                  have n1_ := Aside0.mk (blk_drew BK164.out)
                  have n2_ := Aside0.mk (blk_drew BK173.out)
                  have n3_ := Aside0.mk (below_drew1 HB.out)
                  clear HO_174003 BK164 BK173 HB
                  have HO_174003 := n0_
                  have BK164 := n1_
                  have BK173 := n2_
                  have HB := n3_
                  clear n0_ n1_ n2_ n3_
                  have p174 : 0 ≤ ((ji19) : Int) := of_decide_eq_true (by first | (with_reducible assumption) | assumption)
                  have q174 : (ji19) < (l2.length : Int) := of_decide_eq_true (by first | (with_reducible assumption) | assumption)
                  obtain ⟨ad174, e174, hx174_0⟩ := Kd.at_int HR2.out (ji19) p174 q174
                  have hw174_0 := hx174_0
                  cases e174
                  replace hx174_0 := (HB.out.cell (World.block_lt_of_cell? w _ hx174_0)).trans hx174_0
                  replace p174 := eq_true p174
                  replace q174 := eq_true q174
                  have p23 : 0 ≤ (x8_2 : Int) := of_decide_eq_true (by first | (with_reducible assumption) | assumption)
                  have q23 : (x8_2 : Int) < ((x174003_2.length : Int) : Int) := of_decide_eq_true (by first | (with_reducible assumption) | assumption)
                  obtain ⟨go23, co23, eo23, gb23, gl23, cl23, HG23⟩ := Kd.R_form HO_174003.out (by omega)
                  (first | cases eo23 | (injection eo23 with ea_ en_ ec_; (first | subst ea_ | (injection ea_ with ea_; subst ea_)); subst ec_; clear en_))
                  have GB23 := Aside0.mk gb23
                  have GG23 := Aside0.mk HG23
                  clear gb23 gl23 HG23
                  obtain ⟨hx23_0, hf23_0⟩ := Kd.R_celln 0 HO_174003.out (x8_2 : Int) p23 q23
                  replace p23 := eq_true p23
                  replace q23 := eq_true q23
                  have HP28 := Kd.R_putn HO_174003.out (x8_2 : Int) (rd l2 (ji19))
                  rw [← Ny175.out] at HP28
                  have HQ28 := Aside0.mk HP28
                  clear HP28
                  refine start_ (n := 12) (S := fun w' => w'.cell? ⟨gb173, 0, none⟩ = some (.int .i64 t167) ∧ w'.cell? ⟨gb173, 1, none⟩ = some (.int .i64 t168) ∧ w'.cell? ⟨gb173, 2, none⟩ = some (.int .i64 t169) ∧ w'.cell? ⟨gb173, 3, none⟩ = some (.slice (some ⟨go23, 0, none⟩) x174003_2.length co26) ∧ w'.cell? (ad174.add ((ji19)).toNat) = some (.int .i64 (rd l2 (ji19)))) (ds := [11]) #[false, false, false, false, false, false, false, false, false, false, false, false] (by kernel_rfl) rfl rfl ⟨B.bc BK173 0, B.bc BK173 1, B.bc BK173 2, B.bc BK173 3, ((HB.out.cell (World.block_lt_of_cell? w _ hw174_0)).trans hw174_0)⟩ (fun hHeld => ?_); refine with_tabW spec_FillImage.tab7 spec_FillImage.bits7 (fun HT_ HW_ => ?_)
                  generalize wr.drew = w27 at HO_174003 BK164 BK173 HB GG23 HQ28 hf23_0 hx174_0 hx23_0 hHeld ⊢
                  refine pure_ (i := 0) (N := some 33) (v := ?_) (a' := ?_) #[true, false, false, false, false, false, false, false, false, false, false, false] rfl rfl (any_of HT_.out (by kernel_rfl)) (fun _ _ _ h => h) (Or.inl ⟨by rfl, ?_⟩) ?_ ?_
                  rotate_left
                  · intro w'
                    go_simp
                    with_reducible rfl
                  rotate_left
                  · simp only [Act.put, List.setIfInBounds_toArray, List.set_cons_zero, List.set_cons_succ, i64_w, i32_w]
                    rfl
                  refine pure_ (i := 2) (N := some 35) (v := ?_) (a' := ?_) #[true, false, true, false, false, false, false, false, false, false, false, false] rfl rfl (any_of HT_.out (by kernel_rfl)) (fun _ _ _ h => h) (Or.inl ⟨by rfl, ?_⟩) ?_ ?_
                  rotate_left
                  · intro w'
                    go_simp
                    with_reducible rfl
                  rotate_left
                  · simp only [Act.put, List.setIfInBounds_toArray, List.set_cons_zero, List.set_cons_succ, i64_w, i32_w]
                    rfl
                  refine pure_ (i := 3) (N := some 36) (v := ?_) (a' := ?_) #[true, false, true, true, false, false, false, false, false, false, false, false] rfl rfl (any_of HT_.out (by kernel_rfl)) (fun _ _ _ h => h) (Or.inl ⟨by rfl, ?_⟩) ?_ ?_
                  rotate_left
                  · intro w'
                    go_simp
                    with_reducible rfl
                  rotate_left
                  · simp only [Act.put, List.setIfInBounds_toArray, List.set_cons_zero, List.set_cons_succ, i64_w, i32_w]
                    rfl
                  refine pure_ (i := 4) (N := some 37) (v := ?_) (a' := ?_) #[true, false, true, true, true, false, false, false, false, false, false, false] rfl rfl (any_of HT_.out (by kernel_rfl)) (fun _ _ _ h => h) (Or.inl ⟨by rfl, ?_⟩) ?_ ?_
                  rotate_left
                  · intro w'
                    go_simp
                    with_reducible rfl
                  rotate_left
                  · simp only [Act.put, List.setIfInBounds_toArray, List.set_cons_zero, List.set_cons_succ, i64_w, i32_w]
                    rfl
                  refine pure_ (i := 5) (N := some 38) (v := ?_) (a' := ?_) #[true, false, true, true, true, true, false, false, false, false, false, false] rfl rfl (any_of HT_.out (by kernel_rfl)) (fun _ _ _ h => h) (Or.inl ⟨by rfl, ?_⟩) ?_ ?_
                  rotate_left
                  · intro w'
                    go_simp
                    with_reducible rfl
                  rotate_left
                  · simp only [Act.put, List.setIfInBounds_toArray, List.set_cons_zero, List.set_cons_succ, i64_w, i32_w]
                    rfl
                  refine pure_ (i := 6) (N := some 39) (v := ?_) (a' := ?_) #[true, false, true, true, true, true, true, false, false, false, false, false] rfl rfl (any_of HT_.out (by kernel_rfl)) (fun _ _ _ h => h) (Or.inl ⟨by rfl, ?_⟩) ?_ ?_
                  rotate_left
                  · intro w'
                    go_simp
                    with_reducible rfl
                  rotate_left
                  · simp only [Act.put, List.setIfInBounds_toArray, List.set_cons_zero, List.set_cons_succ, i64_w, i32_w]
                    rfl
                  refine pure_ (i := 7) (N := some 40) (v := ?_) (a' := ?_) #[true, false, true, true, true, true, true, true, false, false, false, false] rfl rfl (any_of HT_.out (by kernel_rfl)) (fun _ _ _ h => h) (Or.inl ⟨by rfl, ?_⟩) ?_ ?_
                  rotate_left
                  · intro w'
                    go_simp
                    with_reducible rfl
                  rotate_left
                  · simp only [Act.put, List.setIfInBounds_toArray, List.set_cons_zero, List.set_cons_succ, i64_w, i32_w]
                    rfl
                  refine pure_ (i := 8) (N := some 41) (v := ?_) (a' := ?_) #[true, false, true, true, true, true, true, true, true, false, false, false] rfl rfl (any_of HT_.out (by kernel_rfl)) (fun _ _ _ h => h) (Or.inl ⟨by rfl, ?_⟩) ?_ ?_
                  rotate_left
                  · intro w'
                    go_simp
                    with_reducible rfl
                  rotate_left
                  · simp only [Act.put, List.setIfInBounds_toArray, List.set_cons_zero, List.set_cons_succ, i64_w, i32_w]
                    rfl
                  refine take_ (i := 1) (N := some 34) (v := ?_) (a' := ?_) #[true, true, true, true, true, true, true, true, true, false, false, false] rfl rfl (take_ofW HT_.out HW_.out (by kernel_rfl)) (fun _ _ _ h => h) (Or.inl ⟨by rfl, ?_⟩) hHeld ?_ ?_
                  rotate_left
                  · rintro w' ⟨s0, s1, s2, s3, s4⟩
                    go_simp
                    with_reducible rfl
                  rotate_left
                  · simp only [Act.put, List.setIfInBounds_toArray, List.set_cons_zero, List.set_cons_succ, i64_w, i32_w]
                    rfl
                  refine take_ (i := 9) (N := some 42) (v := ?_) (a' := ?_) #[true, true, true, true, true, true, true, true, true, true, false, false] rfl rfl (take_ofW HT_.out HW_.out (by kernel_rfl)) (fun _ _ _ h => h) (Or.inl ⟨by rfl, ?_⟩) hHeld ?_ ?_
                  rotate_left
                  · rintro w' ⟨s0, s1, s2, s3, s4⟩
                    go_simp
                    with_reducible rfl
                  rotate_left
                  · simp only [Act.put, List.setIfInBounds_toArray, List.set_cons_zero, List.set_cons_succ, i64_w, i32_w]
                    rfl
                  refine pure_ (i := 10) (N := some 43) (v := ?_) (a' := ?_) #[true, true, true, true, true, true, true, true, true, true, true, false] rfl rfl (any_of HT_.out (by kernel_rfl)) (fun _ _ _ h => h) (Or.inl ⟨by rfl, ?_⟩) ?_ ?_
                  rotate_left
                  · intro w'
                    go_simp
                    with_reducible rfl
                  rotate_left
                  · simp only [Act.put, List.setIfInBounds_toArray, List.set_cons_zero, List.set_cons_succ, i64_w, i32_w]
                    rfl
                  refine last_ (i := 11) (N := none) #[true, true, true, true, true, true, true, true, true, true, true, true] rfl rfl (one_of HT_.out (by kernel_rfl)) (by decide) (fun K hK => ?_)
                  refine skip_ (w1 := ?_) (by rfl) rfl ?_ ?_
                  rotate_left
                  · go_simp
                    rfl
                  refine hK.out _ _ ?_
                  clear hK K
                  refine done_ (done_of HT_.out (by kernel_rfl)) ?_
                  try go_wp2
                  go_roundg k2
                  case measure => have := HJ3.out; have := HK2.out; omega
                  case rel => exact ⟨(wrap64 (x8_2 + 1)), (y175), (.slice (some ⟨go23, 0, none⟩) x174003_2.length co26), (by first | rfl | (simp; done) | (simp [*]; done)), H', ⟨by have := HJ3.out; have := HK2.out; omega⟩, ⟨B.kr HQ28⟩, ⟨by (with_reducible repeat (first | refine blk_drewN ?_ _ | refine blk_drew ?_ | refine blk_alloc ?_ _)); refine blk_far ?_ (by have h_ := Kd.R_ne HO_174003.out BK164.out (by decide); intro e_; exact h_ (by rw [e_]; rfl)) _; (with_reducible repeat (first | refine blk_drewN ?_ _ | refine blk_drew ?_ | refine blk_alloc ?_ _)); exact BK164.out⟩, ⟨by (with_reducible repeat (first | refine blk_drewN ?_ _ | refine blk_drew ?_ | refine blk_alloc ?_ _)); refine blk_far ?_ (by have h_ := Kd.R_ne HO_174003.out BK173.out (by decide); intro e_; exact h_ (by rw [e_]; rfl)) _; (with_reducible repeat (first | refine blk_drewN ?_ _ | refine blk_drew ?_ | refine blk_alloc ?_ _)); exact BK173.out⟩, ⟨B.bl HB⟩⟩
                rw [if_neg c22] at H
                exact absurd H (by simp)
              rw [if_neg c21] at H
              exact absurd H (by simp)
            rw [if_neg c20] at H
            exact absurd H (by simp)
          rw [if_neg c17] at H
          have c17b0 : decide (x8_2 < (x174003_2.length : Int)) = false := decide_eq_false c17
          clear c17
          simp only [Option.some.injEq, Prod.mk.injEq] at H
          obtain ⟨rfl, rfl, rfl, rfl⟩ := H
          have hnb29 := NB173_164.out
          have hnc29 := NB164_173.out
          have hcz30_0 : wr.cell? ⟨gb173, 0, none⟩ = some (.int .i64 t167) := B.bc BK173 0
          have hcz30_1 : wr.cell? ⟨gb173, 1, none⟩ = some (.int .i64 t168) := B.bc BK173 1
          have hcz30_2 : wr.cell? ⟨gb173, 2, none⟩ = some (.int .i64 t169) := B.bc BK173 2
          have hcz30_3 : wr.cell? ⟨gb173, 3, none⟩ = some (u174003) := B.bc BK173 3
          have hfz30_0 := blk_frozen BK173.out 0
          have hfz30_1 := blk_frozen BK173.out 1
          have hfz30_2 := blk_frozen BK173.out 2
          have hfz30_3 := blk_frozen BK173.out 3
          obtain ⟨Ao31, co31, eo31⟩ := Kd.R_slice HO_174003.out
          subst eo31
          have hcz32_0 : wr.cell? ⟨gb164, 0, none⟩ = some (.int .i64 0) := B.bc BK164 0
          have hcz32_1 : wr.cell? ⟨gb164, 1, none⟩ = some (.int .i64 0) := B.bc BK164 1
          have hcz32_2 : wr.cell? ⟨gb164, 2, none⟩ = some (.int .i64 0) := B.bc BK164 2
          have hcz32_3 : wr.cell? ⟨gb164, 3, none⟩ = some (.slice none 0 0) := B.bc BK164 3
          have hfz32_0 := blk_frozen BK164.out 0
          have hfz32_1 := blk_frozen BK164.out 1
          have hfz32_2 := blk_frozen BK164.out 2
          have hfz32_3 := blk_frozen BK164.out 3
          go_wp2
          refine bodyPost_ret (results_cell_row rfl _ _ gb164 27 #[.int .i64 t167, .int .i64 t168, .int .i64 t169, .slice Ao31 x174003_2.length co31] (0, 0) _ rfl (B.kb0 (B.bp4 BK164)) Try.underlying27 rfl (by kernel_rfl)) rfl ?_
          exact ⟨_, by first | rfl | (simp [errW_none, errW_some] <;> rfl) | (simp [*, errW_none, errW_some] <;> rfl), by (with_reducible repeat (first | apply Kd.R_alloc | apply Kd.R_drewN | apply Kd.R_drew)); exact Kd.R_mono (B.rf4 HO_174003 BK164) (fun _ hk => trivial), B.bl HB⟩

/-! ### impl_FillImage: function 18 -/
mutual
def impl_FillImage.j0 : Nat → Int → Int → List Int → Bool → Int → Int → Int → Option (Int × Int × Int × List Int)
  | 0, _, _, _, _, _, _, _ => none
  | k + 1, x0, x1, x2, x35, x178000, x178001, x178002 => if x35 = true then (some (0, 0, 0, ([] : List Int))) else (impl_FillImage.l0 k x2 (wrap64 (x0 * x1)) 0 x178000 x178001 x178002 ([] : List Int))
def impl_FillImage.l0 : Nat → List Int → Int → Int → Int → Int → Int → List Int → Option (Int × Int × Int × List Int)
  | 0, _, _, _, _, _, _, _ => none
  | k + 1, x2, x39, x40, x178000, x178001, x178002, x178003 => if x40 < x39 then (if x178003.length + x2.length < 17592186044416 then (impl_FillImage.l0 k x2 x39 (wrap64 (x40 + 1)) x178000 x178001 x178002 (x178003 ++ x2)) else (none)) else (some (x178000, x178001, x178002, x178003))
end
def impl_FillImage.f (k : Nat) (a0 : Int) (a1 : Int) (l2 : List Int) : Option (Int × Int × Int × List Int) := (impl_isSide.f a0).bind fun t178 => (if t178 = true then ((impl_isSide.f a1).bind fun t179 => (if t179 = true then (if (l2.length : Int) < 1 then (impl_FillImage.j0 k a0 a1 l2 true a0 a1 (l2.length : Int)) else (if (l2.length : Int) > 4 then (impl_FillImage.j0 k a0 a1 l2 true a0 a1 (l2.length : Int)) else ((impl_areBytes.f l2).bind fun t180 => (impl_FillImage.j0 k a0 a1 l2 (!t180) a0 a1 (l2.length : Int))))) else (impl_FillImage.j0 k a0 a1 l2 true a0 a1 (l2.length : Int)))) else (impl_FillImage.j0 k a0 a1 l2 true a0 a1 (l2.length : Int)))
theorem impl_FillImage.mono_l : ∀ k, (∀ y0 y1 y2 y3 y4 y5 y6, LeO (impl_FillImage.j0 k y0 y1 y2 y3 y4 y5 y6) (impl_FillImage.j0 (k + 1) y0 y1 y2 y3 y4 y5 y6)) ∧ (∀ y0 y1 y2 y3 y4 y5 y6, LeO (impl_FillImage.l0 k y0 y1 y2 y3 y4 y5 y6) (impl_FillImage.l0 (k + 1) y0 y1 y2 y3 y4 y5 y6))
  | 0 => ⟨fun _ _ _ _ _ _ _ r h => by simp [impl_FillImage.j0] at h, fun _ _ _ _ _ _ _ r h => by simp [impl_FillImage.l0] at h⟩
  | k + 1 => by
    obtain ⟨ih0, ih1⟩ := impl_FillImage.mono_l k
    refine ⟨?_, ?_⟩
    · intro y0 y1 y2 y3 y4 y5 y6
      unfold impl_FillImage.j0
      repeat' first
      | (with_reducible exact ih0 _ _ _ _ _ _ _)
      | (with_reducible exact ih1 _ _ _ _ _ _ _)
      | (with_reducible exact LeO.refl _)
      | (with_reducible exact LeO.none _)
      | (with_reducible refine LeO.ite ?_ ?_)
      | (with_reducible refine LeO.bind ?_ (fun _ => ?_))
      | exact ih0 _ _ _ _ _ _ _
      | exact ih1 _ _ _ _ _ _ _
      | exact LeO.none _
      | refine LeO.ite ?_ ?_
      | refine LeO.bind ?_ (fun _ => ?_)
    intro y0 y1 y2 y3 y4 y5 y6
    unfold impl_FillImage.l0
    repeat' first
    | (with_reducible exact ih0 _ _ _ _ _ _ _)
    | (with_reducible exact ih1 _ _ _ _ _ _ _)
    | (with_reducible exact LeO.refl _)
    | (with_reducible exact LeO.none _)
    | (with_reducible refine LeO.ite ?_ ?_)
    | (with_reducible refine LeO.bind ?_ (fun _ => ?_))
    | exact ih0 _ _ _ _ _ _ _
    | exact ih1 _ _ _ _ _ _ _
    | exact LeO.none _
    | refine LeO.ite ?_ ?_
    | refine LeO.bind ?_ (fun _ => ?_)
theorem impl_FillImage.mono : ∀ a0 a1 a2 k, LeO (impl_FillImage.f k a0 a1 a2) (impl_FillImage.f (k + 1) a0 a1 a2) := by
  intro a0 a1 a2 k
  obtain ⟨ih0, ih1⟩ := impl_FillImage.mono_l k
  unfold impl_FillImage.f
  repeat' first
      | (with_reducible exact ih0 _ _ _ _ _ _ _)
      | (with_reducible exact ih1 _ _ _ _ _ _ _)
      | (with_reducible exact LeO.refl _)
      | (with_reducible exact LeO.none _)
      | (with_reducible refine LeO.ite ?_ ?_)
      | (with_reducible refine LeO.bind ?_ (fun _ => ?_))
      | exact ih0 _ _ _ _ _ _ _
      | exact ih1 _ _ _ _ _ _ _
      | exact LeO.none _
      | refine LeO.ite ?_ ?_
      | refine LeO.bind ?_ (fun _ => ?_)
set_option maxHeartbeats 8000000 in
set_option maxRecDepth 100000 in
theorem impl_FillImage.calls (k : Nat) (a0 : Int) (a1 : Int) (A2 : Option Addr) (c2 : Nat) (l2 : List Int) (r1 : Int) (r2 : Int) (r3 : Int) (r4 : List Int) (w : World) (hr2 : Kd.C (Kd.int .i64) w A2 l2.length l2) (hc2 : l2.length ≤ c2) (h : impl_FillImage.f k a0 a1 l2 = some (r1, r2, r3, r4)) :
    Calls Try.prog 18 #[.int .i64 a0, .int .i64 a1, .slice A2 l2.length c2] w fun e w' => ∃ v3_ : Value, e = .returned (.agg #[.int .i64 r1, .int .i64 r2, .int .i64 r3, v3_]) ∧ Kd.R (Kd.int .i64) 3 w' w.heap.size (fun _ => True) v3_ r4 ∧ Below w.heap.size w w' := by
  have hu27 := Try.underlying27
  have HR2 := Aside0.mk hr2
  have HC2 := Aside0.mk hc2
  clear hr2 hc2
  have HB := Aside0.mk (Below.refl w.heap.size w)
  have H : ((impl_isSide.f a0).bind fun t178 => (if t178 = true then ((impl_isSide.f a1).bind fun t179 => (if t179 = true then (if (l2.length : Int) < 1 then (impl_FillImage.j0 k a0 a1 l2 true a0 a1 (l2.length : Int)) else (if (l2.length : Int) > 4 then (impl_FillImage.j0 k a0 a1 l2 true a0 a1 (l2.length : Int)) else ((impl_areBytes.f l2).bind fun t180 => (impl_FillImage.j0 k a0 a1 l2 (!t180) a0 a1 (l2.length : Int))))) else (impl_FillImage.j0 k a0 a1 l2 true a0 a1 (l2.length : Int)))) else (impl_FillImage.j0 k a0 a1 l2 true a0 a1 (l2.length : Int)))) = some (r1, r2, r3, r4) := h
  clear h
  have HC4 := Aside0.mk H
  clear H
  go_enter Try.func18, Try.ntmps18
  go_upto_region 2 with (first | ((with_reducible refine gate_dst (N := 6) rfl ?_); (try (refine gate_guard (by rfl) ?_; dsimp only)); refine box_event ?hg (N := 6) ?hd (cs := #[.int .i64 0, .int .i64 0, .int .i64 0, .slice none 0 0]) (t := 27) ?hr ?_; (case hd => rfl); (case hg => rfl); (case hr => first | (go_simp; done) | (go_simp; rfl)); intro gb176 hg w5 hbox hb; have n0_ := Aside0.mk (below_step (B.bl HB) hb); have n1_ := Aside0.mk (hbox); have n2_ := Aside0.mk (B.nle hg (below_size (B.bl HB))); have n3_ := Aside0.mk (B.nle hg (below_size (B.bl HB))); clear HB; have HB := n0_; have BK176 := n1_; have GW176 := n2_; have GE176 := n3_; clear n0_ n1_ n2_ n3_; clear hb hbox hg) | ((with_reducible refine gate_dst (N := 7) rfl ?_); (try (refine gate_guard (by rfl) ?_; dsimp only)); refine box_event ?hg (N := 7) ?hd (cs := #[.int .i64 0, .int .i64 0, .int .i64 0, .slice none 0 0]) (t := 27) ?hr ?_; (case hd => rfl); (case hg => rfl); (case hr => first | (go_simp; done) | (go_simp; rfl)); intro gb177 hg w6 hbox hb; have n0_ := Aside0.mk (blk_below (B.kb BK176) hb); have n1_ := Aside0.mk (below_step (B.bl HB) hb); have n2_ := Aside0.mk (hbox); have n3_ := Aside0.mk (B.nle hg (below_size (B.bl HB))); have n4_ := Aside0.mk (B.nle hg (below_size (B.bl HB))); have n5_ := Aside0.mk (B.nlt hg (blk_lt (B.kb BK176))); have n6_ := Aside0.mk (B.ngt hg (blk_lt (B.kb BK176))); clear BK176 HB; have BK176 := n0_; have HB := n1_; have BK177 := n2_; have GW177 := n3_; have GE177 := n4_; have NB176_177 := n5_; have NB177_176 := n6_; clear n0_ n1_ n2_ n3_ n4_ n5_ n6_; clear hb hbox hg; have hnb7 := NB177_176.out; have hnc7 := NB176_177.out; have hcz8_0 : w6.cell? ⟨gb177, 0, none⟩ = some (.int .i64 0) := B.bc BK177 0; have hcz8_1 : w6.cell? ⟨gb177, 1, none⟩ = some (.int .i64 0) := B.bc BK177 1; have hcz8_2 : w6.cell? ⟨gb177, 2, none⟩ = some (.int .i64 0) := B.bc BK177 2; have hcz8_3 : w6.cell? ⟨gb177, 3, none⟩ = some (.slice none 0 0) := B.bc BK177 3; have hfz8_0 := blk_frozen BK177.out 0; have hfz8_1 := blk_frozen BK177.out 1; have hfz8_2 := blk_frozen BK177.out 2; have hfz8_3 := blk_frozen BK177.out 3))
  (try simp only [Act.put, List.setIfInBounds_toArray, List.set_cons_zero, List.set_cons_succ])
  go_cut [35] (fun v35 wc => ∃ (kq : Nat) (x35_3 : Bool), v35 = .bool x35_3 ∧ Aside0 (impl_FillImage.j0 kq a0 a1 l2 x35_3 a0 a1 (l2.length : Int) = some (r1, r2, r3, r4)) ∧ Aside0 (kq ≤ k) ∧ Aside0 (wc.heap[gb176]? = some (.cells #[.int .i64 0, .int .i64 0, .int .i64 0, (.slice none 0 0)] 27 (0, 0))) ∧ Aside0 (wc.heap[gb177]? = some (.cells #[.int .i64 a0, .int .i64 a1, .int .i64 (l2.length : Int), (.slice none 0 0)] 27 (0, 0))) ∧ Aside0 (Below w.heap.size w wc))
  case first =>
    have H := HC4.out
    clear HC4
    replace H := Option.bind_eq_some_iff.mp H
    obtain ⟨t178, A90, H⟩ := H
    replace H : (if t178 = true then ((impl_isSide.f a1).bind fun t179 => (if t179 = true then (if (l2.length : Int) < 1 then (impl_FillImage.j0 k a0 a1 l2 true a0 a1 (l2.length : Int)) else (if (l2.length : Int) > 4 then (impl_FillImage.j0 k a0 a1 l2 true a0 a1 (l2.length : Int)) else ((impl_areBytes.f l2).bind fun t180 => (impl_FillImage.j0 k a0 a1 l2 (!t180) a0 a1 (l2.length : Int))))) else (impl_FillImage.j0 k a0 a1 l2 true a0 a1 (l2.length : Int)))) else (impl_FillImage.j0 k a0 a1 l2 true a0 a1 (l2.length : Int))) = some (r1, r2, r3, r4) := H
    have A9 := Aside0.mk A90
    clear A90
    by_cases c10 : t178 = true
    · subst c10
      have H1 : ((impl_isSide.f a1).bind fun t179 => (if t179 = true then (if (l2.length : Int) < 1 then (impl_FillImage.j0 k a0 a1 l2 true a0 a1 (l2.length : Int)) else (if (l2.length : Int) > 4 then (impl_FillImage.j0 k a0 a1 l2 true a0 a1 (l2.length : Int)) else ((impl_areBytes.f l2).bind fun t180 => (impl_FillImage.j0 k a0 a1 l2 (!t180) a0 a1 (l2.length : Int))))) else (impl_FillImage.j0 k a0 a1 l2 true a0 a1 (l2.length : Int)))) = some (r1, r2, r3, r4) := by rw [if_pos rfl] at H; exact H
      clear H
      have H := H1
      clear H1
      replace H := Option.bind_eq_some_iff.mp H
      obtain ⟨t179, A110, H⟩ := H
      replace H : (if t179 = true then (if (l2.length : Int) < 1 then (impl_FillImage.j0 k a0 a1 l2 true a0 a1 (l2.length : Int)) else (if (l2.length : Int) > 4 then (impl_FillImage.j0 k a0 a1 l2 true a0 a1 (l2.length : Int)) else ((impl_areBytes.f l2).bind fun t180 => (impl_FillImage.j0 k a0 a1 l2 (!t180) a0 a1 (l2.length : Int))))) else (impl_FillImage.j0 k a0 a1 l2 true a0 a1 (l2.length : Int))) = some (r1, r2, r3, r4) := H
      have A11 := Aside0.mk A110
      clear A110
      by_cases c12 : t179 = true
      · subst c12
        have H1 : (if (l2.length : Int) < 1 then (impl_FillImage.j0 k a0 a1 l2 true a0 a1 (l2.length : Int)) else (if (l2.length : Int) > 4 then (impl_FillImage.j0 k a0 a1 l2 true a0 a1 (l2.length : Int)) else ((impl_areBytes.f l2).bind fun t180 => (impl_FillImage.j0 k a0 a1 l2 (!t180) a0 a1 (l2.length : Int))))) = some (r1, r2, r3, r4) := by rw [if_pos rfl] at H; exact H
        clear H
        have H := H1
        clear H1
        by_cases c13 : (l2.length : Int) < 1
        · rw [if_pos c13] at H
          have c13b0 : decide ((l2.length : Int) < 1) = true := decide_eq_true c13
          have c13b1 : decide (l2.length < 1) = true := decide_eq_true (by omega)
          clear c13
          (first | rw [c13b0] | (simp only [i64_w, i32_w]; rw [c13b0]) | skip)
          have H' := Aside0.mk H
          clear H
          go_wp2_with (first | ((with_reducible refine gate_callee (f := 41) rfl ?_); refine goesL_ (some 14) rfl rfl Try.func41 (by kernel_rfl) rfl #[.int .i64 a0] rfl B.am ?_; (with_reducible refine (impl_isSide.calls a0 true _ A9.out).mono ?_); rintro e w' ⟨rfl, ⟨nd, rfl⟩⟩; refine ⟨_, rfl, ?_⟩) | (go_at_call 41; (with_reducible refine (impl_isSide.calls a1 true _ A11.out).mono ?_); rintro e w' ⟨rfl, ⟨nd, rfl⟩⟩))
          go_meet
          case rel => exact ⟨_, (true), (by first | rfl | (simp; done) | (simp [*]; done)), H', ⟨by first | omega | exact Nat.le_refl _⟩, ⟨B.kb0 (B.bf4 BK176 NB176_177)⟩, ⟨B.kb0 (B.bp4 BK177)⟩, ⟨B.bl HB⟩⟩
        rw [if_neg c13] at H
        have c13b0 : decide ((l2.length : Int) < 1) = false := decide_eq_false c13
        have c13b1 : decide (l2.length < 1) = false := decide_eq_false (by omega)
        clear c13
        (first | rw [c13b0] | (simp only [i64_w, i32_w]; rw [c13b0]) | skip)
        by_cases c14 : (l2.length : Int) > 4
        · rw [if_pos c14] at H
          have c14b0 : decide (4 < (l2.length : Int)) = true := decide_eq_true c14
          have c14b1 : decide (4 < l2.length) = true := decide_eq_true (by omega)
          clear c14
          have H' := Aside0.mk H
          clear H
          go_wp2_with (first | ((with_reducible refine gate_callee (f := 41) rfl ?_); refine goesL_ (some 14) rfl rfl Try.func41 (by kernel_rfl) rfl #[.int .i64 a0] rfl B.am ?_; (with_reducible refine (impl_isSide.calls a0 true _ A9.out).mono ?_); rintro e w' ⟨rfl, ⟨nd, rfl⟩⟩; refine ⟨_, rfl, ?_⟩) | (go_at_call 41; (with_reducible refine (impl_isSide.calls a1 true _ A11.out).mono ?_); rintro e w' ⟨rfl, ⟨nd, rfl⟩⟩))
          go_meet
          case rel => exact ⟨_, (true), (by first | rfl | (simp; done) | (simp [*]; done)), H', ⟨by first | omega | exact Nat.le_refl _⟩, ⟨B.kb0 (B.bf4 BK176 NB176_177)⟩, ⟨B.kb0 (B.bp4 BK177)⟩, ⟨B.bl HB⟩⟩
        rw [if_neg c14] at H
        have c14b0 : decide (4 < (l2.length : Int)) = false := decide_eq_false c14
        have c14b1 : decide (4 < l2.length) = false := decide_eq_false (by omega)
        clear c14
        replace H := Option.bind_eq_some_iff.mp H
        obtain ⟨t180, A150, H⟩ := H
        replace H : (impl_FillImage.j0 k a0 a1 l2 (!t180) a0 a1 (l2.length : Int)) = some (r1, r2, r3, r4) := H
        have A15 := Aside0.mk A150
        clear A150
        have H' := Aside0.mk H
        clear H
        go_wp2_with (first | ((with_reducible refine gate_callee (f := 41) rfl ?_); refine goesL_ (some 14) rfl rfl Try.func41 (by kernel_rfl) rfl #[.int .i64 a0] rfl B.am ?_; (with_reducible refine (impl_isSide.calls a0 true _ A9.out).mono ?_); rintro e w' ⟨rfl, ⟨nd, rfl⟩⟩; refine ⟨_, rfl, ?_⟩) | (go_at_call 41; (with_reducible refine (impl_isSide.calls a1 true _ A11.out).mono ?_); rintro e w' ⟨rfl, ⟨nd, rfl⟩⟩) | (go_at_call 42; (with_reducible refine (impl_areBytes.calls _ _ l2 t180 _ ?side1 ?side2 A15.out).mono ?_); (case side1 => exact Kd.C_below HR2.out (B.bl HB)); (case side2 => exact HC2.out); rintro e w' ⟨rfl, ⟨nd, rfl⟩⟩))
        go_meet
        case rel => exact ⟨_, (!t180), (by first | rfl | (simp; done) | (simp [*]; done)), H', ⟨by first | omega | exact Nat.le_refl _⟩, ⟨B.kb0 (B.bf4 BK176 NB176_177)⟩, ⟨B.kb0 (B.bp4 BK177)⟩, ⟨B.bl HB⟩⟩
      replace c12 := Bool.eq_false_iff.mpr c12
      subst c12
      have H1 : (impl_FillImage.j0 k a0 a1 l2 true a0 a1 (l2.length : Int)) = some (r1, r2, r3, r4) := by rw [if_neg (show ¬ (false = true) by decide)] at H; exact H
      clear H
      have H := H1
      clear H1
      have H' := Aside0.mk H
      clear H
      go_wp2_with (first | ((with_reducible refine gate_callee (f := 41) rfl ?_); refine goesL_ (some 14) rfl rfl Try.func41 (by kernel_rfl) rfl #[.int .i64 a0] rfl B.am ?_; (with_reducible refine (impl_isSide.calls a0 true _ A9.out).mono ?_); rintro e w' ⟨rfl, ⟨nd, rfl⟩⟩; refine ⟨_, rfl, ?_⟩) | (go_at_call 41; (with_reducible refine (impl_isSide.calls a1 false _ A11.out).mono ?_); rintro e w' ⟨rfl, ⟨nd, rfl⟩⟩))
      go_meet
      case rel => exact ⟨_, (true), (by first | rfl | (simp; done) | (simp [*]; done)), H', ⟨by first | omega | exact Nat.le_refl _⟩, ⟨B.kb0 (B.bf4 BK176 NB176_177)⟩, ⟨B.kb0 (B.bp4 BK177)⟩, ⟨B.bl HB⟩⟩
    replace c10 := Bool.eq_false_iff.mpr c10
    subst c10
    have H1 : (impl_FillImage.j0 k a0 a1 l2 true a0 a1 (l2.length : Int)) = some (r1, r2, r3, r4) := by rw [if_neg (show ¬ (false = true) by decide)] at H; exact H
    clear H
    have H := H1
    clear H1
    have H' := Aside0.mk H
    clear H
    go_wp2_with (first | ((with_reducible refine gate_callee (f := 41) rfl ?_); refine goesL_ (some 14) rfl rfl Try.func41 (by kernel_rfl) rfl #[.int .i64 a0] rfl B.am ?_; (with_reducible refine (impl_isSide.calls a0 false _ A9.out).mono ?_); rintro e w' ⟨rfl, ⟨nd, rfl⟩⟩; refine ⟨_, rfl, ?_⟩))
    go_meet
    case rel => exact ⟨_, (true), (by first | rfl | (simp; done) | (simp [*]; done)), H', ⟨by first | omega | exact Nat.le_refl _⟩, ⟨B.kb0 (B.bf4 BK176 NB176_177)⟩, ⟨B.kb0 (B.bp4 BK177)⟩, ⟨B.bl HB⟩⟩
  case rest =>
    clear HC4
    try clear c1
    try clear c2
    try clear p2
    try clear c4
    try clear c7
    try clear c10
    try clear c12
    try clear c13
    try clear c13b0
    try clear c13b1
    try clear c14
    try clear c14b0
    try clear c14b1
    try clear hcz8_0
    try clear hcz8_1
    try clear hcz8_2
    try clear hcz8_3
    try clear hfz8_0
    try clear hfz8_1
    try clear hfz8_2
    try clear hfz8_3
    obtain ⟨kq, x35_3, rfl, HA, HJ3, BK176, BK177, HB⟩ := hcut
    cases kq with
    | zero => exact absurd HA.out (by simp [impl_FillImage.j0])
    | succ kj3 =>
      have H := HA.out
      clear HA
      simp only [impl_FillImage.j0] at H
      by_cases c16 : x35_3 = true
      · subst c16
        have H1 : (some (0, 0, 0, ([] : List Int))) = some (r1, r2, r3, r4) := by rw [if_pos rfl] at H; exact H
        clear H
        have H := H1
        clear H1
        simp only [Option.some.injEq, Prod.mk.injEq] at H
        obtain ⟨rfl, rfl, rfl, rfl⟩ := H
        have hnb17 := NB176_177.out
        have hnc17 := NB177_176.out
        have hcz18_0 : wc.cell? ⟨gb176, 0, none⟩ = some (.int .i64 0) := B.bc BK176 0
        have hcz18_1 : wc.cell? ⟨gb176, 1, none⟩ = some (.int .i64 0) := B.bc BK176 1
        have hcz18_2 : wc.cell? ⟨gb176, 2, none⟩ = some (.int .i64 0) := B.bc BK176 2
        have hcz18_3 : wc.cell? ⟨gb176, 3, none⟩ = some (.slice none 0 0) := B.bc BK176 3
        have hfz18_0 := blk_frozen BK176.out 0
        have hfz18_1 := blk_frozen BK176.out 1
        have hfz18_2 := blk_frozen BK176.out 2
        have hfz18_3 := blk_frozen BK176.out 3
        go_wp2
        refine bodyPost_ret (results_cell_row rfl _ _ gb176 27 #[.int .i64 0, .int .i64 0, .int .i64 0, .slice none 0 0] (0, 0) _ rfl (B.kb0 (B.bp4 BK176)) Try.underlying27 rfl (by kernel_rfl)) rfl ?_
        exact ⟨_, by first | rfl | (simp [errW_none, errW_some] <;> rfl) | (simp [*, errW_none, errW_some] <;> rfl), by first | exact Kd.R_nil _ _ _ _ _ | exact Kd.N_nil _ _ _ _ _ | exact Kd.V_nil _ _ _ _ _ | exact Kd.Q_nil _ _ _ _ _ | exact Kd.S_nil _ _ _ _ _, B.bl HB⟩
      replace c16 := Bool.eq_false_iff.mpr c16
      subst c16
      have H1 : (impl_FillImage.l0 kj3 l2 (wrap64 (a0 * a1)) 0 a0 a1 (l2.length : Int) ([] : List Int)) = some (r1, r2, r3, r4) := by rw [if_neg (show ¬ (false = true) by decide)] at H; exact H
      clear H
      have H := H1
      clear H1
      have H' := Aside0.mk H
      clear H
      go_wp2
      go_loopg [40] kj3 (fun kq v40 w' => ∃ (x40_2 : Int) (x178003_2 : List Int) (u178003 : Value), v40 = .int .i64 x40_2 ∧ Aside0 (impl_FillImage.l0 kq l2 (wrap64 (a0 * a1)) x40_2 a0 a1 (l2.length : Int) x178003_2 = some (r1, r2, r3, r4)) ∧ Aside0 (kq ≤ kj3) ∧ Aside0 (Kd.R (Kd.int .i64) 3 w' w.heap.size (fun _ => True) u178003 x178003_2) ∧ Aside0 (w'.heap[gb176]? = some (.cells #[.int .i64 0, .int .i64 0, .int .i64 0, (.slice none 0 0)] 27 (0, 0))) ∧ Aside0 (w'.heap[gb177]? = some (.cells #[.int .i64 a0, .int .i64 a1, .int .i64 (l2.length : Int), u178003] 27 (0, 0))) ∧ Aside0 (Below w.heap.size w w'))
      case atStart => exact ⟨(0), (([] : List Int)), (.slice none 0 0), (by first | rfl | (simp; done) | (simp [*]; done)), H', ⟨Nat.le_refl _⟩, ⟨by first | exact Kd.R_nil _ _ _ _ _ | exact Kd.N_nil _ _ _ _ _ | exact Kd.V_nil _ _ _ _ _ | exact Kd.Q_nil _ _ _ _ _ | exact Kd.S_nil _ _ _ _ _⟩, ⟨B.kb BK176⟩, ⟨B.kb BK177⟩, ⟨B.bl HB⟩⟩
      case round =>
        clear H'
        try clear c1
        try clear c2
        try clear p2
        try clear c4
        try clear p6
        try clear c7
        try clear c10
        try clear c12
        try clear c13
        try clear c13b0
        try clear c13b1
        try clear c14
        try clear c14b0
        try clear c14b1
        try clear c16
        try clear c17
        try clear c18
        try clear hcz18_0
        try clear hcz18_1
        try clear hcz18_2
        try clear hcz18_3
        try clear hcz8_0
        try clear hcz8_1
        try clear hcz8_2
        try clear hcz8_3
        try clear hfz18_0
        try clear hfz18_1
        try clear hfz18_2
        try clear hfz18_3
        try clear hfz8_0
        try clear hfz8_1
        try clear hfz8_2
        try clear hfz8_3
        try clear p2
        obtain ⟨x40_2, x178003_2, u178003, rfl, HA, HK2, HO_178003, BK176, BK177, HB⟩ := hrel
        cases gk with
        | zero => exact absurd HA.out (by simp [impl_FillImage.l0])
        | succ k2 =>
          have H := HA.out
          clear HA
          simp only [impl_FillImage.l0] at H
          by_cases c19 : x40_2 < (wrap64 (a0 * a1))
          · rw [if_pos c19] at H
            have c19b0 : decide (x40_2 < (wrap64 (a0 * a1))) = true := decide_eq_true c19
            clear c19
            by_cases c20 : x178003_2.length + l2.length < 17592186044416
            · rw [if_pos c20] at H
              have LMc20 := Aside0.mk c20
              clear c20
              obtain ⟨y181, hy181⟩ : ∃ y_ : List Int, y_ = (x178003_2 ++ l2) := ⟨_, rfl⟩
              replace H : (impl_FillImage.l0 k2 l2 (wrap64 (a0 * a1)) (wrap64 (x40_2 + 1)) a0 a1 (l2.length : Int) y181) = some (r1, r2, r3, r4) := by first | (rw [hy181]; with_reducible exact H) | (have H2_ := (Option.bind_some _ _).symm.trans H; rw [hy181]; with_reducible exact H2_) | (have H2_ := (Option.bind_some _ _).symm.trans H; with_reducible exact H2_) | with_reducible exact H | (rw [hy181]; exact H) | exact H
              have Ny181 := Aside0.mk hy181
              clear hy181
              have H' := Aside0.mk H
              clear H
              have hnb21 := NB177_176.out
              have hnc21 := NB176_177.out
              have hcz22_0 : wr.cell? ⟨gb177, 0, none⟩ = some (.int .i64 a0) := B.bc BK177 0
              have hcz22_1 : wr.cell? ⟨gb177, 1, none⟩ = some (.int .i64 a1) := B.bc BK177 1
              have hcz22_2 : wr.cell? ⟨gb177, 2, none⟩ = some (.int .i64 (l2.length : Int)) := B.bc BK177 2
              have hcz22_3 : wr.cell? ⟨gb177, 3, none⟩ = some (u178003) := B.bc BK177 3
              have hfz22_0 := blk_frozen BK177.out 0
              have hfz22_1 := blk_frozen BK177.out 1
              have hfz22_2 := blk_frozen BK177.out 2
              have hfz22_3 := blk_frozen BK177.out 3
              go_wp2_with (first | ((with_reducible refine gate_builtin (b := .append) (xs := #[.tmp 43, .tmp 44]) rfl ?_); (try (refine gate_guard (by rfl) ?_; dsimp only)); at_builtin; refine Kd.R_append_rows (Kd.int .i64) (w0 := w) w.heap.size rfl (.tmp 43) (.tmp 44) 22 3 (.int .i64 0) 8 rfl Try.underlying22 info3 rfl (by decide) (by omega) u178003 x178003_2 l2 _ _ _ (fun _ => True) (fun _ => False) rfl rfl ?aO ?aR (fun _ _ h => h) (fun _ h => h.elim) ?aF ?aB ?aS ?aL ?_; (case aR => exact B.kc (Kd.C_below HR2.out HB.out)); (case aB => exact (B.bl HB)); (case aF => exact (fun _ _ => trivial)); (case aO => exact (B.kr HO_178003)); (case aS => exact (below_size (B.bl HB))); (case aL => have := LMc20.out; omega); intro v182 w23 ho hb hg hat; rw [← Ny181.out] at ho; have n0_ := Aside0.mk (blk_grown (g := gb176) (o := .cells #[.int .i64 0, .int .i64 0, .int .i64 0, .slice none 0 0] 27 (0, 0)) (B.kb BK176) hg (Kd.R_ne HO_178003.out BK176.out (by decide))); have n1_ := Aside0.mk (blk_grown (g := gb177) (o := .cells #[.int .i64 a0, .int .i64 a1, .int .i64 (l2.length : Int), u178003] 27 (0, 0)) (B.kb BK177) hg (Kd.R_ne HO_178003.out BK177.out (by decide))); have n2_ := Aside0.mk (hb); have n3_ := Aside0.mk (ho); clear BK176 BK177 HB HO_178003; have BK176 := n0_; have BK177 := n1_; have HB := n2_; have HO183 := n3_; clear n0_ n1_ n2_ n3_; clear ho hb hg hat; obtain ⟨Ao24, co24, eo24⟩ := Kd.R_slice HO183.out; subst eo24; have hcz25_0 : w23.cell? ⟨gb177, 0, none⟩ = some (.int .i64 a0) := B.bc BK177 0; have hcz25_1 : w23.cell? ⟨gb177, 1, none⟩ = some (.int .i64 a1) := B.bc BK177 1; have hcz25_2 : w23.cell? ⟨gb177, 2, none⟩ = some (.int .i64 (l2.length : Int)) := B.bc BK177 2; have hcz25_3 : w23.cell? ⟨gb177, 3, none⟩ = some (u178003) := B.bc BK177 3; have hfz25_0 := blk_frozen BK177.out 0; have hfz25_1 := blk_frozen BK177.out 1; have hfz25_2 := blk_frozen BK177.out 2; have hfz25_3 := blk_frozen BK177.out 3))
              go_roundg k2
              case measure => have := HJ3.out; have := HK2.out; omega
              case rel => exact ⟨(wrap64 (x40_2 + 1)), (y181), (.slice Ao24 y181.length co24), (by first | rfl | (simp; done) | (simp [*]; done)), H', ⟨by have := HJ3.out; have := HK2.out; omega⟩, ⟨B.kr0 (Kd.R_mono (Kd.R_far (p := ⟨gb177, 3, none⟩) (Kd.R_types HO183.out BK177.out (by decide)) (fun _ hk => hk.2) (.slice Ao24 y181.length co24)) (fun _ hk => trivial))⟩, ⟨by (with_reducible repeat (first | refine blk_drewN ?_ _ | refine blk_drew ?_ | refine blk_alloc ?_ _)); refine blk_far ?_ NB176_177.out _; (with_reducible repeat (first | refine blk_drewN ?_ _ | refine blk_drew ?_ | refine blk_alloc ?_ _)); exact BK176.out⟩, ⟨by (with_reducible repeat (first | refine blk_drewN ?_ _ | refine blk_drew ?_ | refine blk_alloc ?_ _)); refine blk_put (cs := #[.int .i64 a0, .int .i64 a1, .int .i64 (l2.length : Int), u178003]) ?_ 3 _ rfl; (with_reducible repeat (first | refine blk_drewN ?_ _ | refine blk_drew ?_ | refine blk_alloc ?_ _)); exact BK177.out⟩, ⟨B.bl HB⟩⟩
            rw [if_neg c20] at H
            exact absurd H (by simp)
          rw [if_neg c19] at H
          have c19b0 : decide (x40_2 < (wrap64 (a0 * a1))) = false := decide_eq_false c19
          clear c19
          simp only [Option.some.injEq, Prod.mk.injEq] at H
          obtain ⟨rfl, rfl, rfl, rfl⟩ := H
          have hnb26 := NB177_176.out
          have hnc26 := NB176_177.out
          have hcz27_0 : wr.cell? ⟨gb177, 0, none⟩ = some (.int .i64 a0) := B.bc BK177 0
          have hcz27_1 : wr.cell? ⟨gb177, 1, none⟩ = some (.int .i64 a1) := B.bc BK177 1
          have hcz27_2 : wr.cell? ⟨gb177, 2, none⟩ = some (.int .i64 (l2.length : Int)) := B.bc BK177 2
          have hcz27_3 : wr.cell? ⟨gb177, 3, none⟩ = some (u178003) := B.bc BK177 3
          have hfz27_0 := blk_frozen BK177.out 0
          have hfz27_1 := blk_frozen BK177.out 1
          have hfz27_2 := blk_frozen BK177.out 2
          have hfz27_3 := blk_frozen BK177.out 3
          have hcz28_0 : wr.cell? ⟨gb176, 0, none⟩ = some (.int .i64 0) := B.bc BK176 0
          have hcz28_1 : wr.cell? ⟨gb176, 1, none⟩ = some (.int .i64 0) := B.bc BK176 1
          have hcz28_2 : wr.cell? ⟨gb176, 2, none⟩ = some (.int .i64 0) := B.bc BK176 2
          have hcz28_3 : wr.cell? ⟨gb176, 3, none⟩ = some (.slice none 0 0) := B.bc BK176 3
          have hfz28_0 := blk_frozen BK176.out 0
          have hfz28_1 := blk_frozen BK176.out 1
          have hfz28_2 := blk_frozen BK176.out 2
          have hfz28_3 := blk_frozen BK176.out 3
          obtain ⟨Ao29, co29, eo29⟩ := Kd.R_slice HO_178003.out
          subst eo29
          go_wp2
          refine bodyPost_ret (results_cell_row rfl _ _ gb176 27 #[.int .i64 a0, .int .i64 a1, .int .i64 (l2.length : Int), .slice Ao29 x178003_2.length co29] (0, 0) _ rfl (B.kb0 (B.bp4 BK176)) Try.underlying27 rfl (by kernel_rfl)) rfl ?_
          exact ⟨_, by first | rfl | (simp [errW_none, errW_some] <;> rfl) | (simp [*, errW_none, errW_some] <;> rfl), by (with_reducible repeat (first | apply Kd.R_alloc | apply Kd.R_drewN | apply Kd.R_drew)); exact Kd.R_mono (B.rf4 HO_178003 BK176) (fun _ hk => trivial), B.bl HB⟩

/-! ### laws_FnExactFillImage: function 4 -/
def laws_FnExactFillImage.j0 : Nat → Int → Int → List Int → Bool → Int → Int → Int → List Int → Int → Int → Int → List Int → Option (Bool)
  | 0, _, _, _, _, _, _, _, _, _, _, _, _ => none
  | k + 1, x0, x1, x2, x47, x201000, x201001, x201002, x201003, x211000, x211001, x211002, x211003 => if x47 = true then (some false) else ((laws_markImage.f k x211000 x211001 x211002 x211003 1).bind fun bt219 => ((laws_heldImage.f k x211000 x211001 x211002 bt219.2 1).bind fun t221 => (if t221 < 0 then (some false) else (if t221 = bt219.1 then ((laws_toIntS.f k x2).bind fun t222 => ((impl_FillImage.f k x0 x1 t222).bind fun bt225 => ((laws_eqImage.f k bt225.1 bt225.2.1 bt225.2.2.1 bt225.2.2.2 x201000 x201001 x201002 x201003).bind fun t232 => (if t232 = true then ((laws_heldImage.f k x211000 x211001 x211002 bt219.2 1).bind fun t233 => (if t233 < 0 then (some false) else (if t233 = bt219.1 then (some true) else (some false)))) else (some false))))) else (some false)))))
def laws_FnExactFillImage.f (k : Nat) (a0 : Int) (a1 : Int) (l2 : List Int) : Option (Bool) := if (l2.length : Int) > 1048576 then (some true) else ((laws_toIntS.f k l2).bind fun t191 => ((spec_FillImage.f k a0 a1 t191).bind fun bt194 => ((laws_toIntS.f k l2).bind fun t201 => ((impl_FillImage.f k a0 a1 t201).bind fun bt204 => ((laws_eqImage.f k bt204.1 bt204.2.1 bt204.2.2.1 bt204.2.2.2 bt194.1 bt194.2.1 bt194.2.2.1 bt194.2.2.2).bind fun t211 => (if t211 = true then ((laws_toIntS.f k l2).bind fun t212 => ((laws_eqIntS.f k t201 t212).bind fun t215 => (if t215 = true then ((laws_markIntS.f k t201 1).bind fun bt216 => (if bt216.1 < 0 then (laws_FnExactFillImage.j0 k a0 a1 l2 true bt194.1 bt194.2.1 bt194.2.2.1 bt194.2.2.2 bt204.1 bt204.2.1 bt204.2.2.1 bt204.2.2.2) else ((laws_eqImage.f k bt204.1 bt204.2.1 bt204.2.2.1 bt204.2.2.2 bt194.1 bt194.2.1 bt194.2.2.1 bt194.2.2.2).bind fun t218 => (laws_FnExactFillImage.j0 k a0 a1 l2 (!t218) bt194.1 bt194.2.1 bt194.2.2.1 bt194.2.2.2 bt204.1 bt204.2.1 bt204.2.2.1 bt204.2.2.2)))) else (some false)))) else (some false)))))))
theorem laws_FnExactFillImage.mono_l : ∀ k, (∀ y0 y1 y2 y3 y4 y5 y6 y7 y8 y9 y10 y11, LeO (laws_FnExactFillImage.j0 k y0 y1 y2 y3 y4 y5 y6 y7 y8 y9 y10 y11) (laws_FnExactFillImage.j0 (k + 1) y0 y1 y2 y3 y4 y5 y6 y7 y8 y9 y10 y11))
  | 0 => fun _ _ _ _ _ _ _ _ _ _ _ _ r h => by simp [laws_FnExactFillImage.j0] at h
  | k + 1 => by
    have ih0 := laws_FnExactFillImage.mono_l k
    · intro y0 y1 y2 y3 y4 y5 y6 y7 y8 y9 y10 y11
      unfold laws_FnExactFillImage.j0
      repeat' first
      | (with_reducible exact ih0 _ _ _ _ _ _ _ _ _ _ _ _)
      | (with_reducible exact impl_FillImage.mono _ _ _ _)
      | (with_reducible exact laws_eqImage.mono _ _ _ _ _ _ _ _ _)
      | (with_reducible exact laws_eqIntS.mono _ _ _)
      | (with_reducible exact laws_heldImage.mono _ _ _ _ _ _)
      | (with_reducible exact laws_markImage.mono _ _ _ _ _ _)
      | (with_reducible exact laws_markIntS.mono _ _ _)
      | (with_reducible exact laws_toIntS.mono _ _)
      | (with_reducible exact spec_FillImage.mono _ _ _ _)
      | (with_reducible exact LeO.refl _)
      | (with_reducible exact LeO.none _)
      | (with_reducible refine LeO.ite ?_ ?_)
      | (with_reducible refine LeO.bind ?_ (fun _ => ?_))
      | exact ih0 _ _ _ _ _ _ _ _ _ _ _ _
      | exact impl_FillImage.mono _ _ _ _
      | exact laws_eqImage.mono _ _ _ _ _ _ _ _ _
      | exact laws_eqIntS.mono _ _ _
      | exact laws_heldImage.mono _ _ _ _ _ _
      | exact laws_markImage.mono _ _ _ _ _ _
      | exact laws_markIntS.mono _ _ _
      | exact laws_toIntS.mono _ _
      | exact spec_FillImage.mono _ _ _ _
      | exact LeO.none _
      | refine LeO.ite ?_ ?_
      | refine LeO.bind ?_ (fun _ => ?_)
theorem laws_FnExactFillImage.mono : ∀ a0 a1 a2 k, LeO (laws_FnExactFillImage.f k a0 a1 a2) (laws_FnExactFillImage.f (k + 1) a0 a1 a2) := by
  intro a0 a1 a2 k
  have ih0 := laws_FnExactFillImage.mono_l k
  unfold laws_FnExactFillImage.f
  repeat' first
      | (with_reducible exact ih0 _ _ _ _ _ _ _ _ _ _ _ _)
      | (with_reducible exact impl_FillImage.mono _ _ _ _)
      | (with_reducible exact laws_eqImage.mono _ _ _ _ _ _ _ _ _)
      | (with_reducible exact laws_eqIntS.mono _ _ _)
      | (with_reducible exact laws_heldImage.mono _ _ _ _ _ _)
      | (with_reducible exact laws_markImage.mono _ _ _ _ _ _)
      | (with_reducible exact laws_markIntS.mono _ _ _)
      | (with_reducible exact laws_toIntS.mono _ _)
      | (with_reducible exact spec_FillImage.mono _ _ _ _)
      | (with_reducible exact LeO.refl _)
      | (with_reducible exact LeO.none _)
      | (with_reducible refine LeO.ite ?_ ?_)
      | (with_reducible refine LeO.bind ?_ (fun _ => ?_))
      | exact ih0 _ _ _ _ _ _ _ _ _ _ _ _
      | exact impl_FillImage.mono _ _ _ _
      | exact laws_eqImage.mono _ _ _ _ _ _ _ _ _
      | exact laws_eqIntS.mono _ _ _
      | exact laws_heldImage.mono _ _ _ _ _ _
      | exact laws_markImage.mono _ _ _ _ _ _
      | exact laws_markIntS.mono _ _ _
      | exact laws_toIntS.mono _ _
      | exact spec_FillImage.mono _ _ _ _
      | exact LeO.none _
      | refine LeO.ite ?_ ?_
      | refine LeO.bind ?_ (fun _ => ?_)
set_option maxHeartbeats 8000000 in
set_option maxRecDepth 100000 in
theorem laws_FnExactFillImage.calls (k : Nat) (a0 : Int) (a1 : Int) (A2 : Option Addr) (c2 : Nat) (l2 : List Int) (r : Bool) (w : World) (hr2 : Kd.C (Kd.int .i64) w A2 l2.length l2) (hc2 : l2.length ≤ c2) (h : laws_FnExactFillImage.f k a0 a1 l2 = some r) (ht_ : Aside0 (r = true)) :
    Calls Try.prog 4 #[.int .i64 a0, .int .i64 a1, .slice A2 l2.length c2] w fun e w' => e = .returned (.bool r) ∧ Below w.heap.size w w' := by
  have hu27 := Try.underlying27
  have HR2 := Aside0.mk hr2
  have HC2 := Aside0.mk hc2
  clear hr2 hc2
  have HB := Aside0.mk (Below.refl w.heap.size w)
  have H : (if (l2.length : Int) > 1048576 then (some true) else ((laws_toIntS.f k l2).bind fun t191 => ((spec_FillImage.f k a0 a1 t191).bind fun bt194 => ((laws_toIntS.f k l2).bind fun t201 => ((impl_FillImage.f k a0 a1 t201).bind fun bt204 => ((laws_eqImage.f k bt204.1 bt204.2.1 bt204.2.2.1 bt204.2.2.2 bt194.1 bt194.2.1 bt194.2.2.1 bt194.2.2.2).bind fun t211 => (if t211 = true then ((laws_toIntS.f k l2).bind fun t212 => ((laws_eqIntS.f k t201 t212).bind fun t215 => (if t215 = true then ((laws_markIntS.f k t201 1).bind fun bt216 => (if bt216.1 < 0 then (laws_FnExactFillImage.j0 k a0 a1 l2 true bt194.1 bt194.2.1 bt194.2.2.1 bt194.2.2.2 bt204.1 bt204.2.1 bt204.2.2.1 bt204.2.2.2) else ((laws_eqImage.f k bt204.1 bt204.2.1 bt204.2.2.1 bt204.2.2.2 bt194.1 bt194.2.1 bt194.2.2.1 bt194.2.2.2).bind fun t218 => (laws_FnExactFillImage.j0 k a0 a1 l2 (!t218) bt194.1 bt194.2.1 bt194.2.2.1 bt194.2.2.2 bt204.1 bt204.2.1 bt204.2.2.1 bt204.2.2.2)))) else (some false)))) else (some false)))))))) = some r := h
  clear h
  by_cases c4 : (l2.length : Int) > 1048576
  · rw [if_pos c4] at H
    have c4b0 : decide (1048576 < (l2.length : Int)) = true := decide_eq_true c4
    have c4b1 : decide (1048576 < l2.length) = true := decide_eq_true (by omega)
    clear c4
    obtain rfl := Option.some.inj H
    simp only [Option.some.injEq, Prod.mk.injEq] at H
    obtain ⟨rfl⟩ := H
    go_enter Try.func4, Try.ntmps4
    go_wp2
    go_ret
    exact ⟨by first | rfl | (simp [errW_none, errW_some] <;> rfl) | (simp [*, errW_none, errW_some] <;> rfl), B.bl HB⟩
  rw [if_neg c4] at H
  have c4b0 : decide (1048576 < (l2.length : Int)) = false := decide_eq_false c4
  have c4b1 : decide (1048576 < l2.length) = false := decide_eq_false (by omega)
  clear c4
  replace H := Option.bind_eq_some_iff.mp H
  obtain ⟨t191, A50, H⟩ := H
  replace H : ((spec_FillImage.f k a0 a1 t191).bind fun bt194 => ((laws_toIntS.f k l2).bind fun t201 => ((impl_FillImage.f k a0 a1 t201).bind fun bt204 => ((laws_eqImage.f k bt204.1 bt204.2.1 bt204.2.2.1 bt204.2.2.2 bt194.1 bt194.2.1 bt194.2.2.1 bt194.2.2.2).bind fun t211 => (if t211 = true then ((laws_toIntS.f k l2).bind fun t212 => ((laws_eqIntS.f k t201 t212).bind fun t215 => (if t215 = true then ((laws_markIntS.f k t201 1).bind fun bt216 => (if bt216.1 < 0 then (laws_FnExactFillImage.j0 k a0 a1 l2 true bt194.1 bt194.2.1 bt194.2.2.1 bt194.2.2.2 bt204.1 bt204.2.1 bt204.2.2.1 bt204.2.2.2) else ((laws_eqImage.f k bt204.1 bt204.2.1 bt204.2.2.1 bt204.2.2.2 bt194.1 bt194.2.1 bt194.2.2.1 bt194.2.2.2).bind fun t218 => (laws_FnExactFillImage.j0 k a0 a1 l2 (!t218) bt194.1 bt194.2.1 bt194.2.2.1 bt194.2.2.2 bt204.1 bt204.2.1 bt204.2.2.1 bt204.2.2.2)))) else (some false)))) else (some false)))))) = some r := H
  have A5 := Aside0.mk A50
  clear A50
  replace H := Option.bind_eq_some_iff.mp H
  obtain ⟨⟨t194, t195, t196, t197⟩, A60, H⟩ := H
  replace H : ((laws_toIntS.f k l2).bind fun t201 => ((impl_FillImage.f k a0 a1 t201).bind fun bt204 => ((laws_eqImage.f k bt204.1 bt204.2.1 bt204.2.2.1 bt204.2.2.2 t194 t195 t196 t197).bind fun t211 => (if t211 = true then ((laws_toIntS.f k l2).bind fun t212 => ((laws_eqIntS.f k t201 t212).bind fun t215 => (if t215 = true then ((laws_markIntS.f k t201 1).bind fun bt216 => (if bt216.1 < 0 then (laws_FnExactFillImage.j0 k a0 a1 l2 true t194 t195 t196 t197 bt204.1 bt204.2.1 bt204.2.2.1 bt204.2.2.2) else ((laws_eqImage.f k bt204.1 bt204.2.1 bt204.2.2.1 bt204.2.2.2 t194 t195 t196 t197).bind fun t218 => (laws_FnExactFillImage.j0 k a0 a1 l2 (!t218) t194 t195 t196 t197 bt204.1 bt204.2.1 bt204.2.2.1 bt204.2.2.2)))) else (some false)))) else (some false))))) = some r := H
  have A6 := Aside0.mk A60
  clear A60
  replace H := Option.bind_eq_some_iff.mp H
  obtain ⟨t201, A70, H⟩ := H
  replace H : ((impl_FillImage.f k a0 a1 t201).bind fun bt204 => ((laws_eqImage.f k bt204.1 bt204.2.1 bt204.2.2.1 bt204.2.2.2 t194 t195 t196 t197).bind fun t211 => (if t211 = true then ((laws_toIntS.f k l2).bind fun t212 => ((laws_eqIntS.f k t201 t212).bind fun t215 => (if t215 = true then ((laws_markIntS.f k t201 1).bind fun bt216 => (if bt216.1 < 0 then (laws_FnExactFillImage.j0 k a0 a1 l2 true t194 t195 t196 t197 bt204.1 bt204.2.1 bt204.2.2.1 bt204.2.2.2) else ((laws_eqImage.f k bt204.1 bt204.2.1 bt204.2.2.1 bt204.2.2.2 t194 t195 t196 t197).bind fun t218 => (laws_FnExactFillImage.j0 k a0 a1 l2 (!t218) t194 t195 t196 t197 bt204.1 bt204.2.1 bt204.2.2.1 bt204.2.2.2)))) else (some false)))) else (some false)))) = some r := H
  have A7 := Aside0.mk A70
  clear A70
  replace H := Option.bind_eq_some_iff.mp H
  obtain ⟨⟨t204, t205, t206, t207⟩, A80, H⟩ := H
  replace H : ((laws_eqImage.f k t204 t205 t206 t207 t194 t195 t196 t197).bind fun t211 => (if t211 = true then ((laws_toIntS.f k l2).bind fun t212 => ((laws_eqIntS.f k t201 t212).bind fun t215 => (if t215 = true then ((laws_markIntS.f k t201 1).bind fun bt216 => (if bt216.1 < 0 then (laws_FnExactFillImage.j0 k a0 a1 l2 true t194 t195 t196 t197 t204 t205 t206 t207) else ((laws_eqImage.f k t204 t205 t206 t207 t194 t195 t196 t197).bind fun t218 => (laws_FnExactFillImage.j0 k a0 a1 l2 (!t218) t194 t195 t196 t197 t204 t205 t206 t207)))) else (some false)))) else (some false))) = some r := H
  have A8 := Aside0.mk A80
  clear A80
  replace H := Option.bind_eq_some_iff.mp H
  obtain ⟨t211, A90, H⟩ := H
  replace H : (if t211 = true then ((laws_toIntS.f k l2).bind fun t212 => ((laws_eqIntS.f k t201 t212).bind fun t215 => (if t215 = true then ((laws_markIntS.f k t201 1).bind fun bt216 => (if bt216.1 < 0 then (laws_FnExactFillImage.j0 k a0 a1 l2 true t194 t195 t196 t197 t204 t205 t206 t207) else ((laws_eqImage.f k t204 t205 t206 t207 t194 t195 t196 t197).bind fun t218 => (laws_FnExactFillImage.j0 k a0 a1 l2 (!t218) t194 t195 t196 t197 t204 t205 t206 t207)))) else (some false)))) else (some false)) = some r := H
  have A9 := Aside0.mk A90
  clear A90
  by_cases c10 : t211 = true
  · subst c10
    have H1 : ((laws_toIntS.f k l2).bind fun t212 => ((laws_eqIntS.f k t201 t212).bind fun t215 => (if t215 = true then ((laws_markIntS.f k t201 1).bind fun bt216 => (if bt216.1 < 0 then (laws_FnExactFillImage.j0 k a0 a1 l2 true t194 t195 t196 t197 t204 t205 t206 t207) else ((laws_eqImage.f k t204 t205 t206 t207 t194 t195 t196 t197).bind fun t218 => (laws_FnExactFillImage.j0 k a0 a1 l2 (!t218) t194 t195 t196 t197 t204 t205 t206 t207)))) else (some false)))) = some r := by rw [if_pos rfl] at H; exact H
    clear H
    have H := H1
    clear H1
    replace H := Option.bind_eq_some_iff.mp H
    obtain ⟨t212, A110, H⟩ := H
    replace H : ((laws_eqIntS.f k t201 t212).bind fun t215 => (if t215 = true then ((laws_markIntS.f k t201 1).bind fun bt216 => (if bt216.1 < 0 then (laws_FnExactFillImage.j0 k a0 a1 l2 true t194 t195 t196 t197 t204 t205 t206 t207) else ((laws_eqImage.f k t204 t205 t206 t207 t194 t195 t196 t197).bind fun t218 => (laws_FnExactFillImage.j0 k a0 a1 l2 (!t218) t194 t195 t196 t197 t204 t205 t206 t207)))) else (some false))) = some r := H
    have A11 := Aside0.mk A110
    clear A110
    replace H := Option.bind_eq_some_iff.mp H
    obtain ⟨t215, A120, H⟩ := H
    replace H : (if t215 = true then ((laws_markIntS.f k t201 1).bind fun bt216 => (if bt216.1 < 0 then (laws_FnExactFillImage.j0 k a0 a1 l2 true t194 t195 t196 t197 t204 t205 t206 t207) else ((laws_eqImage.f k t204 t205 t206 t207 t194 t195 t196 t197).bind fun t218 => (laws_FnExactFillImage.j0 k a0 a1 l2 (!t218) t194 t195 t196 t197 t204 t205 t206 t207)))) else (some false)) = some r := H
    have A12 := Aside0.mk A120
    clear A120
    by_cases c13 : t215 = true
    · subst c13
      have H1 : ((laws_markIntS.f k t201 1).bind fun bt216 => (if bt216.1 < 0 then (laws_FnExactFillImage.j0 k a0 a1 l2 true t194 t195 t196 t197 t204 t205 t206 t207) else ((laws_eqImage.f k t204 t205 t206 t207 t194 t195 t196 t197).bind fun t218 => (laws_FnExactFillImage.j0 k a0 a1 l2 (!t218) t194 t195 t196 t197 t204 t205 t206 t207)))) = some r := by rw [if_pos rfl] at H; exact H
      clear H
      have H := H1
      clear H1
      replace H := Option.bind_eq_some_iff.mp H
      obtain ⟨⟨t216, t217⟩, A140, H⟩ := H
      replace H : (if t216 < 0 then (laws_FnExactFillImage.j0 k a0 a1 l2 true t194 t195 t196 t197 t204 t205 t206 t207) else ((laws_eqImage.f k t204 t205 t206 t207 t194 t195 t196 t197).bind fun t218 => (laws_FnExactFillImage.j0 k a0 a1 l2 (!t218) t194 t195 t196 t197 t204 t205 t206 t207))) = some r := H
      have A14 := Aside0.mk A140
      clear A140
      have HC15 := Aside0.mk H
      clear H
      go_enter Try.func4, Try.ntmps4
      go_upto_region 12 with (first | ((with_reducible refine gate_callee (f := 17) rfl ?_); refine goesL_ (some 20) rfl rfl Try.func17 (by kernel_rfl) rfl #[.slice A2 l2.length c2] rfl B.am ?_; (with_reducible refine (laws_toIntS.calls k _ _ l2 t191 _ ?side1 ?side2 A5.out).mono ?_); (case side1 => exact B.kc (HR2.out)); (case side2 => exact HC2.out); rintro e w16 ⟨v192, rfl, ho0, hb⟩; refine ⟨_, rfl, ?_⟩; have n0_ := Aside0.mk (Kd.R_lower ho0 (below_size (B.bl HB))); have n1_ := Aside0.mk (below_step (B.bl HB) hb); clear HB; have HO193 := n0_; have HB := n1_; clear n0_ n1_; (try clear hb); (try clear hb2); (try clear hk); (try clear hi); (try clear ho0); obtain ⟨Ao17, co17, eo17⟩ := Kd.R_slice HO193.out; subst eo17) | ((with_reducible refine gate_callee (f := 16) rfl ?_); refine goesL_ (some 21) rfl rfl Try.func16 (by kernel_rfl) rfl #[.int .i64 a0, .int .i64 a1, .slice Ao17 t191.length co17] rfl B.am ?_; (with_reducible refine (spec_FillImage.calls k a0 a1 _ _ t191 t194 t195 t196 t197 _ ?side1 ?side2 A6.out).mono ?_); (case side1 => exact B.kc ((Kd.R_reads' HO193.out).2.2)); (case side2 => exact (Kd.R_reads' HO193.out).2.1); rintro e w18 ⟨v198, rfl, ho0, hb⟩; refine ⟨_, rfl, ?_⟩; have n0_ := Aside0.mk (Kd.R_elder' (B.kr HO193) (Kd.R_base ho0) hb); have n1_ := Aside0.mk (Kd.R_lower (Kd.R_new' ho0 (Kd.R_lt (B.kr HO193))) (below_size (B.bl HB))); have n2_ := Aside0.mk (below_step (B.bl HB) hb); clear HO193 HB; have HO193 := n0_; have HO199 := n1_; have HB := n2_; clear n0_ n1_ n2_; (try clear hb); (try clear hb2); (try clear hk); (try clear hi); (try clear ho0)) | ((with_reducible refine gate_dst (N := 7) rfl ?_); refine box_event ?hg (N := 7) ?hd (cs := #[.int .i64 0, .int .i64 0, .int .i64 0, .slice none 0 0]) (t := 27) ?hr ?_; (case hd => rfl); (case hg => rfl); (case hr => first | (go_simp; done) | (go_simp; rfl)); intro gb200 hg w19 hbox hb; have n0_ := Aside0.mk (Kd.R_below (B.kr HO193) hb); have n1_ := Aside0.mk (Kd.R_below (B.kr HO199) hb); have n2_ := Aside0.mk (below_step (B.bl HB) hb); have n3_ := Aside0.mk (hbox); have n4_ := Aside0.mk (B.nle hg (below_size (B.bl HB))); have n5_ := Aside0.mk (B.nle hg (below_size (B.bl HB))); clear HO193 HO199 HB; have HO193 := n0_; have HO199 := n1_; have HB := n2_; have BK200 := n3_; have GW200 := n4_; have GE200 := n5_; clear n0_ n1_ n2_ n3_ n4_ n5_; clear hb hbox hg; have hcz20_0 : w19.cell? ⟨gb200, 0, none⟩ = some (.int .i64 0) := B.bc BK200 0; have hcz20_1 : w19.cell? ⟨gb200, 1, none⟩ = some (.int .i64 0) := B.bc BK200 1; have hcz20_2 : w19.cell? ⟨gb200, 2, none⟩ = some (.int .i64 0) := B.bc BK200 2; have hcz20_3 : w19.cell? ⟨gb200, 3, none⟩ = some (.slice none 0 0) := B.bc BK200 3; have hfz20_0 := blk_frozen BK200.out 0; have hfz20_1 := blk_frozen BK200.out 1; have hfz20_2 := blk_frozen BK200.out 2; have hfz20_3 := blk_frozen BK200.out 3; obtain ⟨Ao21, co21, eo21⟩ := Kd.R_slice HO199.out; subst eo21) | ((with_reducible refine gate_callee (f := 17) rfl ?_); refine goesL_ (some 23) rfl rfl Try.func17 (by kernel_rfl) rfl #[.slice A2 l2.length c2] rfl B.am ?_; (with_reducible refine (laws_toIntS.calls k _ _ l2 t201 _ ?side1 ?side2 A7.out).mono ?_); (case side1 => exact Kd.C_below HR2.out (B.bl HB)); (case side2 => exact HC2.out); rintro e w22 ⟨v202, rfl, ho0, hb⟩; refine ⟨_, rfl, ?_⟩; have n0_ := Aside0.mk (Kd.R_elder' (B.kr0 (B.rs4 HO193 BK200)) (Kd.R_base ho0) hb); have n1_ := Aside0.mk (Kd.R_elder' (B.kr0 (B.rs4 HO199 BK200)) (Kd.R_base ho0) hb); have n2_ := Aside0.mk (Kd.R_lower (Kd.R_new' (Kd.R_new' ho0 (Kd.R_lt (B.kr0 (B.rs4 HO193 BK200)))) (Kd.R_lt (B.kr0 (B.rs4 HO199 BK200)))) (below_size (B.bl HB))); have n3_ := Aside0.mk (blk_below (g := gb200) (o := .cells #[.int .i64 t194, .int .i64 t195, .int .i64 t196, .slice Ao21 t197.length co21] 27 (0, 0)) (B.kb0 (B.bp4 BK200)) hb); have n4_ := Aside0.mk (below_step (B.bl HB) hb); clear HO193 HO199 BK200 HB; have HO193 := n0_; have HO199 := n1_; have HO203 := n2_; have BK200 := n3_; have HB := n4_; clear n0_ n1_ n2_ n3_ n4_; (try clear hb); (try clear hb2); (try clear hk); (try clear hi); (try clear ho0); obtain ⟨Ao23, co23, eo23⟩ := Kd.R_slice HO203.out; subst eo23) | ((with_reducible refine gate_callee (f := 18) rfl ?_); refine goesL_ (some 27) rfl rfl Try.func18 (by kernel_rfl) rfl #[.int .i64 a0, .int .i64 a1, .slice Ao23 t201.length co23] rfl B.am ?_; (with_reducible refine (impl_FillImage.calls k a0 a1 _ _ t201 t204 t205 t206 t207 _ ?side1 ?side2 A8.out).mono ?_); (case side1 => exact B.kc ((Kd.R_reads' HO203.out).2.2)); (case side2 => exact (Kd.R_reads' HO203.out).2.1); rintro e w24 ⟨v208, rfl, ho0, hb⟩; refine ⟨_, rfl, ?_⟩; have n0_ := Aside0.mk (Kd.R_elder' (B.kr HO193) (Kd.R_base ho0) hb); have n1_ := Aside0.mk (Kd.R_elder' (B.kr HO199) (Kd.R_base ho0) hb); have n2_ := Aside0.mk (Kd.R_elder' (B.kr HO203) (Kd.R_base ho0) hb); have n3_ := Aside0.mk (Kd.R_lower (Kd.R_new' (Kd.R_new' (Kd.R_new' ho0 (Kd.R_lt (B.kr HO193))) (Kd.R_lt (B.kr HO199))) (Kd.R_lt (B.kr HO203))) (below_size (B.bl HB))); have n4_ := Aside0.mk (blk_below (B.kb BK200) hb); have n5_ := Aside0.mk (below_step (B.bl HB) hb); clear HO193 HO199 HO203 BK200 HB; have HO193 := n0_; have HO199 := n1_; have HO203 := n2_; have HO209 := n3_; have BK200 := n4_; have HB := n5_; clear n0_ n1_ n2_ n3_ n4_ n5_; (try clear hb); (try clear hb2); (try clear hk); (try clear hi); (try clear ho0)) | ((with_reducible refine gate_dst (N := 9) rfl ?_); refine box_event ?hg (N := 9) ?hd (cs := #[.int .i64 0, .int .i64 0, .int .i64 0, .slice none 0 0]) (t := 27) ?hr ?_; (case hd => rfl); (case hg => rfl); (case hr => first | (go_simp; done) | (go_simp; rfl)); intro gb210 hg w25 hbox hb; have n0_ := Aside0.mk (Kd.R_below (B.kr HO193) hb); have n1_ := Aside0.mk (Kd.R_below (B.kr HO199) hb); have n2_ := Aside0.mk (Kd.R_below (B.kr HO203) hb); have n3_ := Aside0.mk (Kd.R_below (B.kr HO209) hb); have n4_ := Aside0.mk (blk_below (B.kb BK200) hb); have n5_ := Aside0.mk (below_step (B.bl HB) hb); have n6_ := Aside0.mk (hbox); have n7_ := Aside0.mk (B.nle hg (below_size (B.bl HB))); have n8_ := Aside0.mk (B.nle hg (below_size (B.bl HB))); have n9_ := Aside0.mk (B.nlt hg (blk_lt (B.kb BK200))); have n10_ := Aside0.mk (B.ngt hg (blk_lt (B.kb BK200))); clear HO193 HO199 HO203 HO209 BK200 HB; have HO193 := n0_; have HO199 := n1_; have HO203 := n2_; have HO209 := n3_; have BK200 := n4_; have HB := n5_; have BK210 := n6_; have GW210 := n7_; have GE210 := n8_; have NB200_210 := n9_; have NB210_200 := n10_; clear n0_ n1_ n2_ n3_ n4_ n5_ n6_ n7_ n8_ n9_ n10_; clear hb hbox hg; have hnb26 := NB210_200.out; have hnc26 := NB200_210.out; have hcz27_0 : w25.cell? ⟨gb210, 0, none⟩ = some (.int .i64 0) := B.bc BK210 0; have hcz27_1 : w25.cell? ⟨gb210, 1, none⟩ = some (.int .i64 0) := B.bc BK210 1; have hcz27_2 : w25.cell? ⟨gb210, 2, none⟩ = some (.int .i64 0) := B.bc BK210 2; have hcz27_3 : w25.cell? ⟨gb210, 3, none⟩ = some (.slice none 0 0) := B.bc BK210 3; have hfz27_0 := blk_frozen BK210.out 0; have hfz27_1 := blk_frozen BK210.out 1; have hfz27_2 := blk_frozen BK210.out 2; have hfz27_3 := blk_frozen BK210.out 3; obtain ⟨Ao28, co28, eo28⟩ := Kd.R_slice HO209.out; subst eo28; have hcz29_0 : w25.cell? ⟨gb200, 0, none⟩ = some (.int .i64 t194) := B.bc BK200 0; have hcz29_1 : w25.cell? ⟨gb200, 1, none⟩ = some (.int .i64 t195) := B.bc BK200 1; have hcz29_2 : w25.cell? ⟨gb200, 2, none⟩ = some (.int .i64 t196) := B.bc BK200 2; have hcz29_3 : w25.cell? ⟨gb200, 3, none⟩ = some (.slice Ao21 t197.length co21) := B.bc BK200 3; have hfz29_0 := blk_frozen BK200.out 0; have hfz29_1 := blk_frozen BK200.out 1; have hfz29_2 := blk_frozen BK200.out 2; have hfz29_3 := blk_frozen BK200.out 3) | ((with_reducible refine gate_callee (f := 15) rfl ?_); refine goesL_ (some 30) rfl rfl Try.func15 (by kernel_rfl) rfl #[.agg #[.int .i64 t204, .int .i64 t205, .int .i64 t206, .slice Ao28 t207.length co28], .agg #[.int .i64 t194, .int .i64 t195, .int .i64 t196, .slice Ao21 t197.length co21]] rfl B.am ?_; (with_reducible refine (laws_eqImage.calls k t204 t205 t206 _ _ t207 t194 t195 t196 _ _ t197 true _ ?side1 ?side2 ?side3 ?side4 A9.out).mono ?_); (case side1 => refine (Kd.R_reads' (e := 3) (base := w.heap.size) (ok := fun k_ => (((True ∧ some k_ ≠ (.slice Ao17 t191.length co17 : Value).ownBlock) ∧ some k_ ≠ (.slice Ao21 t197.length co21 : Value).ownBlock) ∧ some k_ ≠ (.slice Ao23 t201.length co23 : Value).ownBlock)) (n := t207.length) (c := co28) ?_).2.2; exact (B.kr0 (B.rs4 HO209 BK210))); (case side2 => exact (Kd.R_reads' HO209.out).2.1); (case side3 => refine (Kd.R_reads' (e := 3) (base := w.heap.size) (ok := fun k_ => (((True ∧ some k_ ≠ (.slice Ao17 t191.length co17 : Value).ownBlock) ∧ some k_ ≠ (.slice Ao23 t201.length co23 : Value).ownBlock) ∧ some k_ ≠ (.slice Ao28 t207.length co28 : Value).ownBlock)) (n := t197.length) (c := co21) ?_).2.2; exact (B.kr0 (B.rs4 HO199 BK210))); (case side4 => exact (Kd.R_reads' HO199.out).2.1); rintro e w30 ⟨rfl, hb⟩; refine ⟨_, rfl, ?_⟩; have n0_ := Aside0.mk (Kd.R_below (B.kr0 (B.rs4 HO193 BK210)) hb); have n1_ := Aside0.mk (Kd.R_below (B.kr0 (B.rs4 HO199 BK210)) hb); have n2_ := Aside0.mk (Kd.R_below (B.kr0 (B.rs4 HO203 BK210)) hb); have n3_ := Aside0.mk (Kd.R_below (B.kr0 (B.rs4 HO209 BK210)) hb); have n4_ := Aside0.mk (blk_below (B.kb0 (B.bf4 BK200 NB200_210)) hb); have n5_ := Aside0.mk (blk_below (g := gb210) (o := .cells #[.int .i64 t204, .int .i64 t205, .int .i64 t206, .slice Ao28 t207.length co28] 27 (0, 0)) (B.kb0 (B.bp4 BK210)) hb); have n6_ := Aside0.mk (below_step (B.bl HB) hb); clear HO193 HO199 HO203 HO209 BK200 BK210 HB; have HO193 := n0_; have HO199 := n1_; have HO203 := n2_; have HO209 := n3_; have BK200 := n4_; have BK210 := n5_; have HB := n6_; clear n0_ n1_ n2_ n3_ n4_ n5_ n6_; (try clear hb); (try clear hb2); (try clear hk); (try clear hi)) | ((with_reducible refine gate_callee (f := 17) rfl ?_); refine goesL_ (some 34) rfl rfl Try.func17 (by kernel_rfl) rfl #[.slice A2 l2.length c2] rfl B.am ?_; (with_reducible refine (laws_toIntS.calls k _ _ l2 t212 _ ?side1 ?side2 A11.out).mono ?_); (case side1 => exact B.kc (Kd.C_below HR2.out HB.out)); (case side2 => exact HC2.out); rintro e w31 ⟨v213, rfl, ho0, hb⟩; refine ⟨_, rfl, ?_⟩; have n0_ := Aside0.mk (Kd.R_elder' (B.kr HO193) (Kd.R_base ho0) hb); have n1_ := Aside0.mk (Kd.R_elder' (B.kr HO199) (Kd.R_base ho0) hb); have n2_ := Aside0.mk (Kd.R_elder' (B.kr HO203) (Kd.R_base ho0) hb); have n3_ := Aside0.mk (Kd.R_elder' (B.kr HO209) (Kd.R_base ho0) hb); have n4_ := Aside0.mk (Kd.R_lower (Kd.R_new' (Kd.R_new' (Kd.R_new' (Kd.R_new' ho0 (Kd.R_lt (B.kr HO193))) (Kd.R_lt (B.kr HO199))) (Kd.R_lt (B.kr HO203))) (Kd.R_lt (B.kr HO209))) (below_size (B.bl HB))); have n5_ := Aside0.mk (blk_below (B.kb BK200) hb); have n6_ := Aside0.mk (blk_below (B.kb BK210) hb); have n7_ := Aside0.mk (below_step (B.bl HB) hb); clear HO193 HO199 HO203 HO209 BK200 BK210 HB; have HO193 := n0_; have HO199 := n1_; have HO203 := n2_; have HO209 := n3_; have HO214 := n4_; have BK200 := n5_; have BK210 := n6_; have HB := n7_; clear n0_ n1_ n2_ n3_ n4_ n5_ n6_ n7_; (try clear hb); (try clear hb2); (try clear hk); (try clear hi); (try clear ho0); obtain ⟨Ao32, co32, eo32⟩ := Kd.R_slice HO214.out; subst eo32) | ((with_reducible refine gate_callee (f := 19) rfl ?_); refine goesL_ (some 35) rfl rfl Try.func19 (by kernel_rfl) rfl #[.slice Ao23 t201.length co23, .slice Ao32 t212.length co32] rfl B.am ?_; (with_reducible refine (laws_eqIntS.calls k _ _ t201 _ _ t212 true _ ?side1 ?side2 ?side3 ?side4 A12.out).mono ?_); (case side1 => exact B.kc ((Kd.R_reads' HO203.out).2.2)); (case side2 => exact (Kd.R_reads' HO203.out).2.1); (case side3 => exact B.kc ((Kd.R_reads' HO214.out).2.2)); (case side4 => exact (Kd.R_reads' HO214.out).2.1); rintro e w' ⟨rfl, ⟨nd, rfl⟩⟩; refine ⟨_, rfl, ?_⟩) | ((with_reducible refine gate_callee (f := 20) rfl ?_); refine goesL_ (some 39) rfl rfl Try.func20 (by kernel_rfl) rfl #[.slice Ao23 t201.length co23, .int .i64 1] rfl B.am ?_; (with_reducible refine (laws_markIntS.calls k (fun k_ => some k_ = (.slice Ao23 t201.length co23 : Value).ownBlock) (.slice Ao23 t201.length co23) t201 1 t216 t217 w _ ?side1 ?side2 A14.out).mono ?_); (case side1 => exact B.bl HB); (case side2 => exact Kd.R_tight rfl HO203.out); rintro e w33 ⟨rfl, hy0, hb, hkp⟩; refine ⟨_, rfl, ?_⟩; have n0_ := Aside0.mk (Kd.R_mono (ok' := fun k_ => some k_ ≠ (.slice Ao21 t197.length co21 : Value).ownBlock ∧ some k_ ≠ (.slice Ao23 t201.length co23 : Value).ownBlock ∧ some k_ ≠ (.slice Ao28 t207.length co28 : Value).ownBlock ∧ some k_ ≠ (.slice Ao32 t212.length co32 : Value).ownBlock) (Kd.R_keptB (HO193.out) hkp (fun k_ hk_ hs_ => (hk_.1.1.2) hs_)) (fun k_ hk_ => ⟨hk_.1.1.1.1.2, hk_.1.1.1.2, hk_.1.1.2, hk_.1.2⟩)); have n1_ := Aside0.mk (Kd.R_mono (ok' := fun k_ => some k_ ≠ (.slice Ao17 t191.length co17 : Value).ownBlock ∧ some k_ ≠ (.slice Ao23 t201.length co23 : Value).ownBlock ∧ some k_ ≠ (.slice Ao28 t207.length co28 : Value).ownBlock ∧ some k_ ≠ (.slice Ao32 t212.length co32 : Value).ownBlock) (Kd.R_keptB (HO199.out) hkp (fun k_ hk_ hs_ => (hk_.1.1.2) hs_)) (fun k_ hk_ => ⟨hk_.1.1.1.1.2, hk_.1.1.1.2, hk_.1.1.2, hk_.1.2⟩)); have n2_ := Aside0.mk (blk_kept (B.kb BK200) hkp (fun hs_ => (fun e_ => (Kd.R_ne HO203.out BK200.out (by decide)) e_) hs_)); have n3_ := Aside0.mk (Kd.R_reok rfl hy0 (fun k_ e_ => HO203.out.1 k_ e_)); have n4_ := Aside0.mk (Kd.R_mono (ok' := fun k_ => some k_ ≠ (.slice Ao17 t191.length co17 : Value).ownBlock ∧ some k_ ≠ (.slice Ao21 t197.length co21 : Value).ownBlock ∧ some k_ ≠ (.slice Ao23 t201.length co23 : Value).ownBlock ∧ some k_ ≠ (.slice Ao32 t212.length co32 : Value).ownBlock) (Kd.R_keptB (HO209.out) hkp (fun k_ hk_ hs_ => (hk_.1.2) hs_)) (fun k_ hk_ => ⟨hk_.1.1.1.1.2, hk_.1.1.1.2, hk_.1.1.2, hk_.1.2⟩)); have n5_ := Aside0.mk (blk_kept (B.kb BK210) hkp (fun hs_ => (fun e_ => (Kd.R_ne HO203.out BK210.out (by decide)) e_) hs_)); have n6_ := Aside0.mk (Kd.R_mono (ok' := fun k_ => some k_ ≠ (.slice Ao17 t191.length co17 : Value).ownBlock ∧ some k_ ≠ (.slice Ao21 t197.length co21 : Value).ownBlock ∧ some k_ ≠ (.slice Ao23 t201.length co23 : Value).ownBlock ∧ some k_ ≠ (.slice Ao28 t207.length co28 : Value).ownBlock) (Kd.R_keptB (HO214.out) hkp (fun k_ hk_ hs_ => (hk_.1.2) hs_)) (fun k_ hk_ => ⟨hk_.1.1.1.1.2, hk_.1.1.1.2, hk_.1.1.2, hk_.1.2⟩)); have n7_ := Aside0.mk (hb); clear HO193 HO199 BK200 HO203 HO209 BK210 HO214 HB; have HO193 := n0_; have HO199 := n1_; have BK200 := n2_; have HO203 := n3_; have HO209 := n4_; have BK210 := n5_; have HO214 := n6_; have HB := n7_; clear n0_ n1_ n2_ n3_ n4_ n5_ n6_ n7_; (try clear hb); (try clear hkp); (try clear hy0)))
      (try simp only [Act.put, List.setIfInBounds_toArray, List.set_cons_zero, List.set_cons_succ])
      go_cut [47] (fun v47 wc => ∃ (kq : Nat) (x47_14 : Bool), v47 = .bool x47_14 ∧ Aside0 (laws_FnExactFillImage.j0 kq a0 a1 l2 x47_14 t194 t195 t196 t197 t204 t205 t206 t207 = some r) ∧ Aside0 (kq ≤ k) ∧ Aside0 (Kd.R (Kd.int .i64) 3 wc w.heap.size (fun k_ => some k_ ≠ ((.slice Ao28 t207.length co28) : Value).ownBlock) (.slice Ao21 t197.length co21) t197) ∧ Aside0 (Kd.R (Kd.int .i64) 3 wc w.heap.size (fun k_ => some k_ ≠ ((.slice Ao21 t197.length co21) : Value).ownBlock) (.slice Ao28 t207.length co28) t207) ∧ Aside0 (wc.heap[gb200]? = some (.cells #[.int .i64 t194, .int .i64 t195, .int .i64 t196, (.slice Ao21 t197.length co21)] 27 (0, 0))) ∧ Aside0 (wc.heap[gb210]? = some (.cells #[.int .i64 t204, .int .i64 t205, .int .i64 t206, (.slice Ao28 t207.length co28)] 27 (0, 0))) ∧ Aside0 (Below w.heap.size w wc))
      case first =>
        have H := HC15.out
        clear HC15
        by_cases c34 : t216 < 0
        · rw [if_pos c34] at H
          have c34b0 : decide (t216 < 0) = true := decide_eq_true c34
          clear c34
          (first | rw [c34b0] | (simp only [i64_w, i32_w]; rw [c34b0]) | skip)
          exact absurd ht_.out (by revert H; cases k <;> intro H <;> simp [laws_FnExactFillImage.j0] at H <;> (first | (subst H; decide) | simp [← H] | simp [H]))
        rw [if_neg c34] at H
        have c34b0 : decide (t216 < 0) = false := decide_eq_false c34
        clear c34
        (first | rw [c34b0] | (simp only [i64_w, i32_w]; rw [c34b0]) | skip)
        replace H := Option.bind_eq_some_iff.mp H
        obtain ⟨t218, A350, H⟩ := H
        replace H : (laws_FnExactFillImage.j0 k a0 a1 l2 (!t218) t194 t195 t196 t197 t204 t205 t206 t207) = some r := H
        have A35 := Aside0.mk A350
        clear A350
        have H' := Aside0.mk H
        clear H
        have hnb36 := NB210_200.out
        have hnc36 := NB200_210.out
        have hcz37_0 : w33.cell? ⟨gb210, 0, none⟩ = some (.int .i64 t204) := B.bc BK210 0
        have hcz37_1 : w33.cell? ⟨gb210, 1, none⟩ = some (.int .i64 t205) := B.bc BK210 1
        have hcz37_2 : w33.cell? ⟨gb210, 2, none⟩ = some (.int .i64 t206) := B.bc BK210 2
        have hcz37_3 : w33.cell? ⟨gb210, 3, none⟩ = some (.slice Ao28 t207.length co28) := B.bc BK210 3
        have hfz37_0 := blk_frozen BK210.out 0
        have hfz37_1 := blk_frozen BK210.out 1
        have hfz37_2 := blk_frozen BK210.out 2
        have hfz37_3 := blk_frozen BK210.out 3
        have hcz38_0 : w33.cell? ⟨gb200, 0, none⟩ = some (.int .i64 t194) := B.bc BK200 0
        have hcz38_1 : w33.cell? ⟨gb200, 1, none⟩ = some (.int .i64 t195) := B.bc BK200 1
        have hcz38_2 : w33.cell? ⟨gb200, 2, none⟩ = some (.int .i64 t196) := B.bc BK200 2
        have hcz38_3 : w33.cell? ⟨gb200, 3, none⟩ = some (.slice Ao21 t197.length co21) := B.bc BK200 3
        have hfz38_0 := blk_frozen BK200.out 0
        have hfz38_1 := blk_frozen BK200.out 1
        have hfz38_2 := blk_frozen BK200.out 2
        have hfz38_3 := blk_frozen BK200.out 3
        go_wp2_with (first | (go_at_call 15; (with_reducible refine (laws_eqImage.calls k t204 t205 t206 _ _ t207 t194 t195 t196 _ _ t197 t218 _ ?side1 ?side2 ?side3 ?side4 A35.out).mono ?_); (case side1 => exact B.kc ((Kd.R_reads' HO209.out).2.2)); (case side2 => exact (Kd.R_reads' HO209.out).2.1); (case side3 => exact B.kc ((Kd.R_reads' HO199.out).2.2)); (case side4 => exact (Kd.R_reads' HO199.out).2.1); rintro e w39 ⟨rfl, hb⟩; have n0_ := Aside0.mk (Kd.R_below (B.kr HO193) hb); have n1_ := Aside0.mk (Kd.R_below (B.kr HO199) hb); have n2_ := Aside0.mk (Kd.R_below (B.kr HO203) hb); have n3_ := Aside0.mk (Kd.R_below (B.kr HO209) hb); have n4_ := Aside0.mk (Kd.R_below (B.kr HO214) hb); have n5_ := Aside0.mk (blk_below (B.kb BK200) hb); have n6_ := Aside0.mk (blk_below (B.kb BK210) hb); have n7_ := Aside0.mk (below_step (B.bl HB) hb); clear HO193 HO199 HO203 HO209 HO214 BK200 BK210 HB; have HO193 := n0_; have HO199 := n1_; have HO203 := n2_; have HO209 := n3_; have HO214 := n4_; have BK200 := n5_; have BK210 := n6_; have HB := n7_; clear n0_ n1_ n2_ n3_ n4_ n5_ n6_ n7_; (try clear hb); (try clear hb2); (try clear hk); (try clear hi)))
        go_meet
        case rel => exact ⟨_, (!t218), (by first | rfl | (simp; done) | (simp [*]; done)), H', ⟨by first | omega | exact Nat.le_refl _⟩, ⟨B.kr0 (Kd.R_mono HO199.out (fun _ hk => hk.2.2.1))⟩, ⟨B.kr0 (Kd.R_mono HO209.out (fun _ hk => hk.2.1))⟩, ⟨B.kb BK200⟩, ⟨B.kb BK210⟩, ⟨B.bl HB⟩⟩
      case rest =>
        clear HC15
        try clear c1
        try clear c2
        try clear p2
        try clear c3
        try clear c4
        try clear c4b0
        try clear c4b1
        try clear c10
        try clear c13
        try clear c15
        try clear c16
        try clear c17
        try clear c18
        try clear c19
        try clear c20
        try clear c26
        try clear c34
        try clear c34b0
        try clear c36
        try clear hcz20_0
        try clear hcz20_1
        try clear hcz20_2
        try clear hcz20_3
        try clear hcz27_0
        try clear hcz27_1
        try clear hcz27_2
        try clear hcz27_3
        try clear hcz29_0
        try clear hcz29_1
        try clear hcz29_2
        try clear hcz29_3
        try clear hcz37_0
        try clear hcz37_1
        try clear hcz37_2
        try clear hcz37_3
        try clear hcz38_0
        try clear hcz38_1
        try clear hcz38_2
        try clear hcz38_3
        try clear hfz20_0
        try clear hfz20_1
        try clear hfz20_2
        try clear hfz20_3
        try clear hfz27_0
        try clear hfz27_1
        try clear hfz27_2
        try clear hfz27_3
        try clear hfz29_0
        try clear hfz29_1
        try clear hfz29_2
        try clear hfz29_3
        try clear hfz37_0
        try clear hfz37_1
        try clear hfz37_2
        try clear hfz37_3
        try clear hfz38_0
        try clear hfz38_1
        try clear hfz38_2
        try clear hfz38_3
        obtain ⟨kq, x47_14, rfl, HA, HJ14, HO_201003, HO_211003, BK200, BK210, HB⟩ := hcut
        cases kq with
        | zero => exact absurd HA.out (by simp [laws_FnExactFillImage.j0])
        | succ kj14 =>
          have H := HA.out
          clear HA
          simp only [laws_FnExactFillImage.j0] at H
          by_cases c40 : x47_14 = true
          · subst c40
            have H1 : (some false) = some r := by rw [if_pos rfl] at H; exact H
            clear H
            have H := H1
            clear H1
            obtain rfl := Option.some.inj H
            exact absurd ht_.out (by decide)
          replace c40 := Bool.eq_false_iff.mpr c40
          subst c40
          have H1 : ((laws_markImage.f kj14 t204 t205 t206 t207 1).bind fun bt219 => ((laws_heldImage.f kj14 t204 t205 t206 bt219.2 1).bind fun t221 => (if t221 < 0 then (some false) else (if t221 = bt219.1 then ((laws_toIntS.f kj14 l2).bind fun t222 => ((impl_FillImage.f kj14 a0 a1 t222).bind fun bt225 => ((laws_eqImage.f kj14 bt225.1 bt225.2.1 bt225.2.2.1 bt225.2.2.2 t194 t195 t196 t197).bind fun t232 => (if t232 = true then ((laws_heldImage.f kj14 t204 t205 t206 bt219.2 1).bind fun t233 => (if t233 < 0 then (some false) else (if t233 = bt219.1 then (some true) else (some false)))) else (some false))))) else (some false))))) = some r := by rw [if_neg (show ¬ (false = true) by decide)] at H; exact H
          clear H
          have H := H1
          clear H1
          replace H := Option.bind_eq_some_iff.mp H
          obtain ⟨⟨t219, t220⟩, A410, H⟩ := H
          replace H : ((laws_heldImage.f kj14 t204 t205 t206 t220 1).bind fun t221 => (if t221 < 0 then (some false) else (if t221 = t219 then ((laws_toIntS.f kj14 l2).bind fun t222 => ((impl_FillImage.f kj14 a0 a1 t222).bind fun bt225 => ((laws_eqImage.f kj14 bt225.1 bt225.2.1 bt225.2.2.1 bt225.2.2.2 t194 t195 t196 t197).bind fun t232 => (if t232 = true then ((laws_heldImage.f kj14 t204 t205 t206 t220 1).bind fun t233 => (if t233 < 0 then (some false) else (if t233 = t219 then (some true) else (some false)))) else (some false))))) else (some false)))) = some r := H
          have A41 := Aside0.mk A410
          clear A410
          replace H := Option.bind_eq_some_iff.mp H
          obtain ⟨t221, A420, H⟩ := H
          replace H : (if t221 < 0 then (some false) else (if t221 = t219 then ((laws_toIntS.f kj14 l2).bind fun t222 => ((impl_FillImage.f kj14 a0 a1 t222).bind fun bt225 => ((laws_eqImage.f kj14 bt225.1 bt225.2.1 bt225.2.2.1 bt225.2.2.2 t194 t195 t196 t197).bind fun t232 => (if t232 = true then ((laws_heldImage.f kj14 t204 t205 t206 t220 1).bind fun t233 => (if t233 < 0 then (some false) else (if t233 = t219 then (some true) else (some false)))) else (some false))))) else (some false))) = some r := H
          have A42 := Aside0.mk A420
          clear A420
          by_cases c43 : t221 < 0
          · rw [if_pos c43] at H
            have c43b0 : decide (t221 < 0) = true := decide_eq_true c43
            clear c43
            obtain rfl := Option.some.inj H
            exact absurd ht_.out (by decide)
          rw [if_neg c43] at H
          have c43b0 : decide (t221 < 0) = false := decide_eq_false c43
          clear c43
          by_cases c44 : t221 = t219
          · rw [if_pos c44] at H
            have c44b0 : (t221 == t219) = true := beq_iff_eq.mpr c44
            have c44b1 : (t221 != t219) = false := bne_eq_false_iff_eq.mpr c44
            clear c44
            replace H := Option.bind_eq_some_iff.mp H
            obtain ⟨t222, A450, H⟩ := H
            replace H : ((impl_FillImage.f kj14 a0 a1 t222).bind fun bt225 => ((laws_eqImage.f kj14 bt225.1 bt225.2.1 bt225.2.2.1 bt225.2.2.2 t194 t195 t196 t197).bind fun t232 => (if t232 = true then ((laws_heldImage.f kj14 t204 t205 t206 t220 1).bind fun t233 => (if t233 < 0 then (some false) else (if t233 = t219 then (some true) else (some false)))) else (some false)))) = some r := H
            have A45 := Aside0.mk A450
            clear A450
            replace H := Option.bind_eq_some_iff.mp H
            obtain ⟨⟨t225, t226, t227, t228⟩, A460, H⟩ := H
            replace H : ((laws_eqImage.f kj14 t225 t226 t227 t228 t194 t195 t196 t197).bind fun t232 => (if t232 = true then ((laws_heldImage.f kj14 t204 t205 t206 t220 1).bind fun t233 => (if t233 < 0 then (some false) else (if t233 = t219 then (some true) else (some false)))) else (some false))) = some r := H
            have A46 := Aside0.mk A460
            clear A460
            replace H := Option.bind_eq_some_iff.mp H
            obtain ⟨t232, A470, H⟩ := H
            replace H : (if t232 = true then ((laws_heldImage.f kj14 t204 t205 t206 t220 1).bind fun t233 => (if t233 < 0 then (some false) else (if t233 = t219 then (some true) else (some false)))) else (some false)) = some r := H
            have A47 := Aside0.mk A470
            clear A470
            by_cases c48 : t232 = true
            · subst c48
              have H1 : ((laws_heldImage.f kj14 t204 t205 t206 t220 1).bind fun t233 => (if t233 < 0 then (some false) else (if t233 = t219 then (some true) else (some false)))) = some r := by rw [if_pos rfl] at H; exact H
              clear H
              have H := H1
              clear H1
              replace H := Option.bind_eq_some_iff.mp H
              obtain ⟨t233, A490, H⟩ := H
              replace H : (if t233 < 0 then (some false) else (if t233 = t219 then (some true) else (some false))) = some r := H
              have A49 := Aside0.mk A490
              clear A490
              by_cases c50 : t233 < 0
              · rw [if_pos c50] at H
                have c50b0 : decide (t233 < 0) = true := decide_eq_true c50
                clear c50
                obtain rfl := Option.some.inj H
                exact absurd ht_.out (by decide)
              rw [if_neg c50] at H
              have c50b0 : decide (t233 < 0) = false := decide_eq_false c50
              clear c50
              by_cases c51 : t233 = t219
              · rw [if_pos c51] at H
                have c51b0 : (t233 == t219) = true := beq_iff_eq.mpr c51
                have c51b1 : (t233 != t219) = false := bne_eq_false_iff_eq.mpr c51
                clear c51
                obtain rfl := Option.some.inj H
                simp only [Option.some.injEq, Prod.mk.injEq] at H
                obtain ⟨rfl⟩ := H
                have hnb52 := NB210_200.out
                have hnc52 := NB200_210.out
                have hcz53_0 : wc.cell? ⟨gb210, 0, none⟩ = some (.int .i64 t204) := B.bc BK210 0
                have hcz53_1 : wc.cell? ⟨gb210, 1, none⟩ = some (.int .i64 t205) := B.bc BK210 1
                have hcz53_2 : wc.cell? ⟨gb210, 2, none⟩ = some (.int .i64 t206) := B.bc BK210 2
                have hcz53_3 : wc.cell? ⟨gb210, 3, none⟩ = some (.slice Ao28 t207.length co28) := B.bc BK210 3
                have hfz53_0 := blk_frozen BK210.out 0
                have hfz53_1 := blk_frozen BK210.out 1
                have hfz53_2 := blk_frozen BK210.out 2
                have hfz53_3 := blk_frozen BK210.out 3
                go_wp2_with (first | ((with_reducible refine gate_callee (f := 21) rfl ?_); refine goesL_ (some 50) rfl rfl Try.func21 (by kernel_rfl) rfl #[.agg #[.int .i64 t204, .int .i64 t205, .int .i64 t206, .slice Ao28 t207.length co28], .int .i64 1] rfl B.am ?_; (with_reducible refine (laws_markImage.calls kj14 t204 t205 t206 (fun k_ => some k_ = (.slice Ao28 t207.length co28 : Value).ownBlock) (.slice Ao28 t207.length co28) t207 1 t219 t220 w _ ?side1 ?side2 A41.out).mono ?_); (case side1 => exact B.bl HB); (case side2 => exact Kd.R_tight rfl HO_211003.out); rintro e w54 ⟨rfl, hy0, hb, hkp⟩; refine ⟨_, rfl, ?_⟩; have n0_ := Aside0.mk (Kd.R_mono (ok' := fun k_ => some k_ ≠ (.slice Ao28 t207.length co28 : Value).ownBlock) (Kd.R_keptB (HO_201003.out) hkp (fun k_ hk_ hs_ => (hk_) hs_)) (fun k_ hk_ => hk_.1)); have n1_ := Aside0.mk (Kd.R_reok rfl hy0 (fun k_ e_ => HO_211003.out.1 k_ e_)); have n2_ := Aside0.mk (blk_kept (B.kb BK200) hkp (fun hs_ => (fun e_ => (Kd.R_ne HO_211003.out BK200.out (by decide)) e_) hs_)); have n3_ := Aside0.mk (blk_kept (B.kb BK210) hkp (fun hs_ => (fun e_ => (Kd.R_ne HO_211003.out BK210.out (by decide)) e_) hs_)); have n4_ := Aside0.mk (hb); clear HO_201003 HO_211003 BK200 BK210 HB; have HO_201003 := n0_; have HO_211003 := n1_; have BK200 := n2_; have BK210 := n3_; have HB := n4_; clear n0_ n1_ n2_ n3_ n4_; (try clear hb); (try clear hkp); (try clear hy0); have hcz55_0 : w54.cell? ⟨gb210, 0, none⟩ = some (.int .i64 t204) := B.bc BK210 0; have hcz55_1 : w54.cell? ⟨gb210, 1, none⟩ = some (.int .i64 t205) := B.bc BK210 1; have hcz55_2 : w54.cell? ⟨gb210, 2, none⟩ = some (.int .i64 t206) := B.bc BK210 2; have hcz55_3 : w54.cell? ⟨gb210, 3, none⟩ = some (.slice Ao28 t207.length co28) := B.bc BK210 3; have hfz55_0 := blk_frozen BK210.out 0; have hfz55_1 := blk_frozen BK210.out 1; have hfz55_2 := blk_frozen BK210.out 2; have hfz55_3 := blk_frozen BK210.out 3) | ((with_reducible refine gate_callee (f := 22) rfl ?_); refine goesL_ (some 53) rfl rfl Try.func22 (by kernel_rfl) rfl #[.agg #[.int .i64 t204, .int .i64 t205, .int .i64 t206, .slice Ao28 t220.length co28], .int .i64 1] rfl (by (try simp only [List.map_toArray, List.map_cons, List.map_nil]); first | done | (rw [show t220.length = t207.length from (Kd.R_reads' HO_211003.out).1.symm] <;> rfl) | rfl | (simp only [List.length_drop, List.length_take]; rfl)) ?_; (with_reducible refine (laws_heldImage.calls kj14 t204 t205 t206 _ _ t220 1 t221 _ ?side1 ?side2 A42.out).mono ?_); (case side1 => exact B.kc ((Kd.R_reads' HO_211003.out).2.2)); (case side2 => rw [show t220.length = t207.length from (Kd.R_reads' HO_211003.out).1.symm]; exact (Kd.R_reads' HO_211003.out).2.1); rintro e w56 ⟨rfl, hb⟩; refine ⟨_, rfl, ?_⟩; have n0_ := Aside0.mk (Kd.R_below (B.kr HO_201003) hb); have n1_ := Aside0.mk (Kd.R_below (B.kr HO_211003) hb); have n2_ := Aside0.mk (blk_below (B.kb BK200) hb); have n3_ := Aside0.mk (blk_below (B.kb BK210) hb); have n4_ := Aside0.mk (below_step (B.bl HB) hb); clear HO_201003 HO_211003 BK200 BK210 HB; have HO_201003 := n0_; have HO_211003 := n1_; have BK200 := n2_; have BK210 := n3_; have HB := n4_; clear n0_ n1_ n2_ n3_ n4_; (try clear hb); (try clear hb2); (try clear hk); (try clear hi)) | ((with_reducible refine gate_callee (f := 17) rfl ?_); refine goesL_ (some 62) rfl rfl Try.func17 (by kernel_rfl) rfl #[.slice A2 l2.length c2] rfl B.am ?_; (with_reducible refine (laws_toIntS.calls kj14 _ _ l2 t222 _ ?side1 ?side2 A45.out).mono ?_); (case side1 => exact B.kc (Kd.C_below HR2.out HB.out)); (case side2 => exact HC2.out); rintro e w57 ⟨v223, rfl, ho0, hb⟩; refine ⟨_, rfl, ?_⟩; have n0_ := Aside0.mk (Kd.R_elder' (B.kr HO_201003) (Kd.R_base ho0) hb); have n1_ := Aside0.mk (Kd.R_elder' (B.kr HO_211003) (Kd.R_base ho0) hb); have n2_ := Aside0.mk (Kd.R_lower (Kd.R_new' (Kd.R_new' ho0 (Kd.R_lt (B.kr HO_201003))) (Kd.R_lt (B.kr HO_211003))) (below_size (B.bl HB))); have n3_ := Aside0.mk (blk_below (B.kb BK200) hb); have n4_ := Aside0.mk (blk_below (B.kb BK210) hb); have n5_ := Aside0.mk (below_step (B.bl HB) hb); clear HO_201003 HO_211003 BK200 BK210 HB; have HO_201003 := n0_; have HO_211003 := n1_; have HO224 := n2_; have BK200 := n3_; have BK210 := n4_; have HB := n5_; clear n0_ n1_ n2_ n3_ n4_ n5_; (try clear hb); (try clear hb2); (try clear hk); (try clear hi); (try clear ho0); obtain ⟨Ao58, co58, eo58⟩ := Kd.R_slice HO224.out; subst eo58) | ((with_reducible refine gate_callee (f := 18) rfl ?_); refine goesL_ (some 63) rfl rfl Try.func18 (by kernel_rfl) rfl #[.int .i64 a0, .int .i64 a1, .slice Ao58 t222.length co58] rfl B.am ?_; (with_reducible refine (impl_FillImage.calls kj14 a0 a1 _ _ t222 t225 t226 t227 t228 _ ?side1 ?side2 A46.out).mono ?_); (case side1 => exact B.kc ((Kd.R_reads' HO224.out).2.2)); (case side2 => exact (Kd.R_reads' HO224.out).2.1); rintro e w59 ⟨v229, rfl, ho0, hb⟩; refine ⟨_, rfl, ?_⟩; have n0_ := Aside0.mk (Kd.R_elder' (B.kr HO_201003) (Kd.R_base ho0) hb); have n1_ := Aside0.mk (Kd.R_elder' (B.kr HO_211003) (Kd.R_base ho0) hb); have n2_ := Aside0.mk (Kd.R_elder' (B.kr HO224) (Kd.R_base ho0) hb); have n3_ := Aside0.mk (Kd.R_lower (Kd.R_new' (Kd.R_new' (Kd.R_new' ho0 (Kd.R_lt (B.kr HO_201003))) (Kd.R_lt (B.kr HO_211003))) (Kd.R_lt (B.kr HO224))) (below_size (B.bl HB))); have n4_ := Aside0.mk (blk_below (B.kb BK200) hb); have n5_ := Aside0.mk (blk_below (B.kb BK210) hb); have n6_ := Aside0.mk (below_step (B.bl HB) hb); clear HO_201003 HO_211003 HO224 BK200 BK210 HB; have HO_201003 := n0_; have HO_211003 := n1_; have HO224 := n2_; have HO230 := n3_; have BK200 := n4_; have BK210 := n5_; have HB := n6_; clear n0_ n1_ n2_ n3_ n4_ n5_ n6_; (try clear hb); (try clear hb2); (try clear hk); (try clear hi); (try clear ho0)) | ((with_reducible refine gate_dst (N := 13) rfl ?_); refine box_event ?hg (N := 13) ?hd (cs := #[.int .i64 0, .int .i64 0, .int .i64 0, .slice none 0 0]) (t := 27) ?hr ?_; (case hd => rfl); (case hg => rfl); (case hr => first | (go_simp; done) | (go_simp; rfl)); intro gb231 hg w60 hbox hb; have n0_ := Aside0.mk (Kd.R_below (B.kr HO_201003) hb); have n1_ := Aside0.mk (Kd.R_below (B.kr HO_211003) hb); have n2_ := Aside0.mk (Kd.R_below (B.kr HO224) hb); have n3_ := Aside0.mk (Kd.R_below (B.kr HO230) hb); have n4_ := Aside0.mk (blk_below (B.kb BK200) hb); have n5_ := Aside0.mk (blk_below (B.kb BK210) hb); have n6_ := Aside0.mk (below_step (B.bl HB) hb); have n7_ := Aside0.mk (hbox); have n8_ := Aside0.mk (B.nle hg (below_size (B.bl HB))); have n9_ := Aside0.mk (B.nle hg (below_size (B.bl HB))); have n10_ := Aside0.mk (B.nlt hg (blk_lt (B.kb BK200))); have n11_ := Aside0.mk (B.ngt hg (blk_lt (B.kb BK200))); have n12_ := Aside0.mk (B.nlt hg (blk_lt (B.kb BK210))); have n13_ := Aside0.mk (B.ngt hg (blk_lt (B.kb BK210))); clear HO_201003 HO_211003 HO224 HO230 BK200 BK210 HB; have HO_201003 := n0_; have HO_211003 := n1_; have HO224 := n2_; have HO230 := n3_; have BK200 := n4_; have BK210 := n5_; have HB := n6_; have BK231 := n7_; have GW231 := n8_; have GE231 := n9_; have NB200_231 := n10_; have NB231_200 := n11_; have NB210_231 := n12_; have NB231_210 := n13_; clear n0_ n1_ n2_ n3_ n4_ n5_ n6_ n7_ n8_ n9_ n10_ n11_ n12_ n13_; clear hb hbox hg; have hnb61 := NB231_200.out; have hnc61 := NB200_231.out; have hnb62 := NB231_210.out; have hnc62 := NB210_231.out; have hcz63_0 : w60.cell? ⟨gb231, 0, none⟩ = some (.int .i64 0) := B.bc BK231 0; have hcz63_1 : w60.cell? ⟨gb231, 1, none⟩ = some (.int .i64 0) := B.bc BK231 1; have hcz63_2 : w60.cell? ⟨gb231, 2, none⟩ = some (.int .i64 0) := B.bc BK231 2; have hcz63_3 : w60.cell? ⟨gb231, 3, none⟩ = some (.slice none 0 0) := B.bc BK231 3; have hfz63_0 := blk_frozen BK231.out 0; have hfz63_1 := blk_frozen BK231.out 1; have hfz63_2 := blk_frozen BK231.out 2; have hfz63_3 := blk_frozen BK231.out 3; obtain ⟨Ao64, co64, eo64⟩ := Kd.R_slice HO230.out; subst eo64; have hcz65_0 : w60.cell? ⟨gb200, 0, none⟩ = some (.int .i64 t194) := B.bc BK200 0; have hcz65_1 : w60.cell? ⟨gb200, 1, none⟩ = some (.int .i64 t195) := B.bc BK200 1; have hcz65_2 : w60.cell? ⟨gb200, 2, none⟩ = some (.int .i64 t196) := B.bc BK200 2; have hcz65_3 : w60.cell? ⟨gb200, 3, none⟩ = some (.slice Ao21 t197.length co21) := B.bc BK200 3; have hfz65_0 := blk_frozen BK200.out 0; have hfz65_1 := blk_frozen BK200.out 1; have hfz65_2 := blk_frozen BK200.out 2; have hfz65_3 := blk_frozen BK200.out 3) | ((with_reducible refine gate_callee (f := 15) rfl ?_); refine goesL_ (some 66) rfl rfl Try.func15 (by kernel_rfl) rfl #[.agg #[.int .i64 t225, .int .i64 t226, .int .i64 t227, .slice Ao64 t228.length co64], .agg #[.int .i64 t194, .int .i64 t195, .int .i64 t196, .slice Ao21 t197.length co21]] rfl B.am ?_; (with_reducible refine (laws_eqImage.calls kj14 t225 t226 t227 _ _ t228 t194 t195 t196 _ _ t197 true _ ?side1 ?side2 ?side3 ?side4 A47.out).mono ?_); (case side1 => refine (Kd.R_reads' (e := 3) (base := w.heap.size) (ok := fun k_ => (((True ∧ some k_ ≠ (.slice Ao21 t197.length co21 : Value).ownBlock) ∧ some k_ ≠ (.slice Ao28 t207.length co28 : Value).ownBlock) ∧ some k_ ≠ (.slice Ao58 t222.length co58 : Value).ownBlock)) (n := t228.length) (c := co64) ?_).2.2; exact (B.kr0 (B.rs4 HO230 BK231))); (case side2 => exact (Kd.R_reads' HO230.out).2.1); (case side3 => refine (Kd.R_reads' (e := 3) (base := w.heap.size) (ok := fun k_ => ((some k_ ≠ (.slice Ao28 t207.length co28 : Value).ownBlock ∧ some k_ ≠ (.slice Ao58 t222.length co58 : Value).ownBlock) ∧ some k_ ≠ (.slice Ao64 t228.length co64 : Value).ownBlock)) (n := t197.length) (c := co21) ?_).2.2; exact (B.kr0 (B.rs4 HO_201003 BK231))); (case side4 => exact (Kd.R_reads' HO_201003.out).2.1); rintro e w66 ⟨rfl, hb⟩; refine ⟨_, rfl, ?_⟩; have n0_ := Aside0.mk (Kd.R_below (B.kr0 (B.rs4 HO_201003 BK231)) hb); have n1_ := Aside0.mk (Kd.R_below (B.kr0 (B.rs4 HO_211003 BK231)) hb); have n2_ := Aside0.mk (Kd.R_below (B.kr0 (B.rs4 HO224 BK231)) hb); have n3_ := Aside0.mk (Kd.R_below (B.kr0 (B.rs4 HO230 BK231)) hb); have n4_ := Aside0.mk (blk_below (B.kb0 (B.bf4 BK200 NB200_231)) hb); have n5_ := Aside0.mk (blk_below (B.kb0 (B.bf4 BK210 NB210_231)) hb); have n6_ := Aside0.mk (blk_below (g := gb231) (o := .cells #[.int .i64 t225, .int .i64 t226, .int .i64 t227, .slice Ao64 t228.length co64] 27 (0, 0)) (B.kb0 (B.bp4 BK231)) hb); have n7_ := Aside0.mk (below_step (B.bl HB) hb); clear HO_201003 HO_211003 HO224 HO230 BK200 BK210 BK231 HB; have HO_201003 := n0_; have HO_211003 := n1_; have HO224 := n2_; have HO230 := n3_; have BK200 := n4_; have BK210 := n5_; have BK231 := n6_; have HB := n7_; clear n0_ n1_ n2_ n3_ n4_ n5_ n6_ n7_; (try clear hb); (try clear hb2); (try clear hk); (try clear hi); have hcz67_0 : w66.cell? ⟨gb210, 0, none⟩ = some (.int .i64 t204) := B.bc BK210 0; have hcz67_1 : w66.cell? ⟨gb210, 1, none⟩ = some (.int .i64 t205) := B.bc BK210 1; have hcz67_2 : w66.cell? ⟨gb210, 2, none⟩ = some (.int .i64 t206) := B.bc BK210 2; have hcz67_3 : w66.cell? ⟨gb210, 3, none⟩ = some (.slice Ao28 t207.length co28) := B.bc BK210 3; have hfz67_0 := blk_frozen BK210.out 0; have hfz67_1 := blk_frozen BK210.out 1; have hfz67_2 := blk_frozen BK210.out 2; have hfz67_3 := blk_frozen BK210.out 3) | ((with_reducible refine gate_callee (f := 22) rfl ?_); refine goesL_ (some 70) rfl rfl Try.func22 (by kernel_rfl) rfl #[.agg #[.int .i64 t204, .int .i64 t205, .int .i64 t206, .slice Ao28 t220.length co28], .int .i64 1] rfl (by (try simp only [List.map_toArray, List.map_cons, List.map_nil]); first | done | (rw [show t220.length = t207.length from (Kd.R_reads' HO_211003.out).1.symm] <;> rfl) | rfl | (simp only [List.length_drop, List.length_take]; rfl)) ?_; (with_reducible refine (laws_heldImage.calls kj14 t204 t205 t206 _ _ t220 1 t233 _ ?side1 ?side2 A49.out).mono ?_); (case side1 => exact B.kc ((Kd.R_reads' HO_211003.out).2.2)); (case side2 => rw [show t220.length = t207.length from (Kd.R_reads' HO_211003.out).1.symm]; exact (Kd.R_reads' HO_211003.out).2.1); rintro e w68 ⟨rfl, hb⟩; refine ⟨_, rfl, ?_⟩; have n0_ := Aside0.mk (Kd.R_below (B.kr HO_201003) hb); have n1_ := Aside0.mk (Kd.R_below (B.kr HO_211003) hb); have n2_ := Aside0.mk (Kd.R_below (B.kr HO224) hb); have n3_ := Aside0.mk (Kd.R_below (B.kr HO230) hb); have n4_ := Aside0.mk (blk_below (B.kb BK200) hb); have n5_ := Aside0.mk (blk_below (B.kb BK210) hb); have n6_ := Aside0.mk (blk_below (B.kb BK231) hb); have n7_ := Aside0.mk (below_step (B.bl HB) hb); clear HO_201003 HO_211003 HO224 HO230 BK200 BK210 BK231 HB; have HO_201003 := n0_; have HO_211003 := n1_; have HO224 := n2_; have HO230 := n3_; have BK200 := n4_; have BK210 := n5_; have BK231 := n6_; have HB := n7_; clear n0_ n1_ n2_ n3_ n4_ n5_ n6_ n7_; (try clear hb); (try clear hb2); (try clear hk); (try clear hi)))
                go_ret
                exact ⟨by first | rfl | (simp [errW_none, errW_some] <;> rfl) | (simp [*, errW_none, errW_some] <;> rfl), B.bl HB⟩
              rw [if_neg c51] at H
              have c51b0 : (t233 == t219) = false := beq_eq_false_iff_ne.mpr c51
              have c51b1 : (t233 != t219) = true := bne_iff_ne.mpr c51
              obtain rfl := Option.some.inj H
              exact absurd ht_.out (by decide)
            replace c48 := Bool.eq_false_iff.mpr c48
            subst c48
            have H1 : (some false) = some r := by rw [if_neg (show ¬ (false = true) by decide)] at H; exact H
            clear H
            have H := H1
            clear H1
            obtain rfl := Option.some.inj H
            exact absurd ht_.out (by decide)
          rw [if_neg c44] at H
          have c44b0 : (t221 == t219) = false := beq_eq_false_iff_ne.mpr c44
          have c44b1 : (t221 != t219) = true := bne_iff_ne.mpr c44
          obtain rfl := Option.some.inj H
          exact absurd ht_.out (by decide)
    replace c13 := Bool.eq_false_iff.mpr c13
    subst c13
    have H1 : (some false) = some r := by rw [if_neg (show ¬ (false = true) by decide)] at H; exact H
    clear H
    have H := H1
    clear H1
    obtain rfl := Option.some.inj H
    exact absurd ht_.out (by decide)
  replace c10 := Bool.eq_false_iff.mpr c10
  subst c10
  have H1 : (some false) = some r := by rw [if_neg (show ¬ (false = true) by decide)] at H; exact H
  clear H
  have H := H1
  clear H1
  obtain rfl := Option.some.inj H
  exact absurd ht_.out (by decide)

/-- THE ONE PURE STATEMENT of laws_FnExactFillImage: yours. -/
def laws_FnExactFillImage.Pure : Prop := ∀ (a0 : Int) (a1 : Int) (l2 : List Int), (Lit.int .i64 a0).wf = true → (Lit.int .i64 a1).wf = true → l2.length ≤ maxLen → l2.length * 8 ≤ 140737488351232 → (∀ x ∈ l2, (Lit.int .i64 x).wf = true) → ∃ k, laws_FnExactFillImage.f k a0 a1 l2 = some true
theorem laws_FnExactFillImage.walk (P : laws_FnExactFillImage.Pure) (a0 : Int) (a1 : Int) (a2 : Option Addr) (len2 cap2 : Nat) (z2 : List Int) (w : World) (w0 : (Lit.int .i64 a0).wf = true) (w1 : (Lit.int .i64 a1).wf = true) (w2 : (a2 = none ∧ len2 = 0 ∧ cap2 = 0 ∧ z2 = []) ∨ ∃ x, a2 = some x ∧ len2 ≤ cap2 ∧ cap2 ≤ maxLen ∧ z2.length = cap2 ∧ (∀ i, i < z2.length → w.cell? (x.add i) = some (.int .i64 (z2.getD i 0))) ∧ ∀ n ∈ z2, (Lit.int .i64 n).wf = true) (y2 : len2 * 8 ≤ 140737488351232) :
    Calls Try.prog 4 #[.int .i64 a0, .int .i64 a1, .slice a2 len2 cap2] w fun e w' => e = .returned (.bool true) ∧ Below w.heap.size w w' := by
  obtain ⟨l2, rfl, hr2, hm2, hw2, hc2⟩ := ReadsInt.ofRowC w2
  obtain ⟨k, h⟩ := P a0 a1 l2 w0 w1 hm2 y2 hw2
  refine (laws_FnExactFillImage.calls k a0 a1 _ _ l2 true w (Kd.C_of_reads (d := (0 : Int)) (h1 := fun _ => rfl) hr2) hc2 h ⟨rfl⟩).mono ?_
  rintro e w' ⟨rfl, hd⟩
  exact ⟨rfl, hd⟩

end Go.Proofs.Ytegicfkcdmhjgaa.Q
