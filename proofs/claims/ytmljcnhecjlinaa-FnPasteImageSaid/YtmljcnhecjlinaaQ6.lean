-- Written by a program of this session (the kit's printer, with hand-proved contracts for the functions that it does not take).
import Derived.Test.YtmljcnhecjlinaaQ0
import Derived.Test.YtmljcnhecjlinaaQ5
namespace Go.Proofs.Ytmljcnhecjlinaa.Q
open Go.RowKit Go.Proofs.YtmljcnhecjlinaaW.PrintWords Go.Proofs.YtmljcnhecjlinaaW.PrintLast Go.Proofs.YtmljcnhecjlinaaW.PrintMore
attribute [local go_sem] max2_int min2_int max_two min_two max_three min_three max_four min_four   -- for this text's walks alone
set_option linter.unusedVariables false
set_option linter.unusedSimpArgs false

/-! ### spec_spoilImage: function 53 -/
def spec_spoilImage.f (k : Nat) (s0_0 : List Int) (s0_1 : Int) (a1_0 : Int) (a1_1 : Int) (a1_2 : Int) (l1_3 : List Int) : Option (Int × Int × Int × List Int × Int) := (spec_reader_pick.f k s0_0 s0_1 40).bind fun bt309 => (if bt309.1 = 0 then ((spec_reader_one.f k s0_0 bt309.2 (([0, 17, wrap64 (a1_0 + 1)] : List Int))).bind fun bt314 => (some (bt314.1, a1_1, a1_2, l1_3, bt314.2))) else (if bt309.1 = 1 then (if 1 ≤ (l1_3.length : Int) then (some (a1_0, a1_1, a1_2, (l1_3.drop (1 : Int).toNat), bt309.2)) else (none)) else (if bt309.1 = 2 then ((spec_reader_one.f k s0_0 bt309.2 (([(-1), 256] : List Int))).bind fun bt322 => (if 0 < (l1_3.length : Int) then (some (a1_0, a1_1, a1_2, (l1_3.set (0 : Int).toNat bt322.1), bt322.2)) else (none))) else (if bt309.1 = 3 then ((spec_reader_one.f k s0_0 bt309.2 (([0, 5] : List Int))).bind fun bt328 => (some (a1_0, a1_1, bt328.1, l1_3, bt328.2))) else (some (a1_0, a1_1, a1_2, l1_3, bt309.2))))))
theorem spec_spoilImage.mono : ∀ a0 a1 a2 a3 a4 a5 k, LeO (spec_spoilImage.f k a0 a1 a2 a3 a4 a5) (spec_spoilImage.f (k + 1) a0 a1 a2 a3 a4 a5) := by
  intro a0 a1 a2 a3 a4 a5 k
  unfold spec_spoilImage.f
  repeat' first
      | (with_reducible exact spec_reader_one.mono _ _ _ _)
      | (with_reducible exact spec_reader_pick.mono _ _ _ _)
      | (with_reducible exact LeO.refl _)
      | (with_reducible exact LeO.none _)
      | (with_reducible refine LeO.ite ?_ ?_)
      | (with_reducible refine LeO.bind ?_ (fun _ => ?_))
      | exact spec_reader_one.mono _ _ _ _
      | exact spec_reader_pick.mono _ _ _ _
      | exact LeO.none _
      | refine LeO.ite ?_ ?_
      | refine LeO.bind ?_ (fun _ => ?_)
set_option maxHeartbeats 8000000 in
set_option maxRecDepth 100000 in
theorem spec_spoilImage.calls (k : Nat) (g : Nat) (s0_0 : List Int) (s0_1 : Int) (a1_0 : Int) (a1_1 : Int) (a1_2 : Int) (P1_3_ : Nat → Prop) (u9000_ : Value) (l1_3 : List Int) (r1 : Int) (r2 : Int) (r3 : Int) (r4 : List Int) (r5 : Int) (w0 w : World) (hI : IsS69 w0 w g s0_0 s0_1) (hB : Below w0.heap.size w0 w) (ho1_3 : Kd.R (Kd.int .i64) 3 w w0.heap.size P1_3_ u9000_ l1_3) (h : spec_spoilImage.f k s0_0 s0_1 a1_0 a1_1 a1_2 l1_3 = some (r1, r2, r3, r4, r5)) :
    Calls Try.prog 53 #[.pointer (some ⟨g, 0, none⟩), .agg #[.int .i64 a1_0, .int .i64 a1_1, .int .i64 a1_2, u9000_]] w fun e w' => ∃ v3_ : Value, e = .returned (.agg #[.int .i64 r1, .int .i64 r2, .int .i64 r3, v3_]) ∧ Kd.Q (Kd.int .i64) 3 w' w0.heap.size (fun k_ => (P1_3_ k_ ∨ w.heap.size ≤ k_)) v3_ r4 ∧ IsS69 w0 w' g s0_0 r5 ∧ Below w0.heap.size w0 w' ∧ Kept w w' (fun k_ => (P1_3_ k_) ∨ k_ = g) := by
  have hu28 := Try.underlying28
  have HO1_3 := Aside0.mk (show Kd.R (Kd.int .i64) 3 w w0.heap.size (fun k_ => (P1_3_ k_ ∨ w.heap.size ≤ k_)) u9000_ l1_3 from Kd.R_mono ho1_3 (fun k_ hk => (.inl hk)))
  have HI0 := Aside0.mk hI
  have HL := Aside0.mk hB.size
  clear hI
  have HK := Aside0.mk (Kept.refl w (fun k_ => (P1_3_ k_) ∨ k_ = g))
  have HW0 := Aside0.mk hB.size
  have HB := Aside0.mk hB
  clear hB
  have H : ((spec_reader_pick.f k s0_0 s0_1 40).bind fun bt309 => (if bt309.1 = 0 then ((spec_reader_one.f k s0_0 bt309.2 (([0, 17, wrap64 (a1_0 + 1)] : List Int))).bind fun bt314 => (some (bt314.1, a1_1, a1_2, l1_3, bt314.2))) else (if bt309.1 = 1 then (if 1 ≤ (l1_3.length : Int) then (some (a1_0, a1_1, a1_2, (l1_3.drop (1 : Int).toNat), bt309.2)) else (none)) else (if bt309.1 = 2 then ((spec_reader_one.f k s0_0 bt309.2 (([(-1), 256] : List Int))).bind fun bt322 => (if 0 < (l1_3.length : Int) then (some (a1_0, a1_1, a1_2, (l1_3.set (0 : Int).toNat bt322.1), bt322.2)) else (none))) else (if bt309.1 = 3 then ((spec_reader_one.f k s0_0 bt309.2 (([0, 5] : List Int))).bind fun bt328 => (some (a1_0, a1_1, bt328.1, l1_3, bt328.2))) else (some (a1_0, a1_1, a1_2, l1_3, bt309.2))))))) = some (r1, r2, r3, r4, r5) := h
  clear h
  replace H := Option.bind_eq_some_iff.mp H
  obtain ⟨⟨t309, t310⟩, A30, H⟩ := H
  replace H : (if t309 = 0 then ((spec_reader_one.f k s0_0 t310 (([0, 17, wrap64 (a1_0 + 1)] : List Int))).bind fun bt314 => (some (bt314.1, a1_1, a1_2, l1_3, bt314.2))) else (if t309 = 1 then (if 1 ≤ (l1_3.length : Int) then (some (a1_0, a1_1, a1_2, (l1_3.drop (1 : Int).toNat), t310)) else (none)) else (if t309 = 2 then ((spec_reader_one.f k s0_0 t310 (([(-1), 256] : List Int))).bind fun bt322 => (if 0 < (l1_3.length : Int) then (some (a1_0, a1_1, a1_2, (l1_3.set (0 : Int).toNat bt322.1), bt322.2)) else (none))) else (if t309 = 3 then ((spec_reader_one.f k s0_0 t310 (([0, 5] : List Int))).bind fun bt328 => (some (a1_0, a1_1, bt328.1, l1_3, bt328.2))) else (some (a1_0, a1_1, a1_2, l1_3, t310)))))) = some (r1, r2, r3, r4, r5) := H
  have A3 := Aside0.mk A30
  clear A30
  by_cases c4 : t309 = 0
  · rw [if_pos c4] at H
    have c4b0 : (t309 == 0) = true := beq_iff_eq.mpr c4
    have c4b1 : (t309 != 0) = false := bne_eq_false_iff_eq.mpr c4
    clear c4
    obtain ⟨y311, hy311⟩ : ∃ y_ : List Int, y_ = (([0, 17, wrap64 (a1_0 + 1)] : List Int)) := ⟨_, rfl⟩
    replace H : ((spec_reader_one.f k s0_0 t310 y311).bind fun bt314 => (some (bt314.1, a1_1, a1_2, l1_3, bt314.2))) = some (r1, r2, r3, r4, r5) := by first | (rw [hy311]; with_reducible exact H) | (have H2_ := (Option.bind_some _ _).symm.trans H; rw [hy311]; with_reducible exact H2_) | (have H2_ := (Option.bind_some _ _).symm.trans H; with_reducible exact H2_) | with_reducible exact H | (rw [hy311]; exact H) | exact H
    have Ny311 := Aside0.mk hy311
    clear hy311
    replace H := Option.bind_eq_some_iff.mp H
    obtain ⟨⟨t314, t315⟩, A50, H⟩ := H
    replace H : (some (t314, a1_1, a1_2, l1_3, t315)) = some (r1, r2, r3, r4, r5) := H
    have A5 := Aside0.mk A50
    clear A50
    simp only [Option.some.injEq, Prod.mk.injEq] at H
    obtain ⟨rfl, rfl, rfl, rfl, rfl⟩ := H
    obtain ⟨Ao6, co6, eo6⟩ := Kd.R_slice HO1_3.out
    subst eo6
    go_enter Try.func53, Try.ntmps53
    go_wp2_with (first | ((with_reducible refine gate_dst (N := 3) rfl ?_); refine box_event ?hg (N := 3) ?hd (cs := #[.int .i64 a1_0, .int .i64 a1_1, .int .i64 a1_2, .slice Ao6 l1_3.length co6]) (t := 28) ?hr ?_; (case hd => rfl); (case hg => rfl); (case hr => first | (go_simp; done) | (go_simp; rfl)); intro gb307 hg w7 hbox hb; have n0_ := Aside0.mk (Kd.R_below (B.kr HO1_3) hb); have n1_ := Aside0.mk (IsS69.below (B.st HI0) hb); have n2_ := Aside0.mk (Kept.below (S := (fun k_ => (P1_3_ k_) ∨ k_ = g)) (by repeat (first | (with_reducible first | exact HK.out | apply Kept.alloc | apply Kept.drewN | apply Kept.drew | refine Kept.setCell ?_ (.inl (.inr rfl)) _) | exact HK.out)) hb); have n3_ := Aside0.mk (below_step (B.bs HB) hb); have n4_ := Aside0.mk (hbox); have n5_ := Aside0.mk ((by rw [hg]; exact (by first | exact HK.out.1 | exact (show Kept w _ (fun k_ => (P1_3_ k_) ∨ k_ = g) from by repeat (first | (with_reducible first | exact HK.out | apply Kept.alloc | apply Kept.drewN | apply Kept.drew | refine Kept.setCell ?_ (.inl (.inr rfl)) _) | exact HK.out)).1) : w.heap.size ≤ gb307)); have n6_ := Aside0.mk ((by rw [hg]; exact (below_size (B.bs HB)) : w0.heap.size ≤ gb307)); have n7_ := Aside0.mk ((by rw [hg]; exact Nat.ne_of_lt (IsS69.lt (show IsS69 w0 _ g s0_0 s0_1 from B.st HI0)) : g ≠ gb307)); have n8_ := Aside0.mk ((by rw [hg]; exact Nat.ne_of_gt (IsS69.lt (show IsS69 w0 _ g s0_0 s0_1 from B.st HI0)) : gb307 ≠ g)); clear HO1_3 HI0 HK HB; have HO1_3 := n0_; have HI0 := n1_; have HK := n2_; have HB := n3_; have BK307 := n4_; have GW307 := n5_; have GE307 := n6_; have NB0_307 := n7_; have NB307_0 := n8_; clear n0_ n1_ n2_ n3_ n4_ n5_ n6_ n7_ n8_; clear hb hbox hg) | ((with_reducible refine gate_dst (N := 4) rfl ?_); refine box_event ?hg (N := 4) ?hd (cs := #[.int .i64 0, .int .i64 0, .int .i64 0, .slice none 0 0]) (t := 28) ?hr ?_; (case hd => rfl); (case hg => rfl); (case hr => first | (go_simp; done) | (go_simp; rfl)); intro gb308 hg w8 hbox hb; have n0_ := Aside0.mk (Kd.R_below (B.kr HO1_3) hb); have n1_ := Aside0.mk (IsS69.below (B.st HI0) hb); have n2_ := Aside0.mk (blk_below (B.kb BK307) hb); have n3_ := Aside0.mk (Kept.below (S := (fun k_ => (P1_3_ k_) ∨ k_ = g)) (by repeat (first | (with_reducible first | exact HK.out | apply Kept.alloc | apply Kept.drewN | apply Kept.drew | refine Kept.setCell ?_ (.inl (.inr rfl)) _ | refine Kept.setCell ?_ (.inr GW307.out) _) | exact HK.out)) hb); have n4_ := Aside0.mk (below_step (B.bs HB) hb); have n5_ := Aside0.mk (hbox); have n6_ := Aside0.mk ((by rw [hg]; exact (by first | exact HK.out.1 | exact (show Kept w _ (fun k_ => (P1_3_ k_) ∨ k_ = g) from by repeat (first | (with_reducible first | exact HK.out | apply Kept.alloc | apply Kept.drewN | apply Kept.drew | refine Kept.setCell ?_ (.inl (.inr rfl)) _ | refine Kept.setCell ?_ (.inr GW307.out) _) | exact HK.out)).1) : w.heap.size ≤ gb308)); have n7_ := Aside0.mk ((by rw [hg]; exact (below_size (B.bs HB)) : w0.heap.size ≤ gb308)); have n8_ := Aside0.mk (B.nlt hg (blk_lt (B.kb BK307))); have n9_ := Aside0.mk (B.ngt hg (blk_lt (B.kb BK307))); have n10_ := Aside0.mk ((by rw [hg]; exact Nat.ne_of_lt (IsS69.lt (show IsS69 w0 _ g s0_0 s0_1 from B.st HI0)) : g ≠ gb308)); have n11_ := Aside0.mk ((by rw [hg]; exact Nat.ne_of_gt (IsS69.lt (show IsS69 w0 _ g s0_0 s0_1 from B.st HI0)) : gb308 ≠ g)); clear HO1_3 HI0 BK307 HK HB; have HO1_3 := n0_; have HI0 := n1_; have BK307 := n2_; have HK := n3_; have HB := n4_; have BK308 := n5_; have GW308 := n6_; have GE308 := n7_; have NB307_308 := n8_; have NB308_307 := n9_; have NB0_308 := n10_; have NB308_0 := n11_; clear n0_ n1_ n2_ n3_ n4_ n5_ n6_ n7_ n8_ n9_ n10_ n11_; clear hb hbox hg) | ((with_reducible refine gate_callee (f := 45) rfl ?_); refine goesL_ (some 6) rfl rfl Try.func45 (by kernel_rfl) rfl #[.pointer (some ⟨g, 0, none⟩), .int .i64 40] rfl B.am ?_; (with_reducible refine (spec_reader_pick.calls k g s0_0 s0_1 40 t309 t310 w0 _ ?side1 ?side2 A3.out).mono ?_); (case side1 => exact B.st HI0); (case side2 => exact B.bs HB); rintro e w9 ⟨rfl, hi, hb, hk⟩; refine ⟨_, rfl, ?_⟩; have n0_ := Aside0.mk (Kd.R_mono (Kd.R_keep (IsS69.apart (show IsS69 w0 _ g s0_0 s0_1 from B.st HI0) (B.kr HO1_3) (by decide)) hk (fun _ h => h.2)) (fun _ h => h.1)); have n1_ := Aside0.mk (KeepBut.blk hk (g' := gb307) (o := .cells #[.int .i64 a1_0, .int .i64 a1_1, .int .i64 a1_2, .slice Ao6 l1_3.length co6] 28 (0, 0)) (B.kb BK307) NB307_0.out (by simp)); have n2_ := Aside0.mk (KeepBut.blk hk (g' := gb308) (o := .cells #[.int .i64 0, .int .i64 0, .int .i64 0, .slice none 0 0] 28 (0, 0)) (B.kb BK308) NB308_0.out (by simp)); have n3_ := Aside0.mk (Kept.of_keep (S := (fun k_ => (P1_3_ k_) ∨ k_ = g)) (by repeat (first | (with_reducible first | exact HK.out | apply Kept.alloc | apply Kept.drewN | apply Kept.drew | refine Kept.setCell ?_ (.inl (.inr rfl)) _ | refine Kept.setCell ?_ (.inr GW307.out) _ | refine Kept.setCell ?_ (.inr GW308.out) _) | exact HK.out)) hk (.inl (.inr rfl))); have n4_ := Aside0.mk (hb); have n5_ := Aside0.mk (hi); clear HO1_3 BK307 BK308 HK HB HI0; have HO1_3 := n0_; have BK307 := n1_; have BK308 := n2_; have HK := n3_; have HB := n4_; have HI0 := n5_; clear n0_ n1_ n2_ n3_ n4_ n5_; (try clear hb); (try clear hb2); (try clear hk); (try clear hi); have hnb10 := NB307_308.out; have hnc10 := NB308_307.out; have hnb11 := NB307_0.out; have hnc11 := NB0_307.out; have hcz12_0 : w9.cell? ⟨gb307, 0, none⟩ = some (.int .i64 a1_0) := B.bc BK307 0; have hcz12_1 : w9.cell? ⟨gb307, 1, none⟩ = some (.int .i64 a1_1) := B.bc BK307 1; have hcz12_2 : w9.cell? ⟨gb307, 2, none⟩ = some (.int .i64 a1_2) := B.bc BK307 2; have hcz12_3 : w9.cell? ⟨gb307, 3, none⟩ = some (.slice Ao6 l1_3.length co6) := B.bc BK307 3; have hfz12_0 := blk_frozen BK307.out 0; have hfz12_1 := blk_frozen BK307.out 1; have hfz12_2 := blk_frozen BK307.out 2; have hfz12_3 := blk_frozen BK307.out 3) | ((with_reducible refine gate_dst (N := 13) rfl ?_); refine Kd.R_lit (Kd.int .i64) _ 3 ?hg (N := 13) ?hd (xs := ([0, 17, wrap64 (a1_0 + 1)] : List Int)) (inner := [.int .i64 0, .int .i64 17, .int .i64 (wrap64 (a1_0 + 1))]) (ok := fun _ => True) (okp := fun _ => True) ?hr ?hp (fun _ hk => hk) trivial (Below.refl _ _) (Nat.le_refl _) (by simp) ?_; (case hd => rfl); (case hg => rfl); (case hr => first | (go_simp; done) | (go_simp; rfl)); (case hp => exact (Reps.one (show Kd.M (Kd.int .i64) _ _ _ 0 [.int .i64 0] from rfl) (Reps.one (show Kd.M (Kd.int .i64) _ _ _ 17 [.int .i64 17] from rfl) (Reps.one (show Kd.M (Kd.int .i64) _ _ _ (wrap64 (a1_0 + 1)) [.int .i64 (wrap64 (a1_0 + 1))] from rfl) (Reps.none _ _))))); intro v312 w13 ho14 hb hg_ hnew_; clear hg_ hnew_; (first | rw [← Ny311.out] at ho14 | (simp only [Int.reduceToNat] at ho14; rw [← Ny311.out] at ho14)); have n0_ := Aside0.mk (Kd.R_elder' (B.kr HO1_3) (Kd.R_base ho14) hb); have n1_ := Aside0.mk (Kd.R_lower (Kd.R_new' (Kd.R_newM (M := fun k_ => (P1_3_ k_ ∨ w.heap.size ≤ k_)) ho14 (by first | exact HK.out.1 | exact (show Kept w _ (fun k_ => (P1_3_ k_) ∨ k_ = g) from by repeat (first | (with_reducible first | exact HK.out | apply Kept.alloc | apply Kept.drewN | apply Kept.drew | refine Kept.setCell ?_ (.inl (.inr rfl)) _ | refine Kept.setCell ?_ (.inr GW307.out) _ | refine Kept.setCell ?_ (.inr GW308.out) _) | exact HK.out)).1) (fun k_ h_ => .inr h_)) (Kd.R_lt (B.kr HO1_3))) (below_size (B.bs HB))); have n2_ := Aside0.mk (IsS69.below (B.st HI0) hb); have n3_ := Aside0.mk (blk_below (B.kb BK307) hb); have n4_ := Aside0.mk (blk_below (B.kb BK308) hb); have n5_ := Aside0.mk (Kept.below (S := (fun k_ => (P1_3_ k_) ∨ k_ = g)) (by repeat (first | (with_reducible first | exact HK.out | apply Kept.alloc | apply Kept.drewN | apply Kept.drew | refine Kept.setCell ?_ (.inl (.inr rfl)) _ | refine Kept.setCell ?_ (.inr GW307.out) _ | refine Kept.setCell ?_ (.inr GW308.out) _) | exact HK.out)) hb); have n6_ := Aside0.mk (below_step (B.bs HB) hb); clear HO1_3 HI0 BK307 BK308 HK HB; have HO1_3 := n0_; have HO313 := n1_; have HI0 := n2_; have BK307 := n3_; have BK308 := n4_; have HK := n5_; have HB := n6_; clear n0_ n1_ n2_ n3_ n4_ n5_ n6_; clear hb ho14; obtain ⟨Ao15, co15, eo15⟩ := Kd.R_slice HO313.out; subst eo15) | ((with_reducible refine gate_callee (f := 43) rfl ?_); refine goesL_ (some 14) rfl rfl Try.func43 (by kernel_rfl) rfl #[.pointer (some ⟨g, 0, none⟩), .slice Ao15 y311.length co15] rfl B.am ?_; (with_reducible refine (spec_reader_one.calls k g s0_0 t310 _ _ y311 t314 t315 w0 _ ?side1 ?side2 ?side3 ?side4 ?side5 A5.out).mono ?_); (case side1 => exact B.st HI0); (case side2 => exact B.bs HB); (case side3 => exact B.kc ((Kd.R_reads' HO313.out).2.2)); (case side4 => exact (Kd.R_reads' HO313.out).2.1); (case side5 => exact far_slice (IsS69.own_ne HI0.out HO313.out (by decide))); rintro e w16 ⟨rfl, hi, hb, hk⟩; refine ⟨_, rfl, ?_⟩; have n0_ := Aside0.mk (Kd.R_mono (Kd.R_keep (IsS69.apart (show IsS69 w0 _ g s0_0 t310 from B.st HI0) (B.kr HO1_3) (by decide)) hk (fun _ h => h.2)) (fun _ h => h.1)); have n1_ := Aside0.mk (KeepBut.blk hk (g' := gb307) (o := .cells #[.int .i64 a1_0, .int .i64 a1_1, .int .i64 a1_2, .slice Ao6 l1_3.length co6] 28 (0, 0)) (B.kb BK307) NB307_0.out (by simp)); have n2_ := Aside0.mk (KeepBut.blk hk (g' := gb308) (o := .cells #[.int .i64 0, .int .i64 0, .int .i64 0, .slice none 0 0] 28 (0, 0)) (B.kb BK308) NB308_0.out (by simp)); have n3_ := Aside0.mk (Kd.R_mono (Kd.R_keep (IsS69.apart (show IsS69 w0 _ g s0_0 t310 from B.st HI0) (B.kr HO313) (by decide)) hk (fun _ h => h.2)) (fun _ h => h.1)); have n4_ := Aside0.mk (Kept.of_keep (S := (fun k_ => (P1_3_ k_) ∨ k_ = g)) (by repeat (first | (with_reducible first | exact HK.out | apply Kept.alloc | apply Kept.drewN | apply Kept.drew | refine Kept.setCell ?_ (.inl (.inr rfl)) _ | refine Kept.setCell ?_ (.inr GW307.out) _ | refine Kept.setCell ?_ (.inr GW308.out) _) | exact HK.out)) hk (.inl (.inr rfl))); have n5_ := Aside0.mk (hb); have n6_ := Aside0.mk (hi); clear HO1_3 BK307 BK308 HO313 HK HB HI0; have HO1_3 := n0_; have BK307 := n1_; have BK308 := n2_; have HO313 := n3_; have HK := n4_; have HB := n5_; have HI0 := n6_; clear n0_ n1_ n2_ n3_ n4_ n5_ n6_; (try clear hb); (try clear hb2); (try clear hk); (try clear hi); have hcz17_0 : w16.cell? ⟨gb307, 0, none⟩ = some (.int .i64 a1_0) := B.bc BK307 0; have hcz17_1 : w16.cell? ⟨gb307, 1, none⟩ = some (.int .i64 a1_1) := B.bc BK307 1; have hcz17_2 : w16.cell? ⟨gb307, 2, none⟩ = some (.int .i64 a1_2) := B.bc BK307 2; have hcz17_3 : w16.cell? ⟨gb307, 3, none⟩ = some (.slice Ao6 l1_3.length co6) := B.bc BK307 3; have hfz17_0 := blk_frozen BK307.out 0; have hfz17_1 := blk_frozen BK307.out 1; have hfz17_2 := blk_frozen BK307.out 2; have hfz17_3 := blk_frozen BK307.out 3; have hnb18 := NB308_0.out; have hnc18 := NB0_308.out; have hcz19_0 : w16.cell? ⟨gb308, 0, none⟩ = some (.int .i64 0) := B.bc BK308 0; have hcz19_1 : w16.cell? ⟨gb308, 1, none⟩ = some (.int .i64 0) := B.bc BK308 1; have hcz19_2 : w16.cell? ⟨gb308, 2, none⟩ = some (.int .i64 0) := B.bc BK308 2; have hcz19_3 : w16.cell? ⟨gb308, 3, none⟩ = some (.slice none 0 0) := B.bc BK308 3; have hfz19_0 := blk_frozen BK308.out 0; have hfz19_1 := blk_frozen BK308.out 1; have hfz19_2 := blk_frozen BK308.out 2; have hfz19_3 := blk_frozen BK308.out 3))
    refine bodyPost_ret (results_cell_row rfl _ _ gb308 28 #[.int .i64 t314, .int .i64 a1_1, .int .i64 a1_2, .slice Ao6 l1_3.length co6] (0, 0) _ rfl (by (with_reducible repeat (first | refine blk_drewN ?_ _ | refine blk_drew ?_ | refine blk_alloc ?_ _)); refine blk_put (cs := #[.int .i64 t314, .int .i64 a1_1, .int .i64 a1_2, .slice none 0 0]) ?_ 3 _ rfl; (with_reducible repeat (first | refine blk_drewN ?_ _ | refine blk_drew ?_ | refine blk_alloc ?_ _)); refine blk_put (cs := #[.int .i64 t314, .int .i64 a1_1, .int .i64 0, .slice none 0 0]) ?_ 2 _ rfl; (with_reducible repeat (first | refine blk_drewN ?_ _ | refine blk_drew ?_ | refine blk_alloc ?_ _)); refine blk_put (cs := #[.int .i64 t314, .int .i64 0, .int .i64 0, .slice none 0 0]) ?_ 1 _ rfl; (with_reducible repeat (first | refine blk_drewN ?_ _ | refine blk_drew ?_ | refine blk_alloc ?_ _)); refine blk_put (cs := #[.int .i64 0, .int .i64 0, .int .i64 0, .slice none 0 0]) ?_ 0 _ rfl; (with_reducible repeat (first | refine blk_drewN ?_ _ | refine blk_drew ?_ | refine blk_alloc ?_ _)); refine blk_far ?_ NB308_307.out _; (with_reducible repeat (first | refine blk_drewN ?_ _ | refine blk_drew ?_ | refine blk_alloc ?_ _)); exact BK308.out) Try.underlying28 rfl (by kernel_rfl)) rfl ?_
    exact ⟨_, by first | rfl | (simp [errW_none, errW_some] <;> rfl) | (simp [*, errW_none, errW_some] <;> rfl), Kd.Q_of_R (B.kr0 (Kd.R_mono (Kd.R_far (p := ⟨gb308, 3, none⟩) (Kd.R_far (p := ⟨gb308, 2, none⟩) (Kd.R_far (p := ⟨gb308, 1, none⟩) (Kd.R_far (p := ⟨gb308, 0, none⟩) (Kd.R_far (p := ⟨gb307, 0, none⟩) (Kd.R_types (Kd.R_types HO1_3.out BK307.out (by decide)) BK308.out (by decide)) (fun _ hk => hk.1.2) (.int .i64 t314)) (fun _ hk => hk.2) (.int .i64 t314)) (fun _ hk => hk.2) (.int .i64 a1_1)) (fun _ hk => hk.2) (.int .i64 a1_2)) (fun _ hk => hk.2) (.slice Ao6 l1_3.length co6)) (fun _ hk => hk.1.1.1))), B.st HI0, B.bs HB, by repeat (first | (with_reducible first | exact HK.out | apply Kept.alloc | apply Kept.drewN | apply Kept.drew | refine Kept.setCell ?_ (.inl (.inr rfl)) _ | refine Kept.setCell ?_ (.inr GW307.out) _ | refine Kept.setCell ?_ (.inr GW308.out) _) | exact HK.out)⟩
  rw [if_neg c4] at H
  have c4b0 : (t309 == 0) = false := beq_eq_false_iff_ne.mpr c4
  have c4b1 : (t309 != 0) = true := bne_iff_ne.mpr c4
  by_cases c20 : t309 = 1
  · rw [if_pos c20] at H
    have c20b0 : (t309 == 1) = true := beq_iff_eq.mpr c20
    have c20b1 : (t309 != 1) = false := bne_eq_false_iff_eq.mpr c20
    clear c20
    by_cases c21 : 1 ≤ (l1_3.length : Int)
    · rw [if_pos c21] at H
      have c21b0 := eq_true c21
      have c21b1 : decide (1 ≤ (l1_3.length : Int)) = true := decide_eq_true c21
      clear c21
      obtain ⟨y316, hy316⟩ : ∃ y_ : List Int, y_ = (l1_3.drop (1 : Int).toNat) := ⟨_, rfl⟩
      replace H : (some (a1_0, a1_1, a1_2, y316, t310)) = some (r1, r2, r3, r4, r5) := by first | (rw [hy316]; with_reducible exact H) | (have H2_ := (Option.bind_some _ _).symm.trans H; rw [hy316]; with_reducible exact H2_) | (have H2_ := (Option.bind_some _ _).symm.trans H; with_reducible exact H2_) | with_reducible exact H | (rw [hy316]; exact H) | exact H
      have Ny316 := Aside0.mk hy316
      clear hy316
      simp only [Option.some.injEq, Prod.mk.injEq] at H
      obtain ⟨rfl, rfl, rfl, rfl, rfl⟩ := H
      obtain ⟨Ao22, co22, eo22⟩ := Kd.R_slice HO1_3.out
      subst eo22
      go_enter Try.func53, Try.ntmps53
      go_wp2_with (first | ((with_reducible refine gate_dst (N := 3) rfl ?_); refine box_event ?hg (N := 3) ?hd (cs := #[.int .i64 a1_0, .int .i64 a1_1, .int .i64 a1_2, .slice Ao22 l1_3.length co22]) (t := 28) ?hr ?_; (case hd => rfl); (case hg => rfl); (case hr => first | (go_simp; done) | (go_simp; rfl)); intro gb307 hg w23 hbox hb; have n0_ := Aside0.mk (Kd.R_below (B.kr HO1_3) hb); have n1_ := Aside0.mk (IsS69.below (B.st HI0) hb); have n2_ := Aside0.mk (Kept.below (S := (fun k_ => (P1_3_ k_) ∨ k_ = g)) (by repeat (first | (with_reducible first | exact HK.out | apply Kept.alloc | apply Kept.drewN | apply Kept.drew | refine Kept.setCell ?_ (.inl (.inr rfl)) _) | exact HK.out)) hb); have n3_ := Aside0.mk (below_step (B.bs HB) hb); have n4_ := Aside0.mk (hbox); have n5_ := Aside0.mk ((by rw [hg]; exact (by first | exact HK.out.1 | exact (show Kept w _ (fun k_ => (P1_3_ k_) ∨ k_ = g) from by repeat (first | (with_reducible first | exact HK.out | apply Kept.alloc | apply Kept.drewN | apply Kept.drew | refine Kept.setCell ?_ (.inl (.inr rfl)) _) | exact HK.out)).1) : w.heap.size ≤ gb307)); have n6_ := Aside0.mk ((by rw [hg]; exact (below_size (B.bs HB)) : w0.heap.size ≤ gb307)); have n7_ := Aside0.mk ((by rw [hg]; exact Nat.ne_of_lt (IsS69.lt (show IsS69 w0 _ g s0_0 s0_1 from B.st HI0)) : g ≠ gb307)); have n8_ := Aside0.mk ((by rw [hg]; exact Nat.ne_of_gt (IsS69.lt (show IsS69 w0 _ g s0_0 s0_1 from B.st HI0)) : gb307 ≠ g)); clear HO1_3 HI0 HK HB; have HO1_3 := n0_; have HI0 := n1_; have HK := n2_; have HB := n3_; have BK307 := n4_; have GW307 := n5_; have GE307 := n6_; have NB0_307 := n7_; have NB307_0 := n8_; clear n0_ n1_ n2_ n3_ n4_ n5_ n6_ n7_ n8_; clear hb hbox hg) | ((with_reducible refine gate_dst (N := 4) rfl ?_); refine box_event ?hg (N := 4) ?hd (cs := #[.int .i64 0, .int .i64 0, .int .i64 0, .slice none 0 0]) (t := 28) ?hr ?_; (case hd => rfl); (case hg => rfl); (case hr => first | (go_simp; done) | (go_simp; rfl)); intro gb308 hg w24 hbox hb; have n0_ := Aside0.mk (Kd.R_below (B.kr HO1_3) hb); have n1_ := Aside0.mk (IsS69.below (B.st HI0) hb); have n2_ := Aside0.mk (blk_below (B.kb BK307) hb); have n3_ := Aside0.mk (Kept.below (S := (fun k_ => (P1_3_ k_) ∨ k_ = g)) (by repeat (first | (with_reducible first | exact HK.out | apply Kept.alloc | apply Kept.drewN | apply Kept.drew | refine Kept.setCell ?_ (.inl (.inr rfl)) _ | refine Kept.setCell ?_ (.inr GW307.out) _) | exact HK.out)) hb); have n4_ := Aside0.mk (below_step (B.bs HB) hb); have n5_ := Aside0.mk (hbox); have n6_ := Aside0.mk ((by rw [hg]; exact (by first | exact HK.out.1 | exact (show Kept w _ (fun k_ => (P1_3_ k_) ∨ k_ = g) from by repeat (first | (with_reducible first | exact HK.out | apply Kept.alloc | apply Kept.drewN | apply Kept.drew | refine Kept.setCell ?_ (.inl (.inr rfl)) _ | refine Kept.setCell ?_ (.inr GW307.out) _) | exact HK.out)).1) : w.heap.size ≤ gb308)); have n7_ := Aside0.mk ((by rw [hg]; exact (below_size (B.bs HB)) : w0.heap.size ≤ gb308)); have n8_ := Aside0.mk (B.nlt hg (blk_lt (B.kb BK307))); have n9_ := Aside0.mk (B.ngt hg (blk_lt (B.kb BK307))); have n10_ := Aside0.mk ((by rw [hg]; exact Nat.ne_of_lt (IsS69.lt (show IsS69 w0 _ g s0_0 s0_1 from B.st HI0)) : g ≠ gb308)); have n11_ := Aside0.mk ((by rw [hg]; exact Nat.ne_of_gt (IsS69.lt (show IsS69 w0 _ g s0_0 s0_1 from B.st HI0)) : gb308 ≠ g)); clear HO1_3 HI0 BK307 HK HB; have HO1_3 := n0_; have HI0 := n1_; have BK307 := n2_; have HK := n3_; have HB := n4_; have BK308 := n5_; have GW308 := n6_; have GE308 := n7_; have NB307_308 := n8_; have NB308_307 := n9_; have NB0_308 := n10_; have NB308_0 := n11_; clear n0_ n1_ n2_ n3_ n4_ n5_ n6_ n7_ n8_ n9_ n10_ n11_; clear hb hbox hg) | ((with_reducible refine gate_callee (f := 45) rfl ?_); refine goesL_ (some 6) rfl rfl Try.func45 (by kernel_rfl) rfl #[.pointer (some ⟨g, 0, none⟩), .int .i64 40] rfl B.am ?_; (with_reducible refine (spec_reader_pick.calls k g s0_0 s0_1 40 t309 t310 w0 _ ?side1 ?side2 A3.out).mono ?_); (case side1 => exact B.st HI0); (case side2 => exact B.bs HB); rintro e w25 ⟨rfl, hi, hb, hk⟩; refine ⟨_, rfl, ?_⟩; have n0_ := Aside0.mk (Kd.R_mono (Kd.R_keep (IsS69.apart (show IsS69 w0 _ g s0_0 s0_1 from B.st HI0) (B.kr HO1_3) (by decide)) hk (fun _ h => h.2)) (fun _ h => h.1)); have n1_ := Aside0.mk (KeepBut.blk hk (g' := gb307) (o := .cells #[.int .i64 a1_0, .int .i64 a1_1, .int .i64 a1_2, .slice Ao22 l1_3.length co22] 28 (0, 0)) (B.kb BK307) NB307_0.out (by simp)); have n2_ := Aside0.mk (KeepBut.blk hk (g' := gb308) (o := .cells #[.int .i64 0, .int .i64 0, .int .i64 0, .slice none 0 0] 28 (0, 0)) (B.kb BK308) NB308_0.out (by simp)); have n3_ := Aside0.mk (Kept.of_keep (S := (fun k_ => (P1_3_ k_) ∨ k_ = g)) (by repeat (first | (with_reducible first | exact HK.out | apply Kept.alloc | apply Kept.drewN | apply Kept.drew | refine Kept.setCell ?_ (.inl (.inr rfl)) _ | refine Kept.setCell ?_ (.inr GW307.out) _ | refine Kept.setCell ?_ (.inr GW308.out) _) | exact HK.out)) hk (.inl (.inr rfl))); have n4_ := Aside0.mk (hb); have n5_ := Aside0.mk (hi); clear HO1_3 BK307 BK308 HK HB HI0; have HO1_3 := n0_; have BK307 := n1_; have BK308 := n2_; have HK := n3_; have HB := n4_; have HI0 := n5_; clear n0_ n1_ n2_ n3_ n4_ n5_; (try clear hb); (try clear hb2); (try clear hk); (try clear hi); have hnb26 := NB307_308.out; have hnc26 := NB308_307.out; have hnb27 := NB307_0.out; have hnc27 := NB0_307.out; have hcz28_0 : w25.cell? ⟨gb307, 0, none⟩ = some (.int .i64 a1_0) := B.bc BK307 0; have hcz28_1 : w25.cell? ⟨gb307, 1, none⟩ = some (.int .i64 a1_1) := B.bc BK307 1; have hcz28_2 : w25.cell? ⟨gb307, 2, none⟩ = some (.int .i64 a1_2) := B.bc BK307 2; have hcz28_3 : w25.cell? ⟨gb307, 3, none⟩ = some (.slice Ao22 l1_3.length co22) := B.bc BK307 3; have hfz28_0 := blk_frozen BK307.out 0; have hfz28_1 := blk_frozen BK307.out 1; have hfz28_2 := blk_frozen BK307.out 2; have hfz28_3 := blk_frozen BK307.out 3; have q29 : (1 : Int) ≤ ((l1_3.length : Int) : Int) := of_decide_eq_true (by first | (with_reducible assumption) | assumption); obtain ⟨i029, hi029, _, hsz29, _⟩ := info_parts info3; have hcut29 := cut_from (P := Try.prog) 22 3 .i64 Try.underlying22 hi029 1 hsz29 Ao22 l1_3.length co22 1 (by omega) q29; have hr29 := Kd.Q_drop (k := (1 : Int).toNat) (Kd.Q_of_R HO1_3.out) (by omega); obtain ⟨A29, hA29⟩ : ∃ A1, A1 = (if co22 = (1 : Int).toNat then Ao22 else (Ao22 : Option Addr).map (·.add ((1 : Int).toNat * 1))) := ⟨_, rfl⟩; obtain ⟨c29, hc29⟩ : ∃ c1, c1 = co22 - (1 : Int).toNat := ⟨_, rfl⟩; have hy29 : y316.length = l1_3.length - (1 : Int).toNat := (by rw [Ny316.out, List.length_drop]); rw [← Ny316.out] at hr29; rw [← hy29, ← hA29, ← hc29] at hcut29; replace hr29 : Kd.Q (Kd.int .i64) 3 w25 w0.heap.size (fun k_ => (P1_3_ k_ ∨ w.heap.size ≤ k_)) (.slice A29 y316.length c29) y316 := (by rw [hA29, hc29, hy29]; exact hr29); have HE29 : Aside0 ((Value.slice A29 y316.length c29).ownBlock = (.slice Ao22 l1_3.length co22 : Value).ownBlock) := ⟨by rw [hA29]; split <;> (cases (Ao22 : Option Addr) <;> rfl)⟩; clear hy29 hi029 hsz29 HO1_3 hA29 hc29; have HO318 := Aside0.mk hr29; clear hr29; replace q29 := eq_true q29; have hnb30 := NB308_0.out; have hnc30 := NB0_308.out; have hcz31_0 : w25.cell? ⟨gb308, 0, none⟩ = some (.int .i64 0) := B.bc BK308 0; have hcz31_1 : w25.cell? ⟨gb308, 1, none⟩ = some (.int .i64 0) := B.bc BK308 1; have hcz31_2 : w25.cell? ⟨gb308, 2, none⟩ = some (.int .i64 0) := B.bc BK308 2; have hcz31_3 : w25.cell? ⟨gb308, 3, none⟩ = some (.slice none 0 0) := B.bc BK308 3; have hfz31_0 := blk_frozen BK308.out 0; have hfz31_1 := blk_frozen BK308.out 1; have hfz31_2 := blk_frozen BK308.out 2; have hfz31_3 := blk_frozen BK308.out 3))
      refine bodyPost_ret (results_cell_row rfl _ _ gb308 28 #[.int .i64 a1_0, .int .i64 a1_1, .int .i64 a1_2, .slice A29 y316.length c29] (0, 0) _ rfl (by (with_reducible repeat (first | refine blk_drewN ?_ _ | refine blk_drew ?_ | refine blk_alloc ?_ _)); refine blk_put (cs := #[.int .i64 a1_0, .int .i64 a1_1, .int .i64 a1_2, .slice none 0 0]) ?_ 3 _ rfl; (with_reducible repeat (first | refine blk_drewN ?_ _ | refine blk_drew ?_ | refine blk_alloc ?_ _)); refine blk_put (cs := #[.int .i64 a1_0, .int .i64 a1_1, .int .i64 0, .slice none 0 0]) ?_ 2 _ rfl; (with_reducible repeat (first | refine blk_drewN ?_ _ | refine blk_drew ?_ | refine blk_alloc ?_ _)); refine blk_put (cs := #[.int .i64 a1_0, .int .i64 0, .int .i64 0, .slice none 0 0]) ?_ 1 _ rfl; (with_reducible repeat (first | refine blk_drewN ?_ _ | refine blk_drew ?_ | refine blk_alloc ?_ _)); refine blk_put (cs := #[.int .i64 0, .int .i64 0, .int .i64 0, .slice none 0 0]) ?_ 0 _ rfl; (with_reducible repeat (first | refine blk_drewN ?_ _ | refine blk_drew ?_ | refine blk_alloc ?_ _)); refine blk_far ?_ NB308_307.out _; (with_reducible repeat (first | refine blk_drewN ?_ _ | refine blk_drew ?_ | refine blk_alloc ?_ _)); exact BK308.out) Try.underlying28 rfl (by kernel_rfl)) rfl ?_
      exact ⟨_, by first | rfl | (simp [errW_none, errW_some] <;> rfl) | (simp [*, errW_none, errW_some] <;> rfl), by (with_reducible repeat (first | apply Kd.Q_alloc | apply Kd.Q_drewN | apply Kd.Q_drew)); exact Kd.Q_mono (Kd.Q_far (p := ⟨gb308, 3, none⟩) (Kd.Q_far (p := ⟨gb308, 2, none⟩) (Kd.Q_far (p := ⟨gb308, 1, none⟩) (Kd.Q_far (p := ⟨gb308, 0, none⟩) (Kd.Q_far (p := ⟨gb307, 3, none⟩) (Kd.Q_types (Kd.Q_types HO318.out BK307.out (by decide)) BK308.out (by decide)) (fun _ hk => hk.1.2) (.slice A29 y316.length c29)) (fun _ hk => hk.2) (.int .i64 a1_0)) (fun _ hk => hk.2) (.int .i64 a1_1)) (fun _ hk => hk.2) (.int .i64 a1_2)) (fun _ hk => hk.2) (.slice A29 y316.length c29)) (fun _ hk => hk.1.1), B.st HI0, B.bs HB, by repeat (first | (with_reducible first | exact HK.out | apply Kept.alloc | apply Kept.drewN | apply Kept.drew | refine Kept.setCell ?_ (.inl (.inr rfl)) _ | refine Kept.setCell ?_ (.inr GW307.out) _ | refine Kept.setCell ?_ (.inr GW308.out) _) | exact HK.out)⟩
    rw [if_neg c21] at H
    exact absurd H (by simp)
  rw [if_neg c20] at H
  have c20b0 : (t309 == 1) = false := beq_eq_false_iff_ne.mpr c20
  have c20b1 : (t309 != 1) = true := bne_iff_ne.mpr c20
  by_cases c32 : t309 = 2
  · rw [if_pos c32] at H
    have c32b0 : (t309 == 2) = true := beq_iff_eq.mpr c32
    have c32b1 : (t309 != 2) = false := bne_eq_false_iff_eq.mpr c32
    clear c32
    obtain ⟨y319, hy319⟩ : ∃ y_ : List Int, y_ = (([(-1), 256] : List Int)) := ⟨_, rfl⟩
    replace H : ((spec_reader_one.f k s0_0 t310 y319).bind fun bt322 => (if 0 < (l1_3.length : Int) then (some (a1_0, a1_1, a1_2, (l1_3.set (0 : Int).toNat bt322.1), bt322.2)) else (none))) = some (r1, r2, r3, r4, r5) := by first | (rw [hy319]; with_reducible exact H) | (have H2_ := (Option.bind_some _ _).symm.trans H; rw [hy319]; with_reducible exact H2_) | (have H2_ := (Option.bind_some _ _).symm.trans H; with_reducible exact H2_) | with_reducible exact H | (rw [hy319]; exact H) | exact H
    have Ny319 := Aside0.mk hy319
    clear hy319
    replace H := Option.bind_eq_some_iff.mp H
    obtain ⟨⟨t322, t323⟩, A330, H⟩ := H
    replace H : (if 0 < (l1_3.length : Int) then (some (a1_0, a1_1, a1_2, (l1_3.set (0 : Int).toNat t322), t323)) else (none)) = some (r1, r2, r3, r4, r5) := H
    have A33 := Aside0.mk A330
    clear A330
    by_cases c34 : 0 < (l1_3.length : Int)
    · rw [if_pos c34] at H
      have c34b0 : decide (0 < (l1_3.length : Int)) = true := decide_eq_true c34
      have c34b1 : decide (0 < l1_3.length) = true := decide_eq_true (by omega)
      clear c34
      obtain ⟨y324, hy324⟩ : ∃ y_ : List Int, y_ = (l1_3.set (0 : Int).toNat t322) := ⟨_, rfl⟩
      replace H : (some (a1_0, a1_1, a1_2, y324, t323)) = some (r1, r2, r3, r4, r5) := by first | (rw [hy324]; with_reducible exact H) | (have H2_ := (Option.bind_some _ _).symm.trans H; rw [hy324]; with_reducible exact H2_) | (have H2_ := (Option.bind_some _ _).symm.trans H; with_reducible exact H2_) | with_reducible exact H | (rw [hy324]; exact H) | exact H
      have Ny324 := Aside0.mk hy324
      clear hy324
      simp only [Option.some.injEq, Prod.mk.injEq] at H
      obtain ⟨rfl, rfl, rfl, rfl, rfl⟩ := H
      obtain ⟨Ao36, co36, eo36⟩ := Kd.R_slice HO1_3.out
      subst eo36
      go_enter Try.func53, Try.ntmps53
      try go_wp2_with (first | ((with_reducible refine gate_dst (N := 3) rfl ?_); refine box_event ?hg (N := 3) ?hd (cs := #[.int .i64 a1_0, .int .i64 a1_1, .int .i64 a1_2, .slice Ao36 l1_3.length co36]) (t := 28) ?hr ?_; (case hd => rfl); (case hg => rfl); (case hr => first | (go_simp; done) | (go_simp; rfl)); intro gb307 hg w37 hbox hb; have n0_ := Aside0.mk (Kd.R_below (B.kr HO1_3) hb); have n1_ := Aside0.mk (IsS69.below (B.st HI0) hb); have n2_ := Aside0.mk (Kept.below (S := (fun k_ => (P1_3_ k_) ∨ k_ = g)) (by repeat (first | (with_reducible first | exact HK.out | apply Kept.alloc | apply Kept.drewN | apply Kept.drew | refine Kept.setCell ?_ (.inl (.inr rfl)) _) | exact HK.out)) hb); have n3_ := Aside0.mk (below_step (B.bs HB) hb); have n4_ := Aside0.mk (hbox); have n5_ := Aside0.mk ((by rw [hg]; exact (by first | exact HK.out.1 | exact (show Kept w _ (fun k_ => (P1_3_ k_) ∨ k_ = g) from by repeat (first | (with_reducible first | exact HK.out | apply Kept.alloc | apply Kept.drewN | apply Kept.drew | refine Kept.setCell ?_ (.inl (.inr rfl)) _) | exact HK.out)).1) : w.heap.size ≤ gb307)); have n6_ := Aside0.mk ((by rw [hg]; exact (below_size (B.bs HB)) : w0.heap.size ≤ gb307)); have n7_ := Aside0.mk ((by rw [hg]; exact Nat.ne_of_lt (IsS69.lt (show IsS69 w0 _ g s0_0 s0_1 from B.st HI0)) : g ≠ gb307)); have n8_ := Aside0.mk ((by rw [hg]; exact Nat.ne_of_gt (IsS69.lt (show IsS69 w0 _ g s0_0 s0_1 from B.st HI0)) : gb307 ≠ g)); clear HO1_3 HI0 HK HB; have HO1_3 := n0_; have HI0 := n1_; have HK := n2_; have HB := n3_; have BK307 := n4_; have GW307 := n5_; have GE307 := n6_; have NB0_307 := n7_; have NB307_0 := n8_; clear n0_ n1_ n2_ n3_ n4_ n5_ n6_ n7_ n8_; clear hb hbox hg) | ((with_reducible refine gate_dst (N := 4) rfl ?_); refine box_event ?hg (N := 4) ?hd (cs := #[.int .i64 0, .int .i64 0, .int .i64 0, .slice none 0 0]) (t := 28) ?hr ?_; (case hd => rfl); (case hg => rfl); (case hr => first | (go_simp; done) | (go_simp; rfl)); intro gb308 hg w38 hbox hb; have n0_ := Aside0.mk (Kd.R_below (B.kr HO1_3) hb); have n1_ := Aside0.mk (IsS69.below (B.st HI0) hb); have n2_ := Aside0.mk (blk_below (B.kb BK307) hb); have n3_ := Aside0.mk (Kept.below (S := (fun k_ => (P1_3_ k_) ∨ k_ = g)) (by repeat (first | (with_reducible first | exact HK.out | apply Kept.alloc | apply Kept.drewN | apply Kept.drew | refine Kept.setCell ?_ (.inl (.inr rfl)) _ | refine Kept.setCell ?_ (.inr GW307.out) _) | exact HK.out)) hb); have n4_ := Aside0.mk (below_step (B.bs HB) hb); have n5_ := Aside0.mk (hbox); have n6_ := Aside0.mk ((by rw [hg]; exact (by first | exact HK.out.1 | exact (show Kept w _ (fun k_ => (P1_3_ k_) ∨ k_ = g) from by repeat (first | (with_reducible first | exact HK.out | apply Kept.alloc | apply Kept.drewN | apply Kept.drew | refine Kept.setCell ?_ (.inl (.inr rfl)) _ | refine Kept.setCell ?_ (.inr GW307.out) _) | exact HK.out)).1) : w.heap.size ≤ gb308)); have n7_ := Aside0.mk ((by rw [hg]; exact (below_size (B.bs HB)) : w0.heap.size ≤ gb308)); have n8_ := Aside0.mk (B.nlt hg (blk_lt (B.kb BK307))); have n9_ := Aside0.mk (B.ngt hg (blk_lt (B.kb BK307))); have n10_ := Aside0.mk ((by rw [hg]; exact Nat.ne_of_lt (IsS69.lt (show IsS69 w0 _ g s0_0 s0_1 from B.st HI0)) : g ≠ gb308)); have n11_ := Aside0.mk ((by rw [hg]; exact Nat.ne_of_gt (IsS69.lt (show IsS69 w0 _ g s0_0 s0_1 from B.st HI0)) : gb308 ≠ g)); clear HO1_3 HI0 BK307 HK HB; have HO1_3 := n0_; have HI0 := n1_; have BK307 := n2_; have HK := n3_; have HB := n4_; have BK308 := n5_; have GW308 := n6_; have GE308 := n7_; have NB307_308 := n8_; have NB308_307 := n9_; have NB0_308 := n10_; have NB308_0 := n11_; clear n0_ n1_ n2_ n3_ n4_ n5_ n6_ n7_ n8_ n9_ n10_ n11_; clear hb hbox hg) | ((with_reducible refine gate_callee (f := 45) rfl ?_); refine goesL_ (some 6) rfl rfl Try.func45 (by kernel_rfl) rfl #[.pointer (some ⟨g, 0, none⟩), .int .i64 40] rfl B.am ?_; (with_reducible refine (spec_reader_pick.calls k g s0_0 s0_1 40 t309 t310 w0 _ ?side1 ?side2 A3.out).mono ?_); (case side1 => exact B.st HI0); (case side2 => exact B.bs HB); rintro e w39 ⟨rfl, hi, hb, hk⟩; refine ⟨_, rfl, ?_⟩; have n0_ := Aside0.mk (Kd.R_mono (Kd.R_keep (IsS69.apart (show IsS69 w0 _ g s0_0 s0_1 from B.st HI0) (B.kr HO1_3) (by decide)) hk (fun _ h => h.2)) (fun _ h => h.1)); have n1_ := Aside0.mk (KeepBut.blk hk (g' := gb307) (o := .cells #[.int .i64 a1_0, .int .i64 a1_1, .int .i64 a1_2, .slice Ao36 l1_3.length co36] 28 (0, 0)) (B.kb BK307) NB307_0.out (by simp)); have n2_ := Aside0.mk (KeepBut.blk hk (g' := gb308) (o := .cells #[.int .i64 0, .int .i64 0, .int .i64 0, .slice none 0 0] 28 (0, 0)) (B.kb BK308) NB308_0.out (by simp)); have n3_ := Aside0.mk (Kept.of_keep (S := (fun k_ => (P1_3_ k_) ∨ k_ = g)) (by repeat (first | (with_reducible first | exact HK.out | apply Kept.alloc | apply Kept.drewN | apply Kept.drew | refine Kept.setCell ?_ (.inl (.inr rfl)) _ | refine Kept.setCell ?_ (.inr GW307.out) _ | refine Kept.setCell ?_ (.inr GW308.out) _) | exact HK.out)) hk (.inl (.inr rfl))); have n4_ := Aside0.mk (hb); have n5_ := Aside0.mk (hi); clear HO1_3 BK307 BK308 HK HB HI0; have HO1_3 := n0_; have BK307 := n1_; have BK308 := n2_; have HK := n3_; have HB := n4_; have HI0 := n5_; clear n0_ n1_ n2_ n3_ n4_ n5_; (try clear hb); (try clear hb2); (try clear hk); (try clear hi)))
      have n0_ := Aside0.mk (Kd.R_drew HO1_3.out)
      have n1_ := Aside0.mk (blk_drew BK307.out)
      have n2_ := Aside0.mk (blk_drew BK308.out)
      have n3_ := Aside0.mk (IsS69.drew HI0.out)
      have n4_ := Aside0.mk (Kept.drew HK.out)
      have n5_ := Aside0.mk (below_drew1 HB.out)
      clear HO1_3 BK307 BK308 HI0 HK HB
      have HO1_3 := n0_
      have BK307 := n1_
      have BK308 := n2_
      have HI0 := n3_
      have HK := n4_
      have HB := n5_
      clear n0_ n1_ n2_ n3_ n4_ n5_
      refine start_ (n := 7) (S := fun w' => w'.cell? ⟨gb307, 0, none⟩ = some (.int .i64 a1_0) ∧ w'.cell? ⟨gb307, 1, none⟩ = some (.int .i64 a1_1) ∧ w'.cell? ⟨gb307, 2, none⟩ = some (.int .i64 a1_2) ∧ w'.cell? ⟨gb307, 3, none⟩ = some (.slice Ao36 l1_3.length co36)) (ds := [6]) #[false, false, false, false, false, false, false] (by kernel_rfl) rfl rfl ⟨B.bc BK307 0, B.bc BK307 1, B.bc BK307 2, B.bc BK307 3⟩ (fun hHeld => ?_)
      generalize w39.drew = w40 at HO1_3 BK307 BK308 HI0 HK HB hHeld ⊢
      refine pure_ (i := 0) (N := some 24) (v := ?_) (a' := ?_) #[true, false, false, false, false, false, false] rfl rfl (by kernel_rfl) (fun _ _ _ h => h) (Or.inl ⟨by rfl, ?_⟩) ?_ ?_
      rotate_left
      · intro w'
        go_simp
        with_reducible rfl
      rotate_left
      · simp only [Act.put, List.setIfInBounds_toArray, List.set_cons_zero, List.set_cons_succ, i64_w, i32_w]
        rfl
      refine pure_ (i := 2) (N := some 26) (v := ?_) (a' := ?_) #[true, false, true, false, false, false, false] rfl rfl (by kernel_rfl) (fun _ _ _ h => h) (Or.inl ⟨by rfl, ?_⟩) ?_ ?_
      rotate_left
      · intro w'
        go_simp
        with_reducible rfl
      rotate_left
      · simp only [Act.put, List.setIfInBounds_toArray, List.set_cons_zero, List.set_cons_succ, i64_w, i32_w]
        rfl
      refine take_ (i := 1) (N := some 25) (v := ?_) (a' := ?_) #[true, true, true, false, false, false, false] rfl rfl (by kernel_rfl) (fun _ _ _ h => h) (Or.inl ⟨by rfl, ?_⟩) hHeld ?_ ?_
      rotate_left
      · rintro w' ⟨s0, s1, s2, s3⟩
        go_simp
        with_reducible rfl
      rotate_left
      · simp only [Act.put, List.setIfInBounds_toArray, List.set_cons_zero, List.set_cons_succ, i64_w, i32_w]
        rfl
      refine one_ (i := 3) (N := some 27) #[true, true, true, true, false, false, false] rfl rfl (by kernel_rfl) (by decide) (fun K hK => ?_)
      refine Kd.R_lit_step (Kd.int .i64) _ 3 ?hg (N := 27) ?hd (xs := ([(-1), 256] : List Int)) (inner := [.int .i64 (-1), .int .i64 256]) (ok := fun _ => True) (okp := fun _ => True) ?hr ?hp (fun _ hk => hk) trivial (Below.refl _ _) (Nat.le_refl _) (by simp) ?_; (case hd => rfl); (case hg => rfl); (case hr => first | (go_simp; done) | (go_simp; rfl)); (case hp => exact (Reps.one (show Kd.M (Kd.int .i64) _ _ _ (-1) [.int .i64 (-1)] from rfl) (Reps.one (show Kd.M (Kd.int .i64) _ _ _ 256 [.int .i64 256] from rfl) (Reps.none _ _))))
      intro v320 w41 ho42 hb hg_ hnew_
      clear hg_ hnew_
      (first | rw [← Ny319.out] at ho42 | (simp only [Int.reduceToNat] at ho42; rw [← Ny319.out] at ho42))
      have n0_ := Aside0.mk (Kd.R_elder' (B.kr HO1_3) (Kd.R_base ho42) hb)
      have n1_ := Aside0.mk (Kd.R_lower (Kd.R_new' (Kd.R_newM (M := fun k_ => (P1_3_ k_ ∨ w.heap.size ≤ k_)) ho42 (by first | exact HK.out.1 | exact (show Kept w _ (fun k_ => (P1_3_ k_) ∨ k_ = g) from by repeat (first | (with_reducible first | exact HK.out | apply Kept.alloc | apply Kept.drewN | apply Kept.drew | refine Kept.setCell ?_ (.inl (.inr rfl)) _ | refine Kept.setCell ?_ (.inr GW307.out) _ | refine Kept.setCell ?_ (.inr GW308.out) _) | exact HK.out)).1) (fun k_ h_ => .inr h_)) (Kd.R_lt (B.kr HO1_3))) (below_size (B.bs HB)))
      have n2_ := Aside0.mk (IsS69.below (B.st HI0) hb)
      have n3_ := Aside0.mk (blk_below (B.kb BK307) hb)
      have n4_ := Aside0.mk (blk_below (B.kb BK308) hb)
      have n5_ := Aside0.mk (Kept.below (S := (fun k_ => (P1_3_ k_) ∨ k_ = g)) (by repeat (first | (with_reducible first | exact HK.out | apply Kept.alloc | apply Kept.drewN | apply Kept.drew | refine Kept.setCell ?_ (.inl (.inr rfl)) _ | refine Kept.setCell ?_ (.inr GW307.out) _ | refine Kept.setCell ?_ (.inr GW308.out) _) | exact HK.out)) hb)
      have n6_ := Aside0.mk (below_step (B.bs HB) hb)
      clear HO1_3 HI0 BK307 BK308 HK HB
      have HO1_3 := n0_
      have HO321 := n1_
      have HI0 := n2_
      have BK307 := n3_
      have BK308 := n4_
      have HK := n5_
      have HB := n6_
      clear n0_ n1_ n2_ n3_ n4_ n5_ n6_
      clear hb ho42
      obtain ⟨Ao43, co43, eo43⟩ := Kd.R_slice HO321.out
      (first | subst eo43 | (injection eo43 with f1_ f2_ f3_; have f4_ := f1_.symm; have f5_ := f3_.symm; clear f1_ f2_ f3_; subst f4_; subst f5_))
      refine hK.out _ _ ⟨B.bc BK307 0, B.bc BK307 1, B.bc BK307 2, B.bc BK307 3⟩ (fun hHeld => ?_)
      clear hK K
      refine norm_ (a' := ?_) ?_ ?_
      rotate_left
      · show Act.put _ (some 27) _ = _
        simp only [Act.put, List.setIfInBounds_toArray, List.set_cons_zero, List.set_cons_succ, i64_w, i32_w]
        rfl
      refine one_ (i := 4) (N := some 28) #[true, true, true, true, true, false, false] rfl rfl (by kernel_rfl) (by decide) (fun K hK => ?_)
      refine goes_ Try.func43 (by kernel_rfl) rfl #[.pointer (some ⟨g, 0, none⟩), .slice Ao43 y319.length co43] (by rfl) rfl rfl B.am ?_
      with_reducible refine (spec_reader_one.calls k g s0_0 t310 _ _ y319 t322 t323 w0 _ ?side1 ?side2 ?side3 ?side4 ?side5 A33.out).mono ?_
      (case side1 => exact B.st HI0)
      (case side2 => exact B.bs HB)
      (case side3 => exact B.kc ((Kd.R_reads' HO321.out).2.2))
      (case side4 => exact (Kd.R_reads' HO321.out).2.1)
      (case side5 => exact far_slice (IsS69.own_ne HI0.out HO321.out (by decide)))
      rintro e w44 ⟨rfl, hi, hb, hk⟩
      refine ⟨_, rfl, ?_⟩
      have n0_ := Aside0.mk (Kd.R_mono (Kd.R_keep (IsS69.apart (show IsS69 w0 _ g s0_0 t310 from B.st HI0) (B.kr HO1_3) (by decide)) hk (fun _ h => h.2)) (fun _ h => h.1))
      have n1_ := Aside0.mk (KeepBut.blk hk (g' := gb307) (o := .cells #[.int .i64 a1_0, .int .i64 a1_1, .int .i64 a1_2, .slice Ao36 l1_3.length co36] 28 (0, 0)) (B.kb BK307) NB307_0.out (by simp))
      have n2_ := Aside0.mk (KeepBut.blk hk (g' := gb308) (o := .cells #[.int .i64 0, .int .i64 0, .int .i64 0, .slice none 0 0] 28 (0, 0)) (B.kb BK308) NB308_0.out (by simp))
      have n3_ := Aside0.mk (Kd.R_mono (Kd.R_keep (IsS69.apart (show IsS69 w0 _ g s0_0 t310 from B.st HI0) (B.kr HO321) (by decide)) hk (fun _ h => h.2)) (fun _ h => h.1))
      have n4_ := Aside0.mk (Kept.of_keep (S := (fun k_ => (P1_3_ k_) ∨ k_ = g)) (by repeat (first | (with_reducible first | exact HK.out | apply Kept.alloc | apply Kept.drewN | apply Kept.drew | refine Kept.setCell ?_ (.inl (.inr rfl)) _ | refine Kept.setCell ?_ (.inr GW307.out) _ | refine Kept.setCell ?_ (.inr GW308.out) _) | exact HK.out)) hk (.inl (.inr rfl)))
      have n5_ := Aside0.mk (hb)
      have n6_ := Aside0.mk (hi)
      clear HO1_3 BK307 BK308 HO321 HK HB HI0
      have HO1_3 := n0_
      have BK307 := n1_
      have BK308 := n2_
      have HO321 := n3_
      have HK := n4_
      have HB := n5_
      have HI0 := n6_
      clear n0_ n1_ n2_ n3_ n4_ n5_ n6_
      (try clear hb)
      (try clear hb2)
      (try clear hk)
      (try clear hi)
      have p35 : 0 ≤ (0 : Int) := (by omega)
      have q35 : (0 : Int) < ((l1_3.length : Int) : Int) := of_decide_eq_true (by first | (with_reducible assumption) | assumption)
      have qi35 : (0 < l1_3.length) = True := eq_true (by omega)
      obtain ⟨go35, co35, eo35, gb35, gl35, cl35, HG35⟩ := Kd.R_form HO1_3.out (by omega)
      (first | cases eo35 | (injection eo35 with ea_ en_ ec_; (first | subst ea_ | (injection ea_ with ea_; subst ea_)); subst ec_; clear en_))
      have GB35 := Aside0.mk gb35
      have GG35 := Aside0.mk HG35
      clear gb35 gl35 HG35
      have HMgo35 := Aside0.mk (show (P1_3_ go35 ∨ w.heap.size ≤ go35) from (HO1_3.out.1 _ rfl).1)
      obtain ⟨hx35_0, hf35_0⟩ := Kd.R_celln 0 HO1_3.out (0 : Int) p35 q35
      (try rw [show ((0 : Int)).toNat = 0 from rfl] at hx35_0)
      (try simp only [Nat.reduceMul, Nat.zero_mul, Nat.zero_add, Nat.reduceAdd] at hx35_0)
      (try rw [show ((0 : Int)).toNat = 0 from rfl] at hf35_0)
      (try simp only [Nat.reduceMul, Nat.zero_mul, Nat.zero_add, Nat.reduceAdd] at hf35_0)
      replace p35 := eq_true p35
      replace q35 := eq_true q35
      have HN0_go35 := Aside0.mk (show g ≠ go35 from by have h_ := IsS69.own_ne HI0.out HO1_3.out (by decide); intro e_; exact h_ (by rw [e_]; rfl))
      have HP45 := Kd.R_putn HO1_3.out (0 : Int) t322
      rw [← Ny324.out] at HP45
      have HQ45 := Aside0.mk HP45
      clear HP45
      refine hK.out _ _ ⟨B.bc BK307 0, B.bc BK307 1, B.bc BK307 2, B.bc BK307 3⟩ (fun hHeld => ?_)
      clear hK K
      refine norm_ (a' := ?_) ?_ ?_
      rotate_left
      · show Act.put _ (some 28) _ = _
        simp only [Act.put, List.setIfInBounds_toArray, List.set_cons_zero, List.set_cons_succ, i64_w, i32_w]
        rfl
      refine pure_ (i := 5) (N := some 29) (v := ?_) (a' := ?_) #[true, true, true, true, true, true, false] rfl rfl (by kernel_rfl) (fun _ _ _ h => h) (Or.inl ⟨by rfl, ?_⟩) ?_ ?_
      rotate_left
      · intro w'
        go_simp
        with_reducible rfl
      rotate_left
      · simp only [Act.put, List.setIfInBounds_toArray, List.set_cons_zero, List.set_cons_succ, i64_w, i32_w]
        rfl
      refine last_ (i := 6) (N := none) #[true, true, true, true, true, true, true] rfl rfl (by kernel_rfl) (by decide) (fun K hK => ?_)
      refine skip_ (w1 := ?_) (by rfl) rfl ?_ ?_
      rotate_left
      · go_simp
        rfl
      refine hK.out _ _ ?_
      clear hK K
      refine done_ (by kernel_rfl) ?_
      have n0_ : Aside0 (Kd.R (Kd.int .i64) 3 (w44.setCell ⟨go35, 0, none⟩ (.int .i64 t322)) w0.heap.size (fun k_ => (P1_3_ k_ ∨ w.heap.size ≤ k_) ∧ some k_ ≠ (.slice Ao43 y319.length co43 : Value).ownBlock) (.slice (some ⟨go35, 0, none⟩) l1_3.length co36) y324) := ⟨B.kr HQ45⟩
      have n1_ : Aside0 (Kd.R (Kd.int .i64) 3 (w44.setCell ⟨go35, 0, none⟩ (.int .i64 t322)) w0.heap.size (fun k_ => (P1_3_ k_ ∨ w.heap.size ≤ k_) ∧ some k_ ≠ (.slice (some ⟨go35, 0, none⟩) l1_3.length co36 : Value).ownBlock) (.slice Ao43 y319.length co43) y319) := ⟨B.kr0 (Kd.R_mono (Kd.R_far (p := ⟨go35, 0, none⟩) (Kd.R_mono HO321.out (fun k_ hk => (⟨hk, fun e_ => hk.2 (by rw [e_]; rfl)⟩ : _ ∧ k_ ≠ go35))) (fun _ hk => hk.2) (.int .i64 t322)) (fun _ hk => ⟨hk.1.1.1, hk.1.2⟩))⟩
      have n2_ : Aside0 ((w44.setCell ⟨go35, 0, none⟩ (.int .i64 t322)).heap[gb307]? = some (.cells #[.int .i64 a1_0, .int .i64 a1_1, .int .i64 a1_2, .slice (some ⟨go35, 0, none⟩) l1_3.length co36] 28 (0, 0))) := ⟨by (with_reducible repeat (first | refine blk_drewN ?_ _ | refine blk_drew ?_ | refine blk_alloc ?_ _)); refine blk_far ?_ (by have h_ := Kd.R_ne HO1_3.out BK307.out (by decide); intro e_; exact h_ (by rw [e_]; rfl)) _; (with_reducible repeat (first | refine blk_drewN ?_ _ | refine blk_drew ?_ | refine blk_alloc ?_ _)); exact BK307.out⟩
      have n3_ : Aside0 ((w44.setCell ⟨go35, 0, none⟩ (.int .i64 t322)).heap[gb308]? = some (.cells #[.int .i64 0, .int .i64 0, .int .i64 0, .slice none 0 0] 28 (0, 0))) := ⟨by (with_reducible repeat (first | refine blk_drewN ?_ _ | refine blk_drew ?_ | refine blk_alloc ?_ _)); refine blk_far ?_ (by have h_ := Kd.R_ne HO1_3.out BK308.out (by decide); intro e_; exact h_ (by rw [e_]; rfl)) _; (with_reducible repeat (first | refine blk_drewN ?_ _ | refine blk_drew ?_ | refine blk_alloc ?_ _)); exact BK308.out⟩
      have n4_ : Aside0 (IsS69 w0 (w44.setCell ⟨go35, 0, none⟩ (.int .i64 t322)) g s0_0 t323) := ⟨B.st HI0⟩
      have n5_ : Aside0 (Kept w (w44.setCell ⟨go35, 0, none⟩ (.int .i64 t322)) (fun k_ => (P1_3_ k_) ∨ k_ = g)) := ⟨by repeat (first | (with_reducible first | exact HK.out | apply Kept.alloc | apply Kept.drewN | apply Kept.drew | refine Kept.setCell ?_ (Or.imp_left Or.inl HMgo35.out) _ | refine Kept.setCell ?_ (.inl (.inr rfl)) _ | refine Kept.setCell ?_ (.inr GW307.out) _ | refine Kept.setCell ?_ (.inr GW308.out) _) | exact HK.out)⟩
      have n6_ : Aside0 (Below w0.heap.size w0 (w44.setCell ⟨go35, 0, none⟩ (.int .i64 t322))) := ⟨B.bs HB⟩
      (try clear HO1_3)
      (try clear HO321)
      (try clear BK307)
      (try clear BK308)
      (try clear HI0)
      (try clear HK)
      (try clear HB)
      generalize (w44.setCell ⟨go35, 0, none⟩ (.int .i64 t322)) = w46 at n0_ n1_ n2_ n3_ n4_ n5_ n6_ ⊢
      have HO1_3 := n0_
      have HO321 := n1_
      have BK307 := n2_
      have BK308 := n3_
      have HI0 := n4_
      have HK := n5_
      have HB := n6_
      clear n0_ n1_ n2_ n3_ n4_ n5_ n6_
      have hnb47 := NB307_308.out
      have hnc47 := NB308_307.out
      have hnb48 := NB307_0.out
      have hnc48 := NB0_307.out
      have hcz49_0 : w46.cell? ⟨gb307, 0, none⟩ = some (.int .i64 a1_0) := B.bc BK307 0
      have hcz49_1 : w46.cell? ⟨gb307, 1, none⟩ = some (.int .i64 a1_1) := B.bc BK307 1
      have hcz49_2 : w46.cell? ⟨gb307, 2, none⟩ = some (.int .i64 a1_2) := B.bc BK307 2
      have hcz49_3 : w46.cell? ⟨gb307, 3, none⟩ = some (.slice (some ⟨go35, 0, none⟩) l1_3.length co36) := B.bc BK307 3
      have hfz49_0 := blk_frozen BK307.out 0
      have hfz49_1 := blk_frozen BK307.out 1
      have hfz49_2 := blk_frozen BK307.out 2
      have hfz49_3 := blk_frozen BK307.out 3
      have hnb50 := NB308_0.out
      have hnc50 := NB0_308.out
      have hcz51_0 : w46.cell? ⟨gb308, 0, none⟩ = some (.int .i64 0) := B.bc BK308 0
      have hcz51_1 : w46.cell? ⟨gb308, 1, none⟩ = some (.int .i64 0) := B.bc BK308 1
      have hcz51_2 : w46.cell? ⟨gb308, 2, none⟩ = some (.int .i64 0) := B.bc BK308 2
      have hcz51_3 : w46.cell? ⟨gb308, 3, none⟩ = some (.slice none 0 0) := B.bc BK308 3
      have hfz51_0 := blk_frozen BK308.out 0
      have hfz51_1 := blk_frozen BK308.out 1
      have hfz51_2 := blk_frozen BK308.out 2
      have hfz51_3 := blk_frozen BK308.out 3
      try go_wp2
      refine bodyPost_ret (results_cell_row rfl _ _ gb308 28 #[.int .i64 a1_0, .int .i64 a1_1, .int .i64 a1_2, .slice (some ⟨go35, 0, none⟩) l1_3.length co36] (0, 0) _ rfl (B.kb0 (B.bp4 BK308)) Try.underlying28 rfl (by kernel_rfl)) rfl ?_
      exact ⟨_, by first | rfl | (simp [errW_none, errW_some] <;> rfl) | (simp [*, errW_none, errW_some] <;> rfl), Kd.Q_of_R (B.kr0 (Kd.R_mono (B.rf4 HO1_3 BK308) (fun _ hk => hk.1.1))), B.st HI0, B.bs HB, by repeat (first | (with_reducible first | exact HK.out | apply Kept.alloc | apply Kept.drewN | apply Kept.drew | refine Kept.setCell ?_ (.inl (.inr rfl)) _ | refine Kept.setCell ?_ (.inr GW307.out) _ | refine Kept.setCell ?_ (.inr GW308.out) _) | exact HK.out)⟩
    rw [if_neg c34] at H
    exact absurd H (by simp)
  rw [if_neg c32] at H
  have c32b0 : (t309 == 2) = false := beq_eq_false_iff_ne.mpr c32
  have c32b1 : (t309 != 2) = true := bne_iff_ne.mpr c32
  by_cases c52 : t309 = 3
  · rw [if_pos c52] at H
    have c52b0 : (t309 == 3) = true := beq_iff_eq.mpr c52
    have c52b1 : (t309 != 3) = false := bne_eq_false_iff_eq.mpr c52
    clear c52
    obtain ⟨y325, hy325⟩ : ∃ y_ : List Int, y_ = (([0, 5] : List Int)) := ⟨_, rfl⟩
    replace H : ((spec_reader_one.f k s0_0 t310 y325).bind fun bt328 => (some (a1_0, a1_1, bt328.1, l1_3, bt328.2))) = some (r1, r2, r3, r4, r5) := by first | (rw [hy325]; with_reducible exact H) | (have H2_ := (Option.bind_some _ _).symm.trans H; rw [hy325]; with_reducible exact H2_) | (have H2_ := (Option.bind_some _ _).symm.trans H; with_reducible exact H2_) | with_reducible exact H | (rw [hy325]; exact H) | exact H
    have Ny325 := Aside0.mk hy325
    clear hy325
    replace H := Option.bind_eq_some_iff.mp H
    obtain ⟨⟨t328, t329⟩, A530, H⟩ := H
    replace H : (some (a1_0, a1_1, t328, l1_3, t329)) = some (r1, r2, r3, r4, r5) := H
    have A53 := Aside0.mk A530
    clear A530
    simp only [Option.some.injEq, Prod.mk.injEq] at H
    obtain ⟨rfl, rfl, rfl, rfl, rfl⟩ := H
    obtain ⟨Ao54, co54, eo54⟩ := Kd.R_slice HO1_3.out
    subst eo54
    go_enter Try.func53, Try.ntmps53
    go_wp2_with (first | ((with_reducible refine gate_dst (N := 3) rfl ?_); refine box_event ?hg (N := 3) ?hd (cs := #[.int .i64 a1_0, .int .i64 a1_1, .int .i64 a1_2, .slice Ao54 l1_3.length co54]) (t := 28) ?hr ?_; (case hd => rfl); (case hg => rfl); (case hr => first | (go_simp; done) | (go_simp; rfl)); intro gb307 hg w55 hbox hb; have n0_ := Aside0.mk (Kd.R_below (B.kr HO1_3) hb); have n1_ := Aside0.mk (IsS69.below (B.st HI0) hb); have n2_ := Aside0.mk (Kept.below (S := (fun k_ => (P1_3_ k_) ∨ k_ = g)) (by repeat (first | (with_reducible first | exact HK.out | apply Kept.alloc | apply Kept.drewN | apply Kept.drew | refine Kept.setCell ?_ (.inl (.inr rfl)) _) | exact HK.out)) hb); have n3_ := Aside0.mk (below_step (B.bs HB) hb); have n4_ := Aside0.mk (hbox); have n5_ := Aside0.mk ((by rw [hg]; exact (by first | exact HK.out.1 | exact (show Kept w _ (fun k_ => (P1_3_ k_) ∨ k_ = g) from by repeat (first | (with_reducible first | exact HK.out | apply Kept.alloc | apply Kept.drewN | apply Kept.drew | refine Kept.setCell ?_ (.inl (.inr rfl)) _) | exact HK.out)).1) : w.heap.size ≤ gb307)); have n6_ := Aside0.mk ((by rw [hg]; exact (below_size (B.bs HB)) : w0.heap.size ≤ gb307)); have n7_ := Aside0.mk ((by rw [hg]; exact Nat.ne_of_lt (IsS69.lt (show IsS69 w0 _ g s0_0 s0_1 from B.st HI0)) : g ≠ gb307)); have n8_ := Aside0.mk ((by rw [hg]; exact Nat.ne_of_gt (IsS69.lt (show IsS69 w0 _ g s0_0 s0_1 from B.st HI0)) : gb307 ≠ g)); clear HO1_3 HI0 HK HB; have HO1_3 := n0_; have HI0 := n1_; have HK := n2_; have HB := n3_; have BK307 := n4_; have GW307 := n5_; have GE307 := n6_; have NB0_307 := n7_; have NB307_0 := n8_; clear n0_ n1_ n2_ n3_ n4_ n5_ n6_ n7_ n8_; clear hb hbox hg) | ((with_reducible refine gate_dst (N := 4) rfl ?_); refine box_event ?hg (N := 4) ?hd (cs := #[.int .i64 0, .int .i64 0, .int .i64 0, .slice none 0 0]) (t := 28) ?hr ?_; (case hd => rfl); (case hg => rfl); (case hr => first | (go_simp; done) | (go_simp; rfl)); intro gb308 hg w56 hbox hb; have n0_ := Aside0.mk (Kd.R_below (B.kr HO1_3) hb); have n1_ := Aside0.mk (IsS69.below (B.st HI0) hb); have n2_ := Aside0.mk (blk_below (B.kb BK307) hb); have n3_ := Aside0.mk (Kept.below (S := (fun k_ => (P1_3_ k_) ∨ k_ = g)) (by repeat (first | (with_reducible first | exact HK.out | apply Kept.alloc | apply Kept.drewN | apply Kept.drew | refine Kept.setCell ?_ (.inl (.inr rfl)) _ | refine Kept.setCell ?_ (.inr GW307.out) _) | exact HK.out)) hb); have n4_ := Aside0.mk (below_step (B.bs HB) hb); have n5_ := Aside0.mk (hbox); have n6_ := Aside0.mk ((by rw [hg]; exact (by first | exact HK.out.1 | exact (show Kept w _ (fun k_ => (P1_3_ k_) ∨ k_ = g) from by repeat (first | (with_reducible first | exact HK.out | apply Kept.alloc | apply Kept.drewN | apply Kept.drew | refine Kept.setCell ?_ (.inl (.inr rfl)) _ | refine Kept.setCell ?_ (.inr GW307.out) _) | exact HK.out)).1) : w.heap.size ≤ gb308)); have n7_ := Aside0.mk ((by rw [hg]; exact (below_size (B.bs HB)) : w0.heap.size ≤ gb308)); have n8_ := Aside0.mk (B.nlt hg (blk_lt (B.kb BK307))); have n9_ := Aside0.mk (B.ngt hg (blk_lt (B.kb BK307))); have n10_ := Aside0.mk ((by rw [hg]; exact Nat.ne_of_lt (IsS69.lt (show IsS69 w0 _ g s0_0 s0_1 from B.st HI0)) : g ≠ gb308)); have n11_ := Aside0.mk ((by rw [hg]; exact Nat.ne_of_gt (IsS69.lt (show IsS69 w0 _ g s0_0 s0_1 from B.st HI0)) : gb308 ≠ g)); clear HO1_3 HI0 BK307 HK HB; have HO1_3 := n0_; have HI0 := n1_; have BK307 := n2_; have HK := n3_; have HB := n4_; have BK308 := n5_; have GW308 := n6_; have GE308 := n7_; have NB307_308 := n8_; have NB308_307 := n9_; have NB0_308 := n10_; have NB308_0 := n11_; clear n0_ n1_ n2_ n3_ n4_ n5_ n6_ n7_ n8_ n9_ n10_ n11_; clear hb hbox hg) | ((with_reducible refine gate_callee (f := 45) rfl ?_); refine goesL_ (some 6) rfl rfl Try.func45 (by kernel_rfl) rfl #[.pointer (some ⟨g, 0, none⟩), .int .i64 40] rfl B.am ?_; (with_reducible refine (spec_reader_pick.calls k g s0_0 s0_1 40 t309 t310 w0 _ ?side1 ?side2 A3.out).mono ?_); (case side1 => exact B.st HI0); (case side2 => exact B.bs HB); rintro e w57 ⟨rfl, hi, hb, hk⟩; refine ⟨_, rfl, ?_⟩; have n0_ := Aside0.mk (Kd.R_mono (Kd.R_keep (IsS69.apart (show IsS69 w0 _ g s0_0 s0_1 from B.st HI0) (B.kr HO1_3) (by decide)) hk (fun _ h => h.2)) (fun _ h => h.1)); have n1_ := Aside0.mk (KeepBut.blk hk (g' := gb307) (o := .cells #[.int .i64 a1_0, .int .i64 a1_1, .int .i64 a1_2, .slice Ao54 l1_3.length co54] 28 (0, 0)) (B.kb BK307) NB307_0.out (by simp)); have n2_ := Aside0.mk (KeepBut.blk hk (g' := gb308) (o := .cells #[.int .i64 0, .int .i64 0, .int .i64 0, .slice none 0 0] 28 (0, 0)) (B.kb BK308) NB308_0.out (by simp)); have n3_ := Aside0.mk (Kept.of_keep (S := (fun k_ => (P1_3_ k_) ∨ k_ = g)) (by repeat (first | (with_reducible first | exact HK.out | apply Kept.alloc | apply Kept.drewN | apply Kept.drew | refine Kept.setCell ?_ (.inl (.inr rfl)) _ | refine Kept.setCell ?_ (.inr GW307.out) _ | refine Kept.setCell ?_ (.inr GW308.out) _) | exact HK.out)) hk (.inl (.inr rfl))); have n4_ := Aside0.mk (hb); have n5_ := Aside0.mk (hi); clear HO1_3 BK307 BK308 HK HB HI0; have HO1_3 := n0_; have BK307 := n1_; have BK308 := n2_; have HK := n3_; have HB := n4_; have HI0 := n5_; clear n0_ n1_ n2_ n3_ n4_ n5_; (try clear hb); (try clear hb2); (try clear hk); (try clear hi)) | ((with_reducible refine gate_dst (N := 33) rfl ?_); refine Kd.R_lit (Kd.int .i64) _ 3 ?hg (N := 33) ?hd (xs := ([0, 5] : List Int)) (inner := [.int .i64 0, .int .i64 5]) (ok := fun _ => True) (okp := fun _ => True) ?hr ?hp (fun _ hk => hk) trivial (Below.refl _ _) (Nat.le_refl _) (by simp) ?_; (case hd => rfl); (case hg => rfl); (case hr => first | (go_simp; done) | (go_simp; rfl)); (case hp => exact (Reps.one (show Kd.M (Kd.int .i64) _ _ _ 0 [.int .i64 0] from rfl) (Reps.one (show Kd.M (Kd.int .i64) _ _ _ 5 [.int .i64 5] from rfl) (Reps.none _ _)))); intro v326 w58 ho59 hb hg_ hnew_; clear hg_ hnew_; (first | rw [← Ny325.out] at ho59 | (simp only [Int.reduceToNat] at ho59; rw [← Ny325.out] at ho59)); have n0_ := Aside0.mk (Kd.R_elder' (B.kr HO1_3) (Kd.R_base ho59) hb); have n1_ := Aside0.mk (Kd.R_lower (Kd.R_new' (Kd.R_newM (M := fun k_ => (P1_3_ k_ ∨ w.heap.size ≤ k_)) ho59 (by first | exact HK.out.1 | exact (show Kept w _ (fun k_ => (P1_3_ k_) ∨ k_ = g) from by repeat (first | (with_reducible first | exact HK.out | apply Kept.alloc | apply Kept.drewN | apply Kept.drew | refine Kept.setCell ?_ (.inl (.inr rfl)) _ | refine Kept.setCell ?_ (.inr GW307.out) _ | refine Kept.setCell ?_ (.inr GW308.out) _) | exact HK.out)).1) (fun k_ h_ => .inr h_)) (Kd.R_lt (B.kr HO1_3))) (below_size (B.bs HB))); have n2_ := Aside0.mk (IsS69.below (B.st HI0) hb); have n3_ := Aside0.mk (blk_below (B.kb BK307) hb); have n4_ := Aside0.mk (blk_below (B.kb BK308) hb); have n5_ := Aside0.mk (Kept.below (S := (fun k_ => (P1_3_ k_) ∨ k_ = g)) (by repeat (first | (with_reducible first | exact HK.out | apply Kept.alloc | apply Kept.drewN | apply Kept.drew | refine Kept.setCell ?_ (.inl (.inr rfl)) _ | refine Kept.setCell ?_ (.inr GW307.out) _ | refine Kept.setCell ?_ (.inr GW308.out) _) | exact HK.out)) hb); have n6_ := Aside0.mk (below_step (B.bs HB) hb); clear HO1_3 HI0 BK307 BK308 HK HB; have HO1_3 := n0_; have HO327 := n1_; have HI0 := n2_; have BK307 := n3_; have BK308 := n4_; have HK := n5_; have HB := n6_; clear n0_ n1_ n2_ n3_ n4_ n5_ n6_; clear hb ho59; obtain ⟨Ao60, co60, eo60⟩ := Kd.R_slice HO327.out; subst eo60) | ((with_reducible refine gate_callee (f := 43) rfl ?_); refine goesL_ (some 34) rfl rfl Try.func43 (by kernel_rfl) rfl #[.pointer (some ⟨g, 0, none⟩), .slice Ao60 y325.length co60] rfl B.am ?_; (with_reducible refine (spec_reader_one.calls k g s0_0 t310 _ _ y325 t328 t329 w0 _ ?side1 ?side2 ?side3 ?side4 ?side5 A53.out).mono ?_); (case side1 => exact B.st HI0); (case side2 => exact B.bs HB); (case side3 => exact B.kc ((Kd.R_reads' HO327.out).2.2)); (case side4 => exact (Kd.R_reads' HO327.out).2.1); (case side5 => exact far_slice (IsS69.own_ne HI0.out HO327.out (by decide))); rintro e w61 ⟨rfl, hi, hb, hk⟩; refine ⟨_, rfl, ?_⟩; have n0_ := Aside0.mk (Kd.R_mono (Kd.R_keep (IsS69.apart (show IsS69 w0 _ g s0_0 t310 from B.st HI0) (B.kr HO1_3) (by decide)) hk (fun _ h => h.2)) (fun _ h => h.1)); have n1_ := Aside0.mk (KeepBut.blk hk (g' := gb307) (o := .cells #[.int .i64 a1_0, .int .i64 a1_1, .int .i64 a1_2, .slice Ao54 l1_3.length co54] 28 (0, 0)) (B.kb BK307) NB307_0.out (by simp)); have n2_ := Aside0.mk (KeepBut.blk hk (g' := gb308) (o := .cells #[.int .i64 0, .int .i64 0, .int .i64 0, .slice none 0 0] 28 (0, 0)) (B.kb BK308) NB308_0.out (by simp)); have n3_ := Aside0.mk (Kd.R_mono (Kd.R_keep (IsS69.apart (show IsS69 w0 _ g s0_0 t310 from B.st HI0) (B.kr HO327) (by decide)) hk (fun _ h => h.2)) (fun _ h => h.1)); have n4_ := Aside0.mk (Kept.of_keep (S := (fun k_ => (P1_3_ k_) ∨ k_ = g)) (by repeat (first | (with_reducible first | exact HK.out | apply Kept.alloc | apply Kept.drewN | apply Kept.drew | refine Kept.setCell ?_ (.inl (.inr rfl)) _ | refine Kept.setCell ?_ (.inr GW307.out) _ | refine Kept.setCell ?_ (.inr GW308.out) _) | exact HK.out)) hk (.inl (.inr rfl))); have n5_ := Aside0.mk (hb); have n6_ := Aside0.mk (hi); clear HO1_3 BK307 BK308 HO327 HK HB HI0; have HO1_3 := n0_; have BK307 := n1_; have BK308 := n2_; have HO327 := n3_; have HK := n4_; have HB := n5_; have HI0 := n6_; clear n0_ n1_ n2_ n3_ n4_ n5_ n6_; (try clear hb); (try clear hb2); (try clear hk); (try clear hi); have hnb62 := NB307_308.out; have hnc62 := NB308_307.out; have hnb63 := NB307_0.out; have hnc63 := NB0_307.out; have hcz64_0 : w61.cell? ⟨gb307, 0, none⟩ = some (.int .i64 a1_0) := B.bc BK307 0; have hcz64_1 : w61.cell? ⟨gb307, 1, none⟩ = some (.int .i64 a1_1) := B.bc BK307 1; have hcz64_2 : w61.cell? ⟨gb307, 2, none⟩ = some (.int .i64 a1_2) := B.bc BK307 2; have hcz64_3 : w61.cell? ⟨gb307, 3, none⟩ = some (.slice Ao54 l1_3.length co54) := B.bc BK307 3; have hfz64_0 := blk_frozen BK307.out 0; have hfz64_1 := blk_frozen BK307.out 1; have hfz64_2 := blk_frozen BK307.out 2; have hfz64_3 := blk_frozen BK307.out 3; have hnb65 := NB308_0.out; have hnc65 := NB0_308.out; have hcz66_0 : w61.cell? ⟨gb308, 0, none⟩ = some (.int .i64 0) := B.bc BK308 0; have hcz66_1 : w61.cell? ⟨gb308, 1, none⟩ = some (.int .i64 0) := B.bc BK308 1; have hcz66_2 : w61.cell? ⟨gb308, 2, none⟩ = some (.int .i64 0) := B.bc BK308 2; have hcz66_3 : w61.cell? ⟨gb308, 3, none⟩ = some (.slice none 0 0) := B.bc BK308 3; have hfz66_0 := blk_frozen BK308.out 0; have hfz66_1 := blk_frozen BK308.out 1; have hfz66_2 := blk_frozen BK308.out 2; have hfz66_3 := blk_frozen BK308.out 3))
    refine bodyPost_ret (results_cell_row rfl _ _ gb308 28 #[.int .i64 a1_0, .int .i64 a1_1, .int .i64 t328, .slice Ao54 l1_3.length co54] (0, 0) _ rfl (by (with_reducible repeat (first | refine blk_drewN ?_ _ | refine blk_drew ?_ | refine blk_alloc ?_ _)); refine blk_put (cs := #[.int .i64 a1_0, .int .i64 a1_1, .int .i64 t328, .slice none 0 0]) ?_ 3 _ rfl; (with_reducible repeat (first | refine blk_drewN ?_ _ | refine blk_drew ?_ | refine blk_alloc ?_ _)); refine blk_put (cs := #[.int .i64 a1_0, .int .i64 a1_1, .int .i64 0, .slice none 0 0]) ?_ 2 _ rfl; (with_reducible repeat (first | refine blk_drewN ?_ _ | refine blk_drew ?_ | refine blk_alloc ?_ _)); refine blk_put (cs := #[.int .i64 a1_0, .int .i64 0, .int .i64 0, .slice none 0 0]) ?_ 1 _ rfl; (with_reducible repeat (first | refine blk_drewN ?_ _ | refine blk_drew ?_ | refine blk_alloc ?_ _)); refine blk_put (cs := #[.int .i64 0, .int .i64 0, .int .i64 0, .slice none 0 0]) ?_ 0 _ rfl; (with_reducible repeat (first | refine blk_drewN ?_ _ | refine blk_drew ?_ | refine blk_alloc ?_ _)); refine blk_far ?_ NB308_307.out _; (with_reducible repeat (first | refine blk_drewN ?_ _ | refine blk_drew ?_ | refine blk_alloc ?_ _)); exact BK308.out) Try.underlying28 rfl (by kernel_rfl)) rfl ?_
    exact ⟨_, by first | rfl | (simp [errW_none, errW_some] <;> rfl) | (simp [*, errW_none, errW_some] <;> rfl), Kd.Q_of_R (B.kr0 (Kd.R_mono (Kd.R_far (p := ⟨gb308, 3, none⟩) (Kd.R_far (p := ⟨gb308, 2, none⟩) (Kd.R_far (p := ⟨gb308, 1, none⟩) (Kd.R_far (p := ⟨gb308, 0, none⟩) (Kd.R_far (p := ⟨gb307, 2, none⟩) (Kd.R_types (Kd.R_types HO1_3.out BK307.out (by decide)) BK308.out (by decide)) (fun _ hk => hk.1.2) (.int .i64 t328)) (fun _ hk => hk.2) (.int .i64 a1_0)) (fun _ hk => hk.2) (.int .i64 a1_1)) (fun _ hk => hk.2) (.int .i64 t328)) (fun _ hk => hk.2) (.slice Ao54 l1_3.length co54)) (fun _ hk => hk.1.1.1))), B.st HI0, B.bs HB, by repeat (first | (with_reducible first | exact HK.out | apply Kept.alloc | apply Kept.drewN | apply Kept.drew | refine Kept.setCell ?_ (.inl (.inr rfl)) _ | refine Kept.setCell ?_ (.inr GW307.out) _ | refine Kept.setCell ?_ (.inr GW308.out) _) | exact HK.out)⟩
  rw [if_neg c52] at H
  have c52b0 : (t309 == 3) = false := beq_eq_false_iff_ne.mpr c52
  have c52b1 : (t309 != 3) = true := bne_iff_ne.mpr c52
  simp only [Option.some.injEq, Prod.mk.injEq] at H
  obtain ⟨rfl, rfl, rfl, rfl, rfl⟩ := H
  obtain ⟨Ao67, co67, eo67⟩ := Kd.R_slice HO1_3.out
  subst eo67
  go_enter Try.func53, Try.ntmps53
  go_wp2_with (first | ((with_reducible refine gate_dst (N := 3) rfl ?_); refine box_event ?hg (N := 3) ?hd (cs := #[.int .i64 a1_0, .int .i64 a1_1, .int .i64 a1_2, .slice Ao67 l1_3.length co67]) (t := 28) ?hr ?_; (case hd => rfl); (case hg => rfl); (case hr => first | (go_simp; done) | (go_simp; rfl)); intro gb307 hg w68 hbox hb; have n0_ := Aside0.mk (Kd.R_below (B.kr HO1_3) hb); have n1_ := Aside0.mk (IsS69.below (B.st HI0) hb); have n2_ := Aside0.mk (Kept.below (S := (fun k_ => (P1_3_ k_) ∨ k_ = g)) (by repeat (first | (with_reducible first | exact HK.out | apply Kept.alloc | apply Kept.drewN | apply Kept.drew | refine Kept.setCell ?_ (.inl (.inr rfl)) _) | exact HK.out)) hb); have n3_ := Aside0.mk (below_step (B.bs HB) hb); have n4_ := Aside0.mk (hbox); have n5_ := Aside0.mk ((by rw [hg]; exact (by first | exact HK.out.1 | exact (show Kept w _ (fun k_ => (P1_3_ k_) ∨ k_ = g) from by repeat (first | (with_reducible first | exact HK.out | apply Kept.alloc | apply Kept.drewN | apply Kept.drew | refine Kept.setCell ?_ (.inl (.inr rfl)) _) | exact HK.out)).1) : w.heap.size ≤ gb307)); have n6_ := Aside0.mk ((by rw [hg]; exact (below_size (B.bs HB)) : w0.heap.size ≤ gb307)); have n7_ := Aside0.mk ((by rw [hg]; exact Nat.ne_of_lt (IsS69.lt (show IsS69 w0 _ g s0_0 s0_1 from B.st HI0)) : g ≠ gb307)); have n8_ := Aside0.mk ((by rw [hg]; exact Nat.ne_of_gt (IsS69.lt (show IsS69 w0 _ g s0_0 s0_1 from B.st HI0)) : gb307 ≠ g)); clear HO1_3 HI0 HK HB; have HO1_3 := n0_; have HI0 := n1_; have HK := n2_; have HB := n3_; have BK307 := n4_; have GW307 := n5_; have GE307 := n6_; have NB0_307 := n7_; have NB307_0 := n8_; clear n0_ n1_ n2_ n3_ n4_ n5_ n6_ n7_ n8_; clear hb hbox hg) | ((with_reducible refine gate_dst (N := 4) rfl ?_); refine box_event ?hg (N := 4) ?hd (cs := #[.int .i64 0, .int .i64 0, .int .i64 0, .slice none 0 0]) (t := 28) ?hr ?_; (case hd => rfl); (case hg => rfl); (case hr => first | (go_simp; done) | (go_simp; rfl)); intro gb308 hg w69 hbox hb; have n0_ := Aside0.mk (Kd.R_below (B.kr HO1_3) hb); have n1_ := Aside0.mk (IsS69.below (B.st HI0) hb); have n2_ := Aside0.mk (blk_below (B.kb BK307) hb); have n3_ := Aside0.mk (Kept.below (S := (fun k_ => (P1_3_ k_) ∨ k_ = g)) (by repeat (first | (with_reducible first | exact HK.out | apply Kept.alloc | apply Kept.drewN | apply Kept.drew | refine Kept.setCell ?_ (.inl (.inr rfl)) _ | refine Kept.setCell ?_ (.inr GW307.out) _) | exact HK.out)) hb); have n4_ := Aside0.mk (below_step (B.bs HB) hb); have n5_ := Aside0.mk (hbox); have n6_ := Aside0.mk ((by rw [hg]; exact (by first | exact HK.out.1 | exact (show Kept w _ (fun k_ => (P1_3_ k_) ∨ k_ = g) from by repeat (first | (with_reducible first | exact HK.out | apply Kept.alloc | apply Kept.drewN | apply Kept.drew | refine Kept.setCell ?_ (.inl (.inr rfl)) _ | refine Kept.setCell ?_ (.inr GW307.out) _) | exact HK.out)).1) : w.heap.size ≤ gb308)); have n7_ := Aside0.mk ((by rw [hg]; exact (below_size (B.bs HB)) : w0.heap.size ≤ gb308)); have n8_ := Aside0.mk (B.nlt hg (blk_lt (B.kb BK307))); have n9_ := Aside0.mk (B.ngt hg (blk_lt (B.kb BK307))); have n10_ := Aside0.mk ((by rw [hg]; exact Nat.ne_of_lt (IsS69.lt (show IsS69 w0 _ g s0_0 s0_1 from B.st HI0)) : g ≠ gb308)); have n11_ := Aside0.mk ((by rw [hg]; exact Nat.ne_of_gt (IsS69.lt (show IsS69 w0 _ g s0_0 s0_1 from B.st HI0)) : gb308 ≠ g)); clear HO1_3 HI0 BK307 HK HB; have HO1_3 := n0_; have HI0 := n1_; have BK307 := n2_; have HK := n3_; have HB := n4_; have BK308 := n5_; have GW308 := n6_; have GE308 := n7_; have NB307_308 := n8_; have NB308_307 := n9_; have NB0_308 := n10_; have NB308_0 := n11_; clear n0_ n1_ n2_ n3_ n4_ n5_ n6_ n7_ n8_ n9_ n10_ n11_; clear hb hbox hg) | ((with_reducible refine gate_callee (f := 45) rfl ?_); refine goesL_ (some 6) rfl rfl Try.func45 (by kernel_rfl) rfl #[.pointer (some ⟨g, 0, none⟩), .int .i64 40] rfl B.am ?_; (with_reducible refine (spec_reader_pick.calls k g s0_0 s0_1 40 t309 t310 w0 _ ?side1 ?side2 A3.out).mono ?_); (case side1 => exact B.st HI0); (case side2 => exact B.bs HB); rintro e w70 ⟨rfl, hi, hb, hk⟩; refine ⟨_, rfl, ?_⟩; have n0_ := Aside0.mk (Kd.R_mono (Kd.R_keep (IsS69.apart (show IsS69 w0 _ g s0_0 s0_1 from B.st HI0) (B.kr HO1_3) (by decide)) hk (fun _ h => h.2)) (fun _ h => h.1)); have n1_ := Aside0.mk (KeepBut.blk hk (g' := gb307) (o := .cells #[.int .i64 a1_0, .int .i64 a1_1, .int .i64 a1_2, .slice Ao67 l1_3.length co67] 28 (0, 0)) (B.kb BK307) NB307_0.out (by simp)); have n2_ := Aside0.mk (KeepBut.blk hk (g' := gb308) (o := .cells #[.int .i64 0, .int .i64 0, .int .i64 0, .slice none 0 0] 28 (0, 0)) (B.kb BK308) NB308_0.out (by simp)); have n3_ := Aside0.mk (Kept.of_keep (S := (fun k_ => (P1_3_ k_) ∨ k_ = g)) (by repeat (first | (with_reducible first | exact HK.out | apply Kept.alloc | apply Kept.drewN | apply Kept.drew | refine Kept.setCell ?_ (.inl (.inr rfl)) _ | refine Kept.setCell ?_ (.inr GW307.out) _ | refine Kept.setCell ?_ (.inr GW308.out) _) | exact HK.out)) hk (.inl (.inr rfl))); have n4_ := Aside0.mk (hb); have n5_ := Aside0.mk (hi); clear HO1_3 BK307 BK308 HK HB HI0; have HO1_3 := n0_; have BK307 := n1_; have BK308 := n2_; have HK := n3_; have HB := n4_; have HI0 := n5_; clear n0_ n1_ n2_ n3_ n4_ n5_; (try clear hb); (try clear hb2); (try clear hk); (try clear hi); have hnb71 := NB307_308.out; have hnc71 := NB308_307.out; have hnb72 := NB307_0.out; have hnc72 := NB0_307.out; have hcz73_0 : w70.cell? ⟨gb307, 0, none⟩ = some (.int .i64 a1_0) := B.bc BK307 0; have hcz73_1 : w70.cell? ⟨gb307, 1, none⟩ = some (.int .i64 a1_1) := B.bc BK307 1; have hcz73_2 : w70.cell? ⟨gb307, 2, none⟩ = some (.int .i64 a1_2) := B.bc BK307 2; have hcz73_3 : w70.cell? ⟨gb307, 3, none⟩ = some (.slice Ao67 l1_3.length co67) := B.bc BK307 3; have hfz73_0 := blk_frozen BK307.out 0; have hfz73_1 := blk_frozen BK307.out 1; have hfz73_2 := blk_frozen BK307.out 2; have hfz73_3 := blk_frozen BK307.out 3; have hnb74 := NB308_0.out; have hnc74 := NB0_308.out; have hcz75_0 : w70.cell? ⟨gb308, 0, none⟩ = some (.int .i64 0) := B.bc BK308 0; have hcz75_1 : w70.cell? ⟨gb308, 1, none⟩ = some (.int .i64 0) := B.bc BK308 1; have hcz75_2 : w70.cell? ⟨gb308, 2, none⟩ = some (.int .i64 0) := B.bc BK308 2; have hcz75_3 : w70.cell? ⟨gb308, 3, none⟩ = some (.slice none 0 0) := B.bc BK308 3; have hfz75_0 := blk_frozen BK308.out 0; have hfz75_1 := blk_frozen BK308.out 1; have hfz75_2 := blk_frozen BK308.out 2; have hfz75_3 := blk_frozen BK308.out 3))
  refine bodyPost_ret (results_cell_row rfl _ _ gb308 28 #[.int .i64 a1_0, .int .i64 a1_1, .int .i64 a1_2, .slice Ao67 l1_3.length co67] (0, 0) _ rfl (B.kb0 (B.bp4 BK308)) Try.underlying28 rfl (by kernel_rfl)) rfl ?_
  exact ⟨_, by first | rfl | (simp [errW_none, errW_some] <;> rfl) | (simp [*, errW_none, errW_some] <;> rfl), Kd.Q_of_R (B.kr0 (Kd.R_mono (B.rf4 HO1_3 BK308) (fun _ hk => hk.1))), B.st HI0, B.bs HB, by repeat (first | (with_reducible first | exact HK.out | apply Kept.alloc | apply Kept.drewN | apply Kept.drew | refine Kept.setCell ?_ (.inl (.inr rfl)) _ | refine Kept.setCell ?_ (.inr GW307.out) _ | refine Kept.setCell ?_ (.inr GW308.out) _) | exact HK.out)⟩

/-! ### spec_anyPlanes: function 54 -/
def spec_anyPlanes.f (k : Nat) (s0_0 : List Int) (s0_1 : Int) : Option (Int × Int) := (spec_reader_one.f k s0_0 s0_1 (([1, 3, 1, 4, 2] : List Int))).bind fun bt333 => (some (bt333.1, bt333.2))
theorem spec_anyPlanes.mono : ∀ a0 a1 k, LeO (spec_anyPlanes.f k a0 a1) (spec_anyPlanes.f (k + 1) a0 a1) := by
  intro a0 a1 k
  unfold spec_anyPlanes.f
  repeat' first
      | (with_reducible exact spec_reader_one.mono _ _ _ _)
      | (with_reducible exact LeO.refl _)
      | (with_reducible exact LeO.none _)
      | (with_reducible refine LeO.ite ?_ ?_)
      | (with_reducible refine LeO.bind ?_ (fun _ => ?_))
      | exact spec_reader_one.mono _ _ _ _
      | exact LeO.none _
      | refine LeO.ite ?_ ?_
      | refine LeO.bind ?_ (fun _ => ?_)
set_option maxHeartbeats 8000000 in
set_option maxRecDepth 100000 in
theorem spec_anyPlanes.calls (k : Nat) (g : Nat) (s0_0 : List Int) (s0_1 : Int) (r1 : Int) (r2 : Int) (w0 w : World) (hI : IsS69 w0 w g s0_0 s0_1) (hB : Below w0.heap.size w0 w) (h : spec_anyPlanes.f k s0_0 s0_1 = some (r1, r2)) :
    Calls Try.prog 54 #[.pointer (some ⟨g, 0, none⟩)] w fun e w' => e = .returned (.int .i64 r1) ∧ IsS69 w0 w' g s0_0 r2 ∧ Below w0.heap.size w0 w' ∧ KeepBut w w' g none := by
  have HI0 := Aside0.mk hI
  have HK := Aside0.mk (KeepBut.refl w g none)
  have HL := Aside0.mk hB.size
  clear hI
  have HW0 := Aside0.mk hB.size
  have HB := Aside0.mk hB
  clear hB
  have H : ((spec_reader_one.f k s0_0 s0_1 (([1, 3, 1, 4, 2] : List Int))).bind fun bt333 => (some (bt333.1, bt333.2))) = some (r1, r2) := h
  clear h
  obtain ⟨y330, hy330⟩ : ∃ y_ : List Int, y_ = (([1, 3, 1, 4, 2] : List Int)) := ⟨_, rfl⟩
  replace H : ((spec_reader_one.f k s0_0 s0_1 y330).bind fun bt333 => (some (bt333.1, bt333.2))) = some (r1, r2) := by first | (rw [hy330]; with_reducible exact H) | (have H2_ := (Option.bind_some _ _).symm.trans H; rw [hy330]; with_reducible exact H2_) | (have H2_ := (Option.bind_some _ _).symm.trans H; with_reducible exact H2_) | with_reducible exact H | (rw [hy330]; exact H) | exact H
  have Ny330 := Aside0.mk hy330
  clear hy330
  replace H := Option.bind_eq_some_iff.mp H
  obtain ⟨⟨t333, t334⟩, A20, H⟩ := H
  replace H : (some (t333, t334)) = some (r1, r2) := H
  have A2 := Aside0.mk A20
  clear A20
  simp only [Option.some.injEq, Prod.mk.injEq] at H
  obtain ⟨rfl, rfl⟩ := H
  go_enter Try.func54, Try.ntmps54
  go_wp2_with (first | ((with_reducible refine gate_dst (N := 4) rfl ?_); refine Kd.R_lit (Kd.int .i64) _ 3 ?hg (N := 4) ?hd (xs := ([1, 3, 1, 4, 2] : List Int)) (inner := [.int .i64 1, .int .i64 3, .int .i64 1, .int .i64 4, .int .i64 2]) (ok := fun _ => True) (okp := fun _ => True) ?hr ?hp (fun _ hk => hk) trivial (Below.refl _ _) (Nat.le_refl _) (by simp) ?_; (case hd => rfl); (case hg => rfl); (case hr => first | (go_simp; done) | (go_simp; rfl)); (case hp => exact (Reps.one (show Kd.M (Kd.int .i64) _ _ _ 1 [.int .i64 1] from rfl) (Reps.one (show Kd.M (Kd.int .i64) _ _ _ 3 [.int .i64 3] from rfl) (Reps.one (show Kd.M (Kd.int .i64) _ _ _ 1 [.int .i64 1] from rfl) (Reps.one (show Kd.M (Kd.int .i64) _ _ _ 4 [.int .i64 4] from rfl) (Reps.one (show Kd.M (Kd.int .i64) _ _ _ 2 [.int .i64 2] from rfl) (Reps.none _ _))))))); intro v331 w3 ho4 hb hg_ hnew_; clear hg_ hnew_; (first | rw [← Ny330.out] at ho4 | (simp only [Int.reduceToNat] at ho4; rw [← Ny330.out] at ho4)); have n0_ := Aside0.mk (Kd.R_lower ho4 (keep_size (w := w) (g := g) (row := none) (B.kk HK))); have n1_ := Aside0.mk (IsS69.below (B.st HI0) hb); have n2_ := Aside0.mk (KeepBut.trans (B.kk HK) (KeepBut.of_below hb g none) (.inl rfl)); have n3_ := Aside0.mk (below_step (B.bs HB) hb); clear HI0 HK HB; have HO332 := n0_; have HI0 := n1_; have HK := n2_; have HB := n3_; clear n0_ n1_ n2_ n3_; clear hb ho4; obtain ⟨Ao5, co5, eo5⟩ := Kd.R_slice HO332.out; subst eo5) | ((with_reducible refine gate_callee (f := 43) rfl ?_); refine goesL_ (some 5) rfl rfl Try.func43 (by kernel_rfl) rfl #[.pointer (some ⟨g, 0, none⟩), .slice Ao5 y330.length co5] rfl B.am ?_; (with_reducible refine (spec_reader_one.calls k g s0_0 s0_1 _ _ y330 t333 t334 w0 _ ?side1 ?side2 ?side3 ?side4 ?side5 A2.out).mono ?_); (case side1 => exact B.st HI0); (case side2 => exact B.bs HB); (case side3 => exact B.kc ((Kd.R_reads' HO332.out).2.2)); (case side4 => exact (Kd.R_reads' HO332.out).2.1); (case side5 => exact far_slice (IsS69.own_ne HI0.out HO332.out (by decide))); rintro e w6 ⟨rfl, hi, hb, hk⟩; refine ⟨_, rfl, ?_⟩; have n0_ := Aside0.mk (Kd.R_mono (Kd.R_keep (IsS69.apart (show IsS69 w0 _ g s0_0 s0_1 from B.st HI0) (B.kr HO332) (by decide)) hk (fun _ h => h.2)) (fun _ h => h.1)); have n1_ := Aside0.mk (KeepBut.trans (B.kk HK) hk (.inl rfl)); have n2_ := Aside0.mk (hb); have n3_ := Aside0.mk (hi); clear HO332 HK HB HI0; have HO332 := n0_; have HK := n1_; have HB := n2_; have HI0 := n3_; clear n0_ n1_ n2_ n3_; (try clear hb); (try clear hb2); (try clear hk); (try clear hi)))
  go_ret
  exact ⟨by first | rfl | (simp [errW_none, errW_some] <;> rfl) | (simp [*, errW_none, errW_some] <;> rfl), B.st HI0, B.bs HB, B.kk HK⟩

/-! ### spec_anyImage: function 37 -/
def spec_anyImage.f (k : Nat) (s0_0 : List Int) (s0_1 : Int) : Option (Int × Int × Int × List Int × Int) := (spec_anyPlanes.f k s0_0 s0_1).bind fun bt336 => ((spec_randomImage.f k s0_0 bt336.2 bt336.1).bind fun bt338 => ((spec_spoilImage.f k s0_0 bt338.2.2.2.2 bt338.1 bt338.2.1 bt338.2.2.1 bt338.2.2.2.1).bind fun bt345 => (some (bt345.1, bt345.2.1, bt345.2.2.1, bt345.2.2.2.1, bt345.2.2.2.2))))
theorem spec_anyImage.mono : ∀ a0 a1 k, LeO (spec_anyImage.f k a0 a1) (spec_anyImage.f (k + 1) a0 a1) := by
  intro a0 a1 k
  unfold spec_anyImage.f
  repeat' first
      | (with_reducible exact spec_anyPlanes.mono _ _ _)
      | (with_reducible exact spec_randomImage.mono _ _ _ _)
      | (with_reducible exact spec_spoilImage.mono _ _ _ _ _ _ _)
      | (with_reducible exact LeO.refl _)
      | (with_reducible exact LeO.none _)
      | (with_reducible refine LeO.ite ?_ ?_)
      | (with_reducible refine LeO.bind ?_ (fun _ => ?_))
      | exact spec_anyPlanes.mono _ _ _
      | exact spec_randomImage.mono _ _ _ _
      | exact spec_spoilImage.mono _ _ _ _ _ _ _
      | exact LeO.none _
      | refine LeO.ite ?_ ?_
      | refine LeO.bind ?_ (fun _ => ?_)
set_option maxHeartbeats 8000000 in
set_option maxRecDepth 100000 in
theorem spec_anyImage.calls (k : Nat) (g : Nat) (s0_0 : List Int) (s0_1 : Int) (r1 : Int) (r2 : Int) (r3 : Int) (r4 : List Int) (r5 : Int) (w0 w : World) (hI : IsS69 w0 w g s0_0 s0_1) (hB : Below w0.heap.size w0 w) (h : spec_anyImage.f k s0_0 s0_1 = some (r1, r2, r3, r4, r5)) :
    Calls Try.prog 37 #[.pointer (some ⟨g, 0, none⟩)] w fun e w' => ∃ v3_ : Value, e = .returned (.agg #[.int .i64 r1, .int .i64 r2, .int .i64 r3, v3_]) ∧ Kd.Q (Kd.int .i64) 3 w' w.heap.size (fun _ => True) v3_ r4 ∧ IsS69 w0 w' g s0_0 r5 ∧ Below w0.heap.size w0 w' ∧ KeepBut w w' g none := by
  have hu28 := Try.underlying28
  have HI0 := Aside0.mk hI
  have HK := Aside0.mk (KeepBut.refl w g none)
  have HL := Aside0.mk hB.size
  clear hI
  have HW0 := Aside0.mk hB.size
  have HB := Aside0.mk hB
  clear hB
  have H : ((spec_anyPlanes.f k s0_0 s0_1).bind fun bt336 => ((spec_randomImage.f k s0_0 bt336.2 bt336.1).bind fun bt338 => ((spec_spoilImage.f k s0_0 bt338.2.2.2.2 bt338.1 bt338.2.1 bt338.2.2.1 bt338.2.2.2.1).bind fun bt345 => (some (bt345.1, bt345.2.1, bt345.2.2.1, bt345.2.2.2.1, bt345.2.2.2.2))))) = some (r1, r2, r3, r4, r5) := h
  clear h
  replace H := Option.bind_eq_some_iff.mp H
  obtain ⟨⟨t336, t337⟩, A20, H⟩ := H
  replace H : ((spec_randomImage.f k s0_0 t337 t336).bind fun bt338 => ((spec_spoilImage.f k s0_0 bt338.2.2.2.2 bt338.1 bt338.2.1 bt338.2.2.1 bt338.2.2.2.1).bind fun bt345 => (some (bt345.1, bt345.2.1, bt345.2.2.1, bt345.2.2.2.1, bt345.2.2.2.2)))) = some (r1, r2, r3, r4, r5) := H
  have A2 := Aside0.mk A20
  clear A20
  replace H := Option.bind_eq_some_iff.mp H
  obtain ⟨⟨t338, t339, t340, t341, t344⟩, A30, H⟩ := H
  replace H : ((spec_spoilImage.f k s0_0 t344 t338 t339 t340 t341).bind fun bt345 => (some (bt345.1, bt345.2.1, bt345.2.2.1, bt345.2.2.2.1, bt345.2.2.2.2))) = some (r1, r2, r3, r4, r5) := H
  have A3 := Aside0.mk A30
  clear A30
  replace H := Option.bind_eq_some_iff.mp H
  obtain ⟨⟨t345, t346, t347, t348, t351⟩, A40, H⟩ := H
  replace H : (some (t345, t346, t347, t348, t351)) = some (r1, r2, r3, r4, r5) := H
  have A4 := Aside0.mk A40
  clear A40
  simp only [Option.some.injEq, Prod.mk.injEq] at H
  obtain ⟨rfl, rfl, rfl, rfl, rfl⟩ := H
  go_enter Try.func37, Try.ntmps37
  go_wp2_with (first | ((with_reducible refine gate_dst (N := 2) rfl ?_); refine box_event ?hg (N := 2) ?hd (cs := #[.int .i64 0, .int .i64 0, .int .i64 0, .slice none 0 0]) (t := 28) ?hr ?_; (case hd => rfl); (case hg => rfl); (case hr => first | (go_simp; done) | (go_simp; rfl)); intro gb335 hg w5 hbox hb; have n0_ := Aside0.mk (IsS69.below (B.st HI0) hb); have n1_ := Aside0.mk (KeepBut.trans (B.kk HK) (KeepBut.of_below hb g none) (.inl rfl)); have n2_ := Aside0.mk (below_step (B.bs HB) hb); have n3_ := Aside0.mk (hbox); have n4_ := Aside0.mk ((by rw [hg]; exact (keep_size (w := w) (g := g) (row := none) (B.kk HK)) : w.heap.size ≤ gb335)); have n5_ := Aside0.mk ((Nat.le_trans HW0.out (by rw [hg]; exact (keep_size (w := w) (g := g) (row := none) (B.kk HK)) : w.heap.size ≤ gb335) : w0.heap.size ≤ gb335)); have n6_ := Aside0.mk ((by rw [hg]; exact Nat.ne_of_lt (IsS69.lt (show IsS69 w0 _ g s0_0 s0_1 from B.st HI0)) : g ≠ gb335)); have n7_ := Aside0.mk ((by rw [hg]; exact Nat.ne_of_gt (IsS69.lt (show IsS69 w0 _ g s0_0 s0_1 from B.st HI0)) : gb335 ≠ g)); clear HI0 HK HB; have HI0 := n0_; have HK := n1_; have HB := n2_; have BK335 := n3_; have GW335 := n4_; have GE335 := n5_; have NB0_335 := n6_; have NB335_0 := n7_; clear n0_ n1_ n2_ n3_ n4_ n5_ n6_ n7_; clear hb hbox hg) | ((with_reducible refine gate_callee (f := 54) rfl ?_); refine goesL_ (some 6) rfl rfl Try.func54 (by kernel_rfl) rfl #[.pointer (some ⟨g, 0, none⟩)] rfl B.am ?_; (with_reducible refine (spec_anyPlanes.calls k g s0_0 s0_1 t336 t337 w0 _ ?side1 ?side2 A2.out).mono ?_); (case side1 => exact B.st HI0); (case side2 => exact B.bs HB); rintro e w6 ⟨rfl, hi, hb, hk⟩; refine ⟨_, rfl, ?_⟩; have n0_ := Aside0.mk (KeepBut.blk hk (g' := gb335) (o := .cells #[.int .i64 0, .int .i64 0, .int .i64 0, .slice none 0 0] 28 (0, 0)) (B.kb BK335) NB335_0.out (by simp)); have n1_ := Aside0.mk (KeepBut.trans (B.kk HK) hk (.inl rfl)); have n2_ := Aside0.mk (hb); have n3_ := Aside0.mk (hi); clear BK335 HK HB HI0; have BK335 := n0_; have HK := n1_; have HB := n2_; have HI0 := n3_; clear n0_ n1_ n2_ n3_; (try clear hb); (try clear hb2); (try clear hk); (try clear hi)) | ((with_reducible refine gate_callee (f := 44) rfl ?_); refine goesL_ (some 7) rfl rfl Try.func44 (by kernel_rfl) rfl #[.pointer (some ⟨g, 0, none⟩), .int .i64 t336] rfl B.am ?_; (with_reducible refine (spec_randomImage.calls k g s0_0 t337 t336 t338 t339 t340 t341 t344 w0 _ ?side1 ?side2 A3.out).mono ?_); (case side1 => exact B.st HI0); (case side2 => exact B.bs HB); rintro e w7 ⟨v342, rfl, ho0, hi, hb, hk⟩; refine ⟨_, rfl, ?_⟩; have n0_ := Aside0.mk (KeepBut.blk hk (g' := gb335) (o := .cells #[.int .i64 0, .int .i64 0, .int .i64 0, .slice none 0 0] 28 (0, 0)) (B.kb BK335) NB335_0.out (by simp)); have n1_ := Aside0.mk (Kd.R_lower ho0 (keep_size (w := w) (g := g) (row := none) (B.kk HK))); have n2_ := Aside0.mk (KeepBut.trans (B.kk HK) hk (.inl rfl)); have n3_ := Aside0.mk (hb); have n4_ := Aside0.mk (hi); clear BK335 HK HB HI0; have BK335 := n0_; have HO343 := n1_; have HK := n2_; have HB := n3_; have HI0 := n4_; clear n0_ n1_ n2_ n3_ n4_; (try clear hb); (try clear hb2); (try clear hk); (try clear hi); (try clear ho0); obtain ⟨Ao8, co8, eo8⟩ := Kd.R_slice HO343.out; subst eo8) | ((with_reducible refine gate_callee (f := 53) rfl ?_); refine goesL_ (some 8) rfl rfl Try.func53 (by kernel_rfl) rfl #[.pointer (some ⟨g, 0, none⟩), .agg #[.int .i64 t338, .int .i64 t339, .int .i64 t340, .slice Ao8 t341.length co8]] rfl B.am ?_; (with_reducible refine (spec_spoilImage.calls k g s0_0 t344 t338 t339 t340 (fun k_ => some k_ = (.slice Ao8 t341.length co8 : Value).ownBlock) (.slice Ao8 t341.length co8) t341 t345 t346 t347 t348 t351 w0 _ ?side1 ?side2 ?side3 A4.out).mono ?_); (case side1 => exact B.st HI0); (case side2 => exact B.bs HB); (case side3 => exact Kd.R_lower (Kd.R_tight rfl HO343.out) HL.out); rintro e w9 ⟨v349, rfl, ho0, hi, hb, hkp⟩; refine ⟨_, rfl, ?_⟩; have n0_ := Aside0.mk (hi); have n1_ := Aside0.mk (blk_kept (B.kb BK335) hkp (fun hs_ => Or.elim hs_ (fun hs_ => (fun e_ => (Kd.R_ne HO343.out BK335.out (by decide)) e_) hs_) (fun e_ => NB335_0.out e_))); have n2_ := Aside0.mk (Kd.Q_mono (ok' := fun k_ => True) (B.Q_raise (d := (Kd.int .i64)) (b := w0.heap.size) (b' := w.heap.size) (fun _ _ _ _ h_ => h_) ho0 (fun k_ e_ => Or.elim (ho0.1 k_ e_) (fun hs_ => (fun e_ => Kd.R_base HO343.out k_ e_.symm) hs_) (fun hn_ => Nat.le_trans (keep_size (w := w) (g := g) (row := none) (B.kk HK)) hn_))) (fun k_ hk_ => trivial)); have n3_ := Aside0.mk (Kept.keepG (B.kk HK) hkp (fun k_ hs_ => Or.elim hs_ (fun hs_ => (fun e_ => .inr (Kd.R_base HO343.out k_ e_.symm)) hs_) (fun e_ => .inl e_))); have n4_ := Aside0.mk (hb); clear HI0 BK335 HK HB HO343; have HI0 := n0_; have BK335 := n1_; have HO350 := n2_; have HK := n3_; have HB := n4_; clear n0_ n1_ n2_ n3_ n4_; (try clear hb); (try clear hkp); (try clear ho0); have hnb10 := NB335_0.out; have hnc10 := NB0_335.out; have hcz11_0 : w9.cell? ⟨gb335, 0, none⟩ = some (.int .i64 0) := B.bc BK335 0; have hcz11_1 : w9.cell? ⟨gb335, 1, none⟩ = some (.int .i64 0) := B.bc BK335 1; have hcz11_2 : w9.cell? ⟨gb335, 2, none⟩ = some (.int .i64 0) := B.bc BK335 2; have hcz11_3 : w9.cell? ⟨gb335, 3, none⟩ = some (.slice none 0 0) := B.bc BK335 3; have hfz11_0 := blk_frozen BK335.out 0; have hfz11_1 := blk_frozen BK335.out 1; have hfz11_2 := blk_frozen BK335.out 2; have hfz11_3 := blk_frozen BK335.out 3; obtain ⟨Ao12, co12, eo12, _⟩ := Kd.Q_slice HO350.out; subst eo12))
  refine bodyPost_ret (results_cell_row rfl _ _ gb335 28 #[.int .i64 t345, .int .i64 t346, .int .i64 t347, .slice Ao12 t348.length co12] (0, 0) _ rfl (B.kb0 (B.bp4 BK335)) Try.underlying28 rfl (by kernel_rfl)) rfl ?_
  exact ⟨_, by first | rfl | (simp [errW_none, errW_some] <;> rfl) | (simp [*, errW_none, errW_some] <;> rfl), by (with_reducible repeat (first | apply Kd.Q_alloc | apply Kd.Q_drewN | apply Kd.Q_drew)); exact Kd.Q_mono (Kd.Q_far (p := ⟨gb335, 3, none⟩) (Kd.Q_far (p := ⟨gb335, 2, none⟩) (Kd.Q_far (p := ⟨gb335, 1, none⟩) (Kd.Q_far (p := ⟨gb335, 0, none⟩) (Kd.Q_types HO350.out BK335.out (by decide)) (fun _ hk => hk.2) (.int .i64 t345)) (fun _ hk => hk.2) (.int .i64 t346)) (fun _ hk => hk.2) (.int .i64 t347)) (fun _ hk => hk.2) (.slice Ao12 t348.length co12)) (fun _ hk => trivial), B.st HI0, B.bs HB, B.kk HK⟩

/-! ### laws_equalInts: function 19 -/
def laws_equalInts.l0 : Nat → List Int → List Int → Int → Option (Bool)
  | 0, _, _, _ => none
  | k + 1, x0, x1, x5 => if x5 < (x0.length : Int) then (if 0 ≤ x5 then (if x5 < (x1.length : Int) then (if (rd x0 x5) = (rd x1 x5) then (laws_equalInts.l0 k x0 x1 (wrap64 (x5 + 1))) else (some false)) else (none)) else (none)) else (some true)
def laws_equalInts.f (k : Nat) (l0 : List Int) (l1 : List Int) : Option (Bool) := if (l0.length : Int) = (l1.length : Int) then (laws_equalInts.l0 k l0 l1 0) else (some false)
theorem laws_equalInts.mono_l : ∀ k, (∀ y0 y1 y2, LeO (laws_equalInts.l0 k y0 y1 y2) (laws_equalInts.l0 (k + 1) y0 y1 y2))
  | 0 => fun _ _ _ r h => by simp [laws_equalInts.l0] at h
  | k + 1 => by
    have ih0 := laws_equalInts.mono_l k
    · intro y0 y1 y2
      unfold laws_equalInts.l0
      repeat' first
      | (with_reducible exact ih0 _ _ _)
      | (with_reducible exact LeO.refl _)
      | (with_reducible exact LeO.none _)
      | (with_reducible refine LeO.ite ?_ ?_)
      | (with_reducible refine LeO.bind ?_ (fun _ => ?_))
      | exact ih0 _ _ _
      | exact LeO.none _
      | refine LeO.ite ?_ ?_
      | refine LeO.bind ?_ (fun _ => ?_)
theorem laws_equalInts.mono : ∀ a0 a1 k, LeO (laws_equalInts.f k a0 a1) (laws_equalInts.f (k + 1) a0 a1) := by
  intro a0 a1 k
  have ih0 := laws_equalInts.mono_l k
  unfold laws_equalInts.f
  repeat' first
      | (with_reducible exact ih0 _ _ _)
      | (with_reducible exact LeO.refl _)
      | (with_reducible exact LeO.none _)
      | (with_reducible refine LeO.ite ?_ ?_)
      | (with_reducible refine LeO.bind ?_ (fun _ => ?_))
      | exact ih0 _ _ _
      | exact LeO.none _
      | refine LeO.ite ?_ ?_
      | refine LeO.bind ?_ (fun _ => ?_)
set_option maxHeartbeats 8000000 in
set_option maxRecDepth 100000 in
theorem laws_equalInts.calls (k : Nat) (A0 : Option Addr) (c0 : Nat) (l0 : List Int) (A1 : Option Addr) (c1 : Nat) (l1 : List Int) (r : Bool) (w : World) (hr0 : Kd.C (Kd.int .i64) w A0 l0.length l0) (hc0 : l0.length ≤ c0) (hr1 : Kd.C (Kd.int .i64) w A1 l1.length l1) (hc1 : l1.length ≤ c1) (h : laws_equalInts.f k l0 l1 = some r) :
    Calls Try.prog 19 #[.slice A0 l0.length c0, .slice A1 l1.length c1] w fun e w' => e = .returned (.bool r) ∧ Drawn0 w w' := by
  have HR0 := Aside0.mk hr0
  have HC0 := Aside0.mk hc0
  clear hr0 hc0
  have HR1 := Aside0.mk hr1
  have HC1 := Aside0.mk hc1
  clear hr1 hc1
  have H : (if (l0.length : Int) = (l1.length : Int) then (laws_equalInts.l0 k l0 l1 0) else (some false)) = some r := h
  clear h
  by_cases c3 : (l0.length : Int) = (l1.length : Int)
  · rw [if_pos c3] at H
    have c3b0 : ((l0.length : Int) == (l1.length : Int)) = true := beq_iff_eq.mpr c3
    have c3b1 : ((l0.length : Int) != (l1.length : Int)) = false := bne_eq_false_iff_eq.mpr c3
    have c3b2 : (l0.length == l1.length) = true := by first | simpa using c3 | (simp at c3 ⊢; omega)
    clear c3
    have H' := Aside0.mk H
    clear H
    go_enter Try.func19, Try.ntmps19
    go_wp2
    repeat (go_quiet (fail); try go_wp2)
    go_loopg [5] k (fun kq v5 w' => ∃ (x5_1 : Int), v5 = .int .i64 x5_1 ∧ Aside0 (laws_equalInts.l0 kq l0 l1 x5_1 = some r) ∧ Aside0 (kq ≤ k) ∧ Drawn0 w w')
    case atStart => exact ⟨(0), (by first | rfl | (simp; done) | (simp [*]; done)), H', ⟨Nat.le_refl _⟩, by repeat (first | exact Drawn0.refl _ | apply Drawn0.step)⟩
    case round =>
      clear H'
      try clear c1
      try clear p2
      try clear c3
      try clear c3b0
      try clear c3b1
      try clear c3b2
      obtain ⟨x5_1, rfl, HA, HK1, ⟨m1, rfl⟩⟩ := hrel
      cases gk with
      | zero => exact absurd HA.out (by simp [laws_equalInts.l0])
      | succ k1 =>
        have H := HA.out
        clear HA
        simp only [laws_equalInts.l0] at H
        by_cases c4 : x5_1 < (l0.length : Int)
        · rw [if_pos c4] at H
          have c4b0 : decide (x5_1 < (l0.length : Int)) = true := decide_eq_true c4
          clear c4
          by_cases c5 : 0 ≤ x5_1
          · rw [if_pos c5] at H
            have c5b0 : decide (0 ≤ x5_1) = true := decide_eq_true c5
            clear c5
            by_cases c6 : x5_1 < (l1.length : Int)
            · rw [if_pos c6] at H
              have c6b0 : decide (x5_1 < (l1.length : Int)) = true := decide_eq_true c6
              clear c6
              by_cases c7 : (rd l0 x5_1) = (rd l1 x5_1)
              · rw [if_pos c7] at H
                have c7b0 : ((rd l0 x5_1) == (rd l1 x5_1)) = true := beq_iff_eq.mpr c7
                have c7b1 : ((rd l0 x5_1) != (rd l1 x5_1)) = false := bne_eq_false_iff_eq.mpr c7
                clear c7
                have H' := Aside0.mk H
                clear H
                have p391 : 0 ≤ (x5_1 : Int) := of_decide_eq_true (by first | (with_reducible assumption) | assumption)
                have q391 : x5_1 < (l0.length : Int) := of_decide_eq_true (by first | (with_reducible assumption) | assumption)
                obtain ⟨ad391, e391, hx391_0⟩ := Kd.at_int HR0.out x5_1 p391 q391
                cases e391
                replace p391 := eq_true p391
                replace q391 := eq_true q391
                have p392 : 0 ≤ (x5_1 : Int) := of_decide_eq_true (by first | (with_reducible assumption) | assumption)
                have q392 : x5_1 < (l1.length : Int) := of_decide_eq_true (by first | (with_reducible assumption) | assumption)
                obtain ⟨ad392, e392, hx392_0⟩ := Kd.at_int HR1.out x5_1 p392 q392
                cases e392
                replace p392 := eq_true p392
                replace q392 := eq_true q392
                go_wp2
                repeat (go_quiet (fail); try go_wp2)
                go_roundg k1
                case measure => have := HK1.out; omega
                case rel => exact ⟨(wrap64 (x5_1 + 1)), (by first | rfl | (simp; done) | (simp [*]; done)), H', ⟨by have := HK1.out; omega⟩, by repeat (first | exact Drawn0.refl _ | apply Drawn0.step)⟩
              rw [if_neg c7] at H
              have c7b0 : ((rd l0 x5_1) == (rd l1 x5_1)) = false := beq_eq_false_iff_ne.mpr c7
              have c7b1 : ((rd l0 x5_1) != (rd l1 x5_1)) = true := bne_iff_ne.mpr c7
              obtain rfl := Option.some.inj H
              simp only [Option.some.injEq, Prod.mk.injEq] at H
              obtain ⟨rfl⟩ := H
              have p391 : 0 ≤ (x5_1 : Int) := of_decide_eq_true (by first | (with_reducible assumption) | assumption)
              have q391 : x5_1 < (l0.length : Int) := of_decide_eq_true (by first | (with_reducible assumption) | assumption)
              obtain ⟨ad391, e391, hx391_0⟩ := Kd.at_int HR0.out x5_1 p391 q391
              cases e391
              replace p391 := eq_true p391
              replace q391 := eq_true q391
              have p392 : 0 ≤ (x5_1 : Int) := of_decide_eq_true (by first | (with_reducible assumption) | assumption)
              have q392 : x5_1 < (l1.length : Int) := of_decide_eq_true (by first | (with_reducible assumption) | assumption)
              obtain ⟨ad392, e392, hx392_0⟩ := Kd.at_int HR1.out x5_1 p392 q392
              cases e392
              replace p392 := eq_true p392
              replace q392 := eq_true q392
              go_wp2
              repeat (go_quiet (fail); try go_wp2)
              go_ret
              exact ⟨by first | rfl | (simp; done) | (simp [*]; done), by repeat (first | exact Drawn0.refl _ | apply Drawn0.step)⟩
            rw [if_neg c6] at H
            exact absurd H (by simp)
          rw [if_neg c5] at H
          exact absurd H (by simp)
        rw [if_neg c4] at H
        have c4b0 : decide (x5_1 < (l0.length : Int)) = false := decide_eq_false c4
        clear c4
        obtain rfl := Option.some.inj H
        simp only [Option.some.injEq, Prod.mk.injEq] at H
        obtain ⟨rfl⟩ := H
        go_wp2
        repeat (go_quiet (fail); try go_wp2)
        go_ret
        exact ⟨by first | rfl | (simp; done) | (simp [*]; done), by repeat (first | exact Drawn0.refl _ | apply Drawn0.step)⟩
  rw [if_neg c3] at H
  have c3b0 : ((l0.length : Int) == (l1.length : Int)) = false := beq_eq_false_iff_ne.mpr c3
  have c3b1 : ((l0.length : Int) != (l1.length : Int)) = true := bne_iff_ne.mpr c3
  have c3b2 : (l0.length == l1.length) = false := by first | simpa using c3 | (simp at c3 ⊢; omega)
  obtain rfl := Option.some.inj H
  simp only [Option.some.injEq, Prod.mk.injEq] at H
  obtain ⟨rfl⟩ := H
  go_enter Try.func19, Try.ntmps19
  go_wp2
  repeat (go_quiet (fail); try go_wp2)
  go_ret
  exact ⟨by first | rfl | (simp; done) | (simp [*]; done), by repeat (first | exact Drawn0.refl _ | apply Drawn0.step)⟩

/-! ### laws_equalImage: function 17 -/
def laws_equalImage.f (k : Nat) (a0_0 : Int) (a0_1 : Int) (a0_2 : Int) (l0_3 : List Int) (a1_0 : Int) (a1_1 : Int) (a1_2 : Int) (l1_3 : List Int) : Option (Bool) := if a0_0 = a1_0 then (if a0_1 = a1_1 then (if a0_2 = a1_2 then ((laws_equalInts.f k l0_3 l1_3).bind fun t395 => (some t395)) else (some false)) else (some false)) else (some false)
theorem laws_equalImage.mono : ∀ a0 a1 a2 a3 a4 a5 a6 a7 k, LeO (laws_equalImage.f k a0 a1 a2 a3 a4 a5 a6 a7) (laws_equalImage.f (k + 1) a0 a1 a2 a3 a4 a5 a6 a7) := by
  intro a0 a1 a2 a3 a4 a5 a6 a7 k
  unfold laws_equalImage.f
  repeat' first
      | (with_reducible exact laws_equalInts.mono _ _ _)
      | (with_reducible exact LeO.refl _)
      | (with_reducible exact LeO.none _)
      | (with_reducible refine LeO.ite ?_ ?_)
      | (with_reducible refine LeO.bind ?_ (fun _ => ?_))
      | exact laws_equalInts.mono _ _ _
      | exact LeO.none _
      | refine LeO.ite ?_ ?_
      | refine LeO.bind ?_ (fun _ => ?_)
set_option maxHeartbeats 8000000 in
set_option maxRecDepth 100000 in
theorem laws_equalImage.calls (k : Nat) (a0_0 : Int) (a0_1 : Int) (a0_2 : Int) (A0_3 : Option Addr) (c0_3 : Nat) (l0_3 : List Int) (a1_0 : Int) (a1_1 : Int) (a1_2 : Int) (A1_3 : Option Addr) (c1_3 : Nat) (l1_3 : List Int) (r : Bool) (w : World) (hr0_3 : Kd.C (Kd.int .i64) w A0_3 l0_3.length l0_3) (hc0_3 : l0_3.length ≤ c0_3) (hr1_3 : Kd.C (Kd.int .i64) w A1_3 l1_3.length l1_3) (hc1_3 : l1_3.length ≤ c1_3) (h : laws_equalImage.f k a0_0 a0_1 a0_2 l0_3 a1_0 a1_1 a1_2 l1_3 = some r) :
    Calls Try.prog 17 #[.agg #[.int .i64 a0_0, .int .i64 a0_1, .int .i64 a0_2, .slice A0_3 l0_3.length c0_3], .agg #[.int .i64 a1_0, .int .i64 a1_1, .int .i64 a1_2, .slice A1_3 l1_3.length c1_3]] w fun e w' => e = .returned (.bool r) ∧ Below w.heap.size w w' := by
  have hu28 := Try.underlying28
  have HR0_3 := Aside0.mk hr0_3
  have HC0_3 := Aside0.mk hc0_3
  clear hr0_3 hc0_3
  have HR1_3 := Aside0.mk hr1_3
  have HC1_3 := Aside0.mk hc1_3
  clear hr1_3 hc1_3
  have HB := Aside0.mk (Below.refl w.heap.size w)
  have H : (if a0_0 = a1_0 then (if a0_1 = a1_1 then (if a0_2 = a1_2 then ((laws_equalInts.f k l0_3 l1_3).bind fun t395 => (some t395)) else (some false)) else (some false)) else (some false)) = some r := h
  clear h
  by_cases c3 : a0_0 = a1_0
  · rw [if_pos c3] at H
    have c3b0 : (a0_0 == a1_0) = true := beq_iff_eq.mpr c3
    have c3b1 : (a0_0 != a1_0) = false := bne_eq_false_iff_eq.mpr c3
    clear c3
    by_cases c4 : a0_1 = a1_1
    · rw [if_pos c4] at H
      have c4b0 : (a0_1 == a1_1) = true := beq_iff_eq.mpr c4
      have c4b1 : (a0_1 != a1_1) = false := bne_eq_false_iff_eq.mpr c4
      clear c4
      by_cases c5 : a0_2 = a1_2
      · rw [if_pos c5] at H
        have c5b0 : (a0_2 == a1_2) = true := beq_iff_eq.mpr c5
        have c5b1 : (a0_2 != a1_2) = false := bne_eq_false_iff_eq.mpr c5
        clear c5
        replace H := Option.bind_eq_some_iff.mp H
        obtain ⟨t395, A60, H⟩ := H
        replace H : (some t395) = some r := H
        have A6 := Aside0.mk A60
        clear A60
        obtain rfl := Option.some.inj H
        simp only [Option.some.injEq, Prod.mk.injEq] at H
        obtain ⟨rfl⟩ := H
        go_enter Try.func17, Try.ntmps17
        go_wp2_with (first | ((with_reducible refine gate_dst (N := 2) rfl ?_); refine box_event ?hg (N := 2) ?hd (cs := #[.int .i64 a0_0, .int .i64 a0_1, .int .i64 a0_2, .slice A0_3 l0_3.length c0_3]) (t := 28) ?hr ?_; (case hd => rfl); (case hg => rfl); (case hr => first | (go_simp; done) | (go_simp; rfl)); intro gb393 hg w7 hbox hb; have n0_ := Aside0.mk (below_step (B.bl HB) hb); have n1_ := Aside0.mk (hbox); have n2_ := Aside0.mk (B.nle hg (below_size (B.bl HB))); have n3_ := Aside0.mk (B.nle hg (below_size (B.bl HB))); clear HB; have HB := n0_; have BK393 := n1_; have GW393 := n2_; have GE393 := n3_; clear n0_ n1_ n2_ n3_; clear hb hbox hg) | ((with_reducible refine gate_dst (N := 3) rfl ?_); refine box_event ?hg (N := 3) ?hd (cs := #[.int .i64 a1_0, .int .i64 a1_1, .int .i64 a1_2, .slice A1_3 l1_3.length c1_3]) (t := 28) ?hr ?_; (case hd => rfl); (case hg => rfl); (case hr => first | (go_simp; done) | (go_simp; rfl)); intro gb394 hg w8 hbox hb; have n0_ := Aside0.mk (blk_below (B.kb BK393) hb); have n1_ := Aside0.mk (below_step (B.bl HB) hb); have n2_ := Aside0.mk (hbox); have n3_ := Aside0.mk (B.nle hg (below_size (B.bl HB))); have n4_ := Aside0.mk (B.nle hg (below_size (B.bl HB))); have n5_ := Aside0.mk (B.nlt hg (blk_lt (B.kb BK393))); have n6_ := Aside0.mk (B.ngt hg (blk_lt (B.kb BK393))); clear BK393 HB; have BK393 := n0_; have HB := n1_; have BK394 := n2_; have GW394 := n3_; have GE394 := n4_; have NB393_394 := n5_; have NB394_393 := n6_; clear n0_ n1_ n2_ n3_ n4_ n5_ n6_; clear hb hbox hg; have hnb9 := NB393_394.out; have hnc9 := NB394_393.out; have hcz10_0 : w8.cell? ⟨gb393, 0, none⟩ = some (.int .i64 a0_0) := B.bc BK393 0; have hcz10_1 : w8.cell? ⟨gb393, 1, none⟩ = some (.int .i64 a0_1) := B.bc BK393 1; have hcz10_2 : w8.cell? ⟨gb393, 2, none⟩ = some (.int .i64 a0_2) := B.bc BK393 2; have hcz10_3 : w8.cell? ⟨gb393, 3, none⟩ = some (.slice A0_3 l0_3.length c0_3) := B.bc BK393 3; have hfz10_0 := blk_frozen BK393.out 0; have hfz10_1 := blk_frozen BK393.out 1; have hfz10_2 := blk_frozen BK393.out 2; have hfz10_3 := blk_frozen BK393.out 3; have hcz11_0 : w8.cell? ⟨gb394, 0, none⟩ = some (.int .i64 a1_0) := B.bc BK394 0; have hcz11_1 : w8.cell? ⟨gb394, 1, none⟩ = some (.int .i64 a1_1) := B.bc BK394 1; have hcz11_2 : w8.cell? ⟨gb394, 2, none⟩ = some (.int .i64 a1_2) := B.bc BK394 2; have hcz11_3 : w8.cell? ⟨gb394, 3, none⟩ = some (.slice A1_3 l1_3.length c1_3) := B.bc BK394 3; have hfz11_0 := blk_frozen BK394.out 0; have hfz11_1 := blk_frozen BK394.out 1; have hfz11_2 := blk_frozen BK394.out 2; have hfz11_3 := blk_frozen BK394.out 3) | (go_at_call 19; (with_reducible refine (laws_equalInts.calls k _ _ l0_3 _ _ l1_3 t395 _ ?side1 ?side2 ?side3 ?side4 A6.out).mono ?_); (case side1 => exact B.kc (Kd.C_below HR0_3.out HB.out)); (case side2 => exact HC0_3.out); (case side3 => exact B.kc (Kd.C_below HR1_3.out HB.out)); (case side4 => exact HC1_3.out); rintro e w' ⟨rfl, ⟨nd, rfl⟩⟩))
        go_ret
        exact ⟨by first | rfl | (simp [errW_none, errW_some] <;> rfl) | (simp [*, errW_none, errW_some] <;> rfl), B.bl HB⟩
      rw [if_neg c5] at H
      have c5b0 : (a0_2 == a1_2) = false := beq_eq_false_iff_ne.mpr c5
      have c5b1 : (a0_2 != a1_2) = true := bne_iff_ne.mpr c5
      obtain rfl := Option.some.inj H
      simp only [Option.some.injEq, Prod.mk.injEq] at H
      obtain ⟨rfl⟩ := H
      go_enter Try.func17, Try.ntmps17
      go_wp2_with (first | ((with_reducible refine gate_dst (N := 2) rfl ?_); refine box_event ?hg (N := 2) ?hd (cs := #[.int .i64 a0_0, .int .i64 a0_1, .int .i64 a0_2, .slice A0_3 l0_3.length c0_3]) (t := 28) ?hr ?_; (case hd => rfl); (case hg => rfl); (case hr => first | (go_simp; done) | (go_simp; rfl)); intro gb393 hg w12 hbox hb; have n0_ := Aside0.mk (below_step (B.bl HB) hb); have n1_ := Aside0.mk (hbox); have n2_ := Aside0.mk (B.nle hg (below_size (B.bl HB))); have n3_ := Aside0.mk (B.nle hg (below_size (B.bl HB))); clear HB; have HB := n0_; have BK393 := n1_; have GW393 := n2_; have GE393 := n3_; clear n0_ n1_ n2_ n3_; clear hb hbox hg) | ((with_reducible refine gate_dst (N := 3) rfl ?_); refine box_event ?hg (N := 3) ?hd (cs := #[.int .i64 a1_0, .int .i64 a1_1, .int .i64 a1_2, .slice A1_3 l1_3.length c1_3]) (t := 28) ?hr ?_; (case hd => rfl); (case hg => rfl); (case hr => first | (go_simp; done) | (go_simp; rfl)); intro gb394 hg w13 hbox hb; have n0_ := Aside0.mk (blk_below (B.kb BK393) hb); have n1_ := Aside0.mk (below_step (B.bl HB) hb); have n2_ := Aside0.mk (hbox); have n3_ := Aside0.mk (B.nle hg (below_size (B.bl HB))); have n4_ := Aside0.mk (B.nle hg (below_size (B.bl HB))); have n5_ := Aside0.mk (B.nlt hg (blk_lt (B.kb BK393))); have n6_ := Aside0.mk (B.ngt hg (blk_lt (B.kb BK393))); clear BK393 HB; have BK393 := n0_; have HB := n1_; have BK394 := n2_; have GW394 := n3_; have GE394 := n4_; have NB393_394 := n5_; have NB394_393 := n6_; clear n0_ n1_ n2_ n3_ n4_ n5_ n6_; clear hb hbox hg; have hnb14 := NB393_394.out; have hnc14 := NB394_393.out; have hcz15_0 : w13.cell? ⟨gb393, 0, none⟩ = some (.int .i64 a0_0) := B.bc BK393 0; have hcz15_1 : w13.cell? ⟨gb393, 1, none⟩ = some (.int .i64 a0_1) := B.bc BK393 1; have hcz15_2 : w13.cell? ⟨gb393, 2, none⟩ = some (.int .i64 a0_2) := B.bc BK393 2; have hcz15_3 : w13.cell? ⟨gb393, 3, none⟩ = some (.slice A0_3 l0_3.length c0_3) := B.bc BK393 3; have hfz15_0 := blk_frozen BK393.out 0; have hfz15_1 := blk_frozen BK393.out 1; have hfz15_2 := blk_frozen BK393.out 2; have hfz15_3 := blk_frozen BK393.out 3; have hcz16_0 : w13.cell? ⟨gb394, 0, none⟩ = some (.int .i64 a1_0) := B.bc BK394 0; have hcz16_1 : w13.cell? ⟨gb394, 1, none⟩ = some (.int .i64 a1_1) := B.bc BK394 1; have hcz16_2 : w13.cell? ⟨gb394, 2, none⟩ = some (.int .i64 a1_2) := B.bc BK394 2; have hcz16_3 : w13.cell? ⟨gb394, 3, none⟩ = some (.slice A1_3 l1_3.length c1_3) := B.bc BK394 3; have hfz16_0 := blk_frozen BK394.out 0; have hfz16_1 := blk_frozen BK394.out 1; have hfz16_2 := blk_frozen BK394.out 2; have hfz16_3 := blk_frozen BK394.out 3))
      go_ret
      exact ⟨by first | rfl | (simp [errW_none, errW_some] <;> rfl) | (simp [*, errW_none, errW_some] <;> rfl), B.bl HB⟩
    rw [if_neg c4] at H
    have c4b0 : (a0_1 == a1_1) = false := beq_eq_false_iff_ne.mpr c4
    have c4b1 : (a0_1 != a1_1) = true := bne_iff_ne.mpr c4
    obtain rfl := Option.some.inj H
    simp only [Option.some.injEq, Prod.mk.injEq] at H
    obtain ⟨rfl⟩ := H
    go_enter Try.func17, Try.ntmps17
    go_wp2_with (first | ((with_reducible refine gate_dst (N := 2) rfl ?_); refine box_event ?hg (N := 2) ?hd (cs := #[.int .i64 a0_0, .int .i64 a0_1, .int .i64 a0_2, .slice A0_3 l0_3.length c0_3]) (t := 28) ?hr ?_; (case hd => rfl); (case hg => rfl); (case hr => first | (go_simp; done) | (go_simp; rfl)); intro gb393 hg w17 hbox hb; have n0_ := Aside0.mk (below_step (B.bl HB) hb); have n1_ := Aside0.mk (hbox); have n2_ := Aside0.mk (B.nle hg (below_size (B.bl HB))); have n3_ := Aside0.mk (B.nle hg (below_size (B.bl HB))); clear HB; have HB := n0_; have BK393 := n1_; have GW393 := n2_; have GE393 := n3_; clear n0_ n1_ n2_ n3_; clear hb hbox hg) | ((with_reducible refine gate_dst (N := 3) rfl ?_); refine box_event ?hg (N := 3) ?hd (cs := #[.int .i64 a1_0, .int .i64 a1_1, .int .i64 a1_2, .slice A1_3 l1_3.length c1_3]) (t := 28) ?hr ?_; (case hd => rfl); (case hg => rfl); (case hr => first | (go_simp; done) | (go_simp; rfl)); intro gb394 hg w18 hbox hb; have n0_ := Aside0.mk (blk_below (B.kb BK393) hb); have n1_ := Aside0.mk (below_step (B.bl HB) hb); have n2_ := Aside0.mk (hbox); have n3_ := Aside0.mk (B.nle hg (below_size (B.bl HB))); have n4_ := Aside0.mk (B.nle hg (below_size (B.bl HB))); have n5_ := Aside0.mk (B.nlt hg (blk_lt (B.kb BK393))); have n6_ := Aside0.mk (B.ngt hg (blk_lt (B.kb BK393))); clear BK393 HB; have BK393 := n0_; have HB := n1_; have BK394 := n2_; have GW394 := n3_; have GE394 := n4_; have NB393_394 := n5_; have NB394_393 := n6_; clear n0_ n1_ n2_ n3_ n4_ n5_ n6_; clear hb hbox hg; have hnb19 := NB393_394.out; have hnc19 := NB394_393.out; have hcz20_0 : w18.cell? ⟨gb393, 0, none⟩ = some (.int .i64 a0_0) := B.bc BK393 0; have hcz20_1 : w18.cell? ⟨gb393, 1, none⟩ = some (.int .i64 a0_1) := B.bc BK393 1; have hcz20_2 : w18.cell? ⟨gb393, 2, none⟩ = some (.int .i64 a0_2) := B.bc BK393 2; have hcz20_3 : w18.cell? ⟨gb393, 3, none⟩ = some (.slice A0_3 l0_3.length c0_3) := B.bc BK393 3; have hfz20_0 := blk_frozen BK393.out 0; have hfz20_1 := blk_frozen BK393.out 1; have hfz20_2 := blk_frozen BK393.out 2; have hfz20_3 := blk_frozen BK393.out 3; have hcz21_0 : w18.cell? ⟨gb394, 0, none⟩ = some (.int .i64 a1_0) := B.bc BK394 0; have hcz21_1 : w18.cell? ⟨gb394, 1, none⟩ = some (.int .i64 a1_1) := B.bc BK394 1; have hcz21_2 : w18.cell? ⟨gb394, 2, none⟩ = some (.int .i64 a1_2) := B.bc BK394 2; have hcz21_3 : w18.cell? ⟨gb394, 3, none⟩ = some (.slice A1_3 l1_3.length c1_3) := B.bc BK394 3; have hfz21_0 := blk_frozen BK394.out 0; have hfz21_1 := blk_frozen BK394.out 1; have hfz21_2 := blk_frozen BK394.out 2; have hfz21_3 := blk_frozen BK394.out 3))
    go_ret
    exact ⟨by first | rfl | (simp [errW_none, errW_some] <;> rfl) | (simp [*, errW_none, errW_some] <;> rfl), B.bl HB⟩
  rw [if_neg c3] at H
  have c3b0 : (a0_0 == a1_0) = false := beq_eq_false_iff_ne.mpr c3
  have c3b1 : (a0_0 != a1_0) = true := bne_iff_ne.mpr c3
  obtain rfl := Option.some.inj H
  simp only [Option.some.injEq, Prod.mk.injEq] at H
  obtain ⟨rfl⟩ := H
  go_enter Try.func17, Try.ntmps17
  go_wp2_with (first | ((with_reducible refine gate_dst (N := 2) rfl ?_); refine box_event ?hg (N := 2) ?hd (cs := #[.int .i64 a0_0, .int .i64 a0_1, .int .i64 a0_2, .slice A0_3 l0_3.length c0_3]) (t := 28) ?hr ?_; (case hd => rfl); (case hg => rfl); (case hr => first | (go_simp; done) | (go_simp; rfl)); intro gb393 hg w22 hbox hb; have n0_ := Aside0.mk (below_step (B.bl HB) hb); have n1_ := Aside0.mk (hbox); have n2_ := Aside0.mk (B.nle hg (below_size (B.bl HB))); have n3_ := Aside0.mk (B.nle hg (below_size (B.bl HB))); clear HB; have HB := n0_; have BK393 := n1_; have GW393 := n2_; have GE393 := n3_; clear n0_ n1_ n2_ n3_; clear hb hbox hg) | ((with_reducible refine gate_dst (N := 3) rfl ?_); refine box_event ?hg (N := 3) ?hd (cs := #[.int .i64 a1_0, .int .i64 a1_1, .int .i64 a1_2, .slice A1_3 l1_3.length c1_3]) (t := 28) ?hr ?_; (case hd => rfl); (case hg => rfl); (case hr => first | (go_simp; done) | (go_simp; rfl)); intro gb394 hg w23 hbox hb; have n0_ := Aside0.mk (blk_below (B.kb BK393) hb); have n1_ := Aside0.mk (below_step (B.bl HB) hb); have n2_ := Aside0.mk (hbox); have n3_ := Aside0.mk (B.nle hg (below_size (B.bl HB))); have n4_ := Aside0.mk (B.nle hg (below_size (B.bl HB))); have n5_ := Aside0.mk (B.nlt hg (blk_lt (B.kb BK393))); have n6_ := Aside0.mk (B.ngt hg (blk_lt (B.kb BK393))); clear BK393 HB; have BK393 := n0_; have HB := n1_; have BK394 := n2_; have GW394 := n3_; have GE394 := n4_; have NB393_394 := n5_; have NB394_393 := n6_; clear n0_ n1_ n2_ n3_ n4_ n5_ n6_; clear hb hbox hg; have hnb24 := NB393_394.out; have hnc24 := NB394_393.out; have hcz25_0 : w23.cell? ⟨gb393, 0, none⟩ = some (.int .i64 a0_0) := B.bc BK393 0; have hcz25_1 : w23.cell? ⟨gb393, 1, none⟩ = some (.int .i64 a0_1) := B.bc BK393 1; have hcz25_2 : w23.cell? ⟨gb393, 2, none⟩ = some (.int .i64 a0_2) := B.bc BK393 2; have hcz25_3 : w23.cell? ⟨gb393, 3, none⟩ = some (.slice A0_3 l0_3.length c0_3) := B.bc BK393 3; have hfz25_0 := blk_frozen BK393.out 0; have hfz25_1 := blk_frozen BK393.out 1; have hfz25_2 := blk_frozen BK393.out 2; have hfz25_3 := blk_frozen BK393.out 3; have hcz26_0 : w23.cell? ⟨gb394, 0, none⟩ = some (.int .i64 a1_0) := B.bc BK394 0; have hcz26_1 : w23.cell? ⟨gb394, 1, none⟩ = some (.int .i64 a1_1) := B.bc BK394 1; have hcz26_2 : w23.cell? ⟨gb394, 2, none⟩ = some (.int .i64 a1_2) := B.bc BK394 2; have hcz26_3 : w23.cell? ⟨gb394, 3, none⟩ = some (.slice A1_3 l1_3.length c1_3) := B.bc BK394 3; have hfz26_0 := blk_frozen BK394.out 0; have hfz26_1 := blk_frozen BK394.out 1; have hfz26_2 := blk_frozen BK394.out 2; have hfz26_3 := blk_frozen BK394.out 3))
  go_ret
  exact ⟨by first | rfl | (simp [errW_none, errW_some] <;> rfl) | (simp [*, errW_none, errW_some] <;> rfl), B.bl HB⟩

end Go.Proofs.Ytmljcnhecjlinaa.Q
