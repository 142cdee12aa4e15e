-- Written by a program of this session (the kit's printer, with hand-proved contracts for the functions that it does not take).
import Derived.Test.YtpadegboplcapaaQ0
import Derived.Test.YtpadegboplcapaaQ1
import Derived.Test.YtpadegboplcapaaQ4
import Derived.Test.YtpadegboplcapaaQ5
import Derived.Test.YtpadegboplcapaaQ7
namespace Go.Proofs.Ytpadegboplcapaa.Q
open Go.RowKit Go.Proofs.YtpadegboplcapaaW.PrintWords Go.Proofs.YtpadegboplcapaaW.PrintLast Go.Proofs.YtpadegboplcapaaW.PrintMore
attribute [local go_sem] max2_int min2_int max_two min_two max_three min_three max_four min_four   -- for this text's walks alone
set_option linter.unusedVariables false
set_option linter.unusedSimpArgs false

/-! ### spec_DrawPassData: function 28 -/
def spec_DrawPassData.f (k : Nat) (l0 : List Int) : Option (Int × Int × Int × List Int × Int) := (spec_newReader.f l0).bind fun bt286 => ((spec_anyImage.f k bt286.1 bt286.2).bind fun bt289 => ((spec_reader_pick.f k bt286.1 bt289.2.2.2.2 9).bind fun bt297 => (some (bt289.1, bt289.2.1, bt289.2.2.1, bt289.2.2.2.1, wrap64 (bt297.1 - 1)))))
theorem spec_DrawPassData.mono : ∀ a0 k, LeO (spec_DrawPassData.f k a0) (spec_DrawPassData.f (k + 1) a0) := by
  intro a0 k
  unfold spec_DrawPassData.f
  repeat' first
      | (with_reducible exact spec_anyImage.mono _ _ _)
      | (with_reducible exact spec_reader_pick.mono _ _ _ _)
      | (with_reducible exact LeO.refl _)
      | (with_reducible exact LeO.none _)
      | (with_reducible refine LeO.ite ?_ ?_)
      | (with_reducible refine LeO.bind ?_ (fun _ => ?_))
      | exact spec_anyImage.mono _ _ _
      | exact spec_reader_pick.mono _ _ _ _
      | exact LeO.none _
      | refine LeO.ite ?_ ?_
      | refine LeO.bind ?_ (fun _ => ?_)
set_option maxHeartbeats 8000000 in
set_option maxRecDepth 100000 in
theorem spec_DrawPassData.calls (k : Nat) (A0 : Option Addr) (c0 : Nat) (l0 : List Int) (r1 : Int) (r2 : Int) (r3 : Int) (r4 : List Int) (r5 : Int) (w : World) (hr0 : Kd.C (Kd.int .u8) w A0 l0.length l0) (hc0 : l0.length ≤ c0) (h : spec_DrawPassData.f k l0 = some (r1, r2, r3, r4, r5)) :
    Calls Try.prog 28 #[.slice A0 l0.length c0] w fun e w' => ∃ v3_ : Value, e = .returned (.tuple #[.agg #[.int .i64 r1, .int .i64 r2, .int .i64 r3, v3_], .int .i64 r5]) ∧ Kd.Q (Kd.int .i64) 3 w' w.heap.size (fun _ => True) v3_ r4 ∧ Below w.heap.size w w' := by
  have hu34 := Try.underlying34
  have HR0 := Aside0.mk hr0
  have HC0 := Aside0.mk hc0
  clear hr0 hc0
  have HB := Aside0.mk (Below.refl w.heap.size w)
  have H : ((spec_newReader.f l0).bind fun bt286 => ((spec_anyImage.f k bt286.1 bt286.2).bind fun bt289 => ((spec_reader_pick.f k bt286.1 bt289.2.2.2.2 9).bind fun bt297 => (some (bt289.1, bt289.2.1, bt289.2.2.1, bt289.2.2.2.1, wrap64 (bt297.1 - 1)))))) = some (r1, r2, r3, r4, r5) := h
  clear h
  replace H := Option.bind_eq_some_iff.mp H
  obtain ⟨⟨t286, t287⟩, A20, H⟩ := H
  replace H : ((spec_anyImage.f k t286 t287).bind fun bt289 => ((spec_reader_pick.f k t286 bt289.2.2.2.2 9).bind fun bt297 => (some (bt289.1, bt289.2.1, bt289.2.2.1, bt289.2.2.2.1, wrap64 (bt297.1 - 1))))) = some (r1, r2, r3, r4, r5) := H
  have A2 := Aside0.mk A20
  clear A20
  replace H := Option.bind_eq_some_iff.mp H
  obtain ⟨⟨t289, t290, t291, t292, t295⟩, A30, H⟩ := H
  replace H : ((spec_reader_pick.f k t286 t295 9).bind fun bt297 => (some (t289, t290, t291, t292, wrap64 (bt297.1 - 1)))) = some (r1, r2, r3, r4, r5) := H
  have A3 := Aside0.mk A30
  clear A30
  replace H := Option.bind_eq_some_iff.mp H
  obtain ⟨⟨t297, t298⟩, A40, H⟩ := H
  replace H : (some (t289, t290, t291, t292, wrap64 (t297 - 1))) = some (r1, r2, r3, r4, r5) := H
  have A4 := Aside0.mk A40
  clear A40
  simp only [Option.some.injEq, Prod.mk.injEq] at H
  obtain ⟨rfl, rfl, rfl, rfl, rfl⟩ := H
  go_enter Try.func28, Try.ntmps28
  try go_wp2_with (first | ((with_reducible refine gate_dst (N := 2) rfl ?_); refine box_event ?hg (N := 2) ?hd (cs := #[.int .i64 0, .int .i64 0, .int .i64 0, .slice none 0 0]) (t := 34) ?hr ?_; (case hd => rfl); (case hg => rfl); (case hr => first | (go_simp; done) | (go_simp; rfl)); intro gb285 hg w5 hbox hb; have n0_ := Aside0.mk (below_step (B.bl HB) hb); have n1_ := Aside0.mk (hbox); have n2_ := Aside0.mk (B.nle hg (below_size (B.bl HB))); have n3_ := Aside0.mk (B.nle hg (below_size (B.bl HB))); clear HB; have HB := n0_; have BK285 := n1_; have GW285 := n2_; have GE285 := n3_; clear n0_ n1_ n2_ n3_; clear hb hbox hg) | ((with_reducible refine gate_callee (f := 42) rfl ?_); refine goesL_ (some 7) rfl rfl Try.func42 (by kernel_rfl) rfl #[.slice A0 l0.length c0] rfl B.am ?_; (with_reducible refine (spec_newReader.calls _ _ l0 t286 t287 w _ ?side1 ?side2 ?side3 A2.out).mono ?_); (case side1 => exact B.bl HB); (case side2 => exact HR0.out); (case side3 => exact HC0.out); rintro e w6 ⟨g288, rfl, hi, hb, hb2⟩; refine ⟨_, rfl, ?_⟩; have n0_ := Aside0.mk (blk_below (B.kb BK285) hb2); have n1_ := Aside0.mk (hb); have n2_ := Aside0.mk (hi); have n3_ := Aside0.mk (IsS74.ne_blk hi (blk_below (B.kb BK285) hb2) (by decide)); have n4_ := Aside0.mk (Ne.symm (IsS74.ne_blk hi (blk_below (B.kb BK285) hb2) (by decide))); clear BK285 HB; have BK285 := n0_; have HB := n1_; have HI288 := n2_; have NB288_285 := n3_; have NB285_288 := n4_; clear n0_ n1_ n2_ n3_ n4_; (try clear hb); (try clear hb2); (try clear hk); (try clear hi)) | ((with_reducible refine gate_callee (f := 44) rfl ?_); refine goesL_ (some 9) rfl rfl Try.func44 (by kernel_rfl) rfl #[.pointer (some ⟨g288, 0, none⟩)] rfl B.am ?_; (with_reducible refine (spec_anyImage.calls k g288 t286 t287 t289 t290 t291 t292 t295 w _ ?side1 ?side2 A3.out).mono ?_); (case side1 => exact B.st HI288); (case side2 => exact B.bs HB); rintro e w7 ⟨v293, rfl, ho0, hi, hb, hk⟩; refine ⟨_, rfl, ?_⟩; have n0_ := Aside0.mk (KeepBut.blk hk (g' := gb285) (o := .cells #[.int .i64 0, .int .i64 0, .int .i64 0, .slice none 0 0] 34 (0, 0)) (B.kb BK285) NB285_288.out (by simp)); have n1_ := Aside0.mk (Kd.Q_lower ho0 (below_size (B.bs HB))); have n2_ := Aside0.mk (hb); have n3_ := Aside0.mk (hi); clear BK285 HB HI288; have BK285 := n0_; have HO294 := n1_; have HB := n2_; have HI288 := n3_; clear n0_ n1_ n2_ n3_; (try clear hb); (try clear hb2); (try clear hk); (try clear hi); (try clear ho0)) | ((with_reducible refine gate_dst (N := 5) rfl ?_); refine box_event ?hg (N := 5) ?hd (cs := #[.int .i64 0, .int .i64 0, .int .i64 0, .slice none 0 0]) (t := 34) ?hr ?_; (case hd => rfl); (case hg => rfl); (case hr => first | (go_simp; done) | (go_simp; rfl)); intro gb296 hg w8 hbox hb; have n0_ := Aside0.mk (Kd.Q_below (B.kq HO294) hb); have n1_ := Aside0.mk (blk_below (B.kb BK285) hb); have n2_ := Aside0.mk (IsS74.below (B.st HI288) hb); have n3_ := Aside0.mk (below_step (B.bs HB) hb); have n4_ := Aside0.mk (hbox); have n5_ := Aside0.mk ((by rw [hg]; exact (below_size (B.bs HB)) : w.heap.size ≤ gb296)); have n6_ := Aside0.mk ((by rw [hg]; exact (below_size (B.bs HB)) : w.heap.size ≤ gb296)); have n7_ := Aside0.mk (B.nlt hg (blk_lt (B.kb BK285))); have n8_ := Aside0.mk (B.ngt hg (blk_lt (B.kb BK285))); have n9_ := Aside0.mk ((by rw [hg]; exact Nat.ne_of_lt (IsS74.lt (show IsS74 w _ g288 t286 t295 from B.st HI288)) : g288 ≠ gb296)); have n10_ := Aside0.mk ((by rw [hg]; exact Nat.ne_of_gt (IsS74.lt (show IsS74 w _ g288 t286 t295 from B.st HI288)) : gb296 ≠ g288)); clear HO294 BK285 HI288 HB; have HO294 := n0_; have BK285 := n1_; have HI288 := n2_; have HB := n3_; have BK296 := n4_; have GW296 := n5_; have GE296 := n6_; have NB285_296 := n7_; have NB296_285 := n8_; have NB288_296 := n9_; have NB296_288 := n10_; clear n0_ n1_ n2_ n3_ n4_ n5_ n6_ n7_ n8_ n9_ n10_; clear hb hbox hg; have hnb9 := NB296_285.out; have hnc9 := NB285_296.out; have hnb10 := NB296_288.out; have hnc10 := NB288_296.out; have hcz11_0 : w8.cell? ⟨gb296, 0, none⟩ = some (.int .i64 0) := B.bc BK296 0; have hcz11_1 : w8.cell? ⟨gb296, 1, none⟩ = some (.int .i64 0) := B.bc BK296 1; have hcz11_2 : w8.cell? ⟨gb296, 2, none⟩ = some (.int .i64 0) := B.bc BK296 2; have hcz11_3 : w8.cell? ⟨gb296, 3, none⟩ = some (.slice none 0 0) := B.bc BK296 3; have hfz11_0 := blk_frozen BK296.out 0; have hfz11_1 := blk_frozen BK296.out 1; have hfz11_2 := blk_frozen BK296.out 2; have hfz11_3 := blk_frozen BK296.out 3; obtain ⟨Ao12, co12, eo12, _⟩ := Kd.Q_slice HO294.out; subst eo12))
  have n0_ : Aside0 (Kd.Q (Kd.int .i64) 3 ((((w8.setCell ⟨gb296, 0, none⟩ (.int .i64 t289)).setCell ⟨gb296, 1, none⟩ (.int .i64 t290)).setCell ⟨gb296, 2, none⟩ (.int .i64 t291)).setCell ⟨gb296, 3, none⟩ (.slice Ao12 t292.length co12)) w.heap.size (fun _ => True) (.slice Ao12 t292.length co12) t292) := ⟨by (with_reducible repeat (first | apply Kd.Q_alloc | apply Kd.Q_drewN | apply Kd.Q_drew)); exact Kd.Q_mono (Kd.Q_far (p := ⟨gb296, 3, none⟩) (Kd.Q_far (p := ⟨gb296, 2, none⟩) (Kd.Q_far (p := ⟨gb296, 1, none⟩) (Kd.Q_far (p := ⟨gb296, 0, none⟩) (Kd.Q_types HO294.out BK296.out (by decide)) (fun _ hk => hk.2) (.int .i64 t289)) (fun _ hk => hk.2) (.int .i64 t290)) (fun _ hk => hk.2) (.int .i64 t291)) (fun _ hk => hk.2) (.slice Ao12 t292.length co12)) (fun _ hk => trivial)⟩
  have n1_ : Aside0 (((((w8.setCell ⟨gb296, 0, none⟩ (.int .i64 t289)).setCell ⟨gb296, 1, none⟩ (.int .i64 t290)).setCell ⟨gb296, 2, none⟩ (.int .i64 t291)).setCell ⟨gb296, 3, none⟩ (.slice Ao12 t292.length co12)).heap[gb285]? = some (.cells #[.int .i64 0, .int .i64 0, .int .i64 0, .slice none 0 0] 34 (0, 0))) := ⟨B.kb0 (B.bf4 BK285 NB285_296)⟩
  have n2_ : Aside0 (((((w8.setCell ⟨gb296, 0, none⟩ (.int .i64 t289)).setCell ⟨gb296, 1, none⟩ (.int .i64 t290)).setCell ⟨gb296, 2, none⟩ (.int .i64 t291)).setCell ⟨gb296, 3, none⟩ (.slice Ao12 t292.length co12)).heap[gb296]? = some (.cells #[.int .i64 t289, .int .i64 t290, .int .i64 t291, .slice Ao12 t292.length co12] 34 (0, 0))) := ⟨B.kb0 (B.bp4 BK296)⟩
  have n3_ : Aside0 (IsS74 w ((((w8.setCell ⟨gb296, 0, none⟩ (.int .i64 t289)).setCell ⟨gb296, 1, none⟩ (.int .i64 t290)).setCell ⟨gb296, 2, none⟩ (.int .i64 t291)).setCell ⟨gb296, 3, none⟩ (.slice Ao12 t292.length co12)) g288 t286 t295) := ⟨B.st HI288⟩
  have n4_ : Aside0 (Below w.heap.size w ((((w8.setCell ⟨gb296, 0, none⟩ (.int .i64 t289)).setCell ⟨gb296, 1, none⟩ (.int .i64 t290)).setCell ⟨gb296, 2, none⟩ (.int .i64 t291)).setCell ⟨gb296, 3, none⟩ (.slice Ao12 t292.length co12))) := ⟨B.bs HB⟩
  (try clear HO294)
  (try clear BK285)
  (try clear BK296)
  (try clear HI288)
  (try clear HB)
  generalize ((((w8.setCell ⟨gb296, 0, none⟩ (.int .i64 t289)).setCell ⟨gb296, 1, none⟩ (.int .i64 t290)).setCell ⟨gb296, 2, none⟩ (.int .i64 t291)).setCell ⟨gb296, 3, none⟩ (.slice Ao12 t292.length co12)) = w13 at n0_ n1_ n2_ n3_ n4_ ⊢
  have HO294 := n0_
  have BK285 := n1_
  have BK296 := n2_
  have HI288 := n3_
  have HB := n4_
  clear n0_ n1_ n2_ n3_ n4_
  have n0_ := Aside0.mk (Kd.Q_drew HO294.out)
  have n1_ := Aside0.mk (blk_drew BK285.out)
  have n2_ := Aside0.mk (blk_drew BK296.out)
  have n3_ := Aside0.mk (IsS74.drew HI288.out)
  have n4_ := Aside0.mk (below_drew1 HB.out)
  clear HO294 BK285 BK296 HI288 HB
  have HO294 := n0_
  have BK285 := n1_
  have BK296 := n2_
  have HI288 := n3_
  have HB := n4_
  clear n0_ n1_ n2_ n3_ n4_
  refine start_ (n := 6) (S := fun w' => w'.cell? ⟨gb296, 0, none⟩ = some (.int .i64 t289) ∧ w'.cell? ⟨gb296, 1, none⟩ = some (.int .i64 t290) ∧ w'.cell? ⟨gb296, 2, none⟩ = some (.int .i64 t291) ∧ w'.cell? ⟨gb296, 3, none⟩ = some (.slice Ao12 t292.length co12)) (ds := []) #[false, false, false, false, false, false] (by kernel_rfl) rfl rfl ⟨B.bc BK296 0, B.bc BK296 1, B.bc BK296 2, B.bc BK296 3⟩ (fun hHeld => ?_)
  generalize w13.drew = w14 at HO294 BK285 BK296 HI288 HB hHeld ⊢
  refine pure_ (i := 1) (N := some 11) (v := ?_) (a' := ?_) #[false, true, false, false, false, false] rfl rfl (by kernel_rfl) (fun _ _ _ h => h) (Or.inl ⟨by rfl, ?_⟩) ?_ ?_
  rotate_left
  · intro w'
    go_simp
    with_reducible rfl
  rotate_left
  · simp only [Act.put, List.setIfInBounds_toArray, List.set_cons_zero, List.set_cons_succ, i64_w, i32_w]
    rfl
  refine take_ (i := 0) (N := some 10) (v := ?_) (a' := ?_) #[true, true, false, false, false, false] rfl rfl (by kernel_rfl) (fun _ _ _ h => h) (Or.inl ⟨by rfl, ?_⟩) hHeld ?_ ?_
  rotate_left
  · rintro w' ⟨s0, s1, s2, s3⟩
    go_simp
    with_reducible rfl
  rotate_left
  · simp only [Act.put, List.setIfInBounds_toArray, List.set_cons_zero, List.set_cons_succ, i64_w, i32_w]
    rfl
  refine one_ (i := 2) (N := some 12) #[true, true, true, false, false, false] rfl rfl (by kernel_rfl) (by decide) (fun K hK => ?_)
  refine goes_ Try.func43 (by kernel_rfl) rfl #[.pointer (some ⟨g288, 0, none⟩), .int .i64 9] (by rfl) rfl rfl B.am ?_
  with_reducible refine (spec_reader_pick.calls k g288 t286 t295 9 t297 t298 w _ ?side1 ?side2 A4.out).mono ?_
  (case side1 => exact B.st HI288)
  (case side2 => exact B.bs HB)
  rintro e w15 ⟨rfl, hi, hb, hk⟩
  refine ⟨_, rfl, ?_⟩
  have n0_ := Aside0.mk (KeepBut.blk hk (g' := gb285) (o := .cells #[.int .i64 0, .int .i64 0, .int .i64 0, .slice none 0 0] 34 (0, 0)) (B.kb BK285) NB285_288.out (by simp))
  have n1_ := Aside0.mk (Kd.Q_mono (Kd.Q_keep (IsS74.apartQ (show IsS74 w _ g288 t286 t295 from B.st HI288) (B.kq HO294) (by decide)) hk (fun _ h => h.2)) (fun _ h => h.1))
  have n2_ := Aside0.mk (KeepBut.blk hk (g' := gb296) (o := .cells #[.int .i64 t289, .int .i64 t290, .int .i64 t291, .slice Ao12 t292.length co12] 34 (0, 0)) (B.kb BK296) NB296_288.out (by simp))
  have n3_ := Aside0.mk (hb)
  have n4_ := Aside0.mk (hi)
  clear BK285 HO294 BK296 HB HI288
  have BK285 := n0_
  have HO294 := n1_
  have BK296 := n2_
  have HB := n3_
  have HI288 := n4_
  clear n0_ n1_ n2_ n3_ n4_
  (try clear hb)
  (try clear hb2)
  (try clear hk)
  (try clear hi)
  refine hK.out _ _ ⟨B.bc BK296 0, B.bc BK296 1, B.bc BK296 2, B.bc BK296 3⟩ (fun hHeld => ?_)
  clear hK K
  refine norm_ (a' := ?_) ?_ ?_
  rotate_left
  · show Act.put _ (some 12) _ = _
    simp only [Act.put, List.setIfInBounds_toArray, List.set_cons_zero, List.set_cons_succ, i64_w, i32_w]
    rfl
  refine pure_ (i := 3) (N := some 13) (v := ?_) (a' := ?_) #[true, true, true, true, false, false] rfl rfl (by kernel_rfl) (fun _ _ _ h => h) (Or.inl ⟨by rfl, ?_⟩) ?_ ?_
  rotate_left
  · intro w'
    go_simp
    with_reducible rfl
  rotate_left
  · simp only [Act.put, List.setIfInBounds_toArray, List.set_cons_zero, List.set_cons_succ, i64_w, i32_w]
    rfl
  refine one_ (i := 4) (N := none) #[true, true, true, true, true, false] rfl rfl (by kernel_rfl) (by decide) (fun K hK => ?_)
  have hs16 : w15.cell? ⟨gb285, 0, none⟩ = some (.int .i64 0) := B.bc BK285 0
  have hfs16 := blk_frozen BK285.out 0
  have hns16_1 := NB296_285.out
  have hms16_1 := NB285_296.out
  have hs17 : w15.cell? ⟨gb285, 1, none⟩ = some (.int .i64 0) := B.bc BK285 1
  have hfs17 := blk_frozen BK285.out 1
  have hns17_1 := NB296_285.out
  have hms17_1 := NB285_296.out
  have hs18 : w15.cell? ⟨gb285, 2, none⟩ = some (.int .i64 0) := B.bc BK285 2
  have hfs18 := blk_frozen BK285.out 2
  have hns18_1 := NB296_285.out
  have hms18_1 := NB285_296.out
  have hs19 : w15.cell? ⟨gb285, 3, none⟩ = some (.slice none 0 0) := B.bc BK285 3
  have hfs19 := blk_frozen BK285.out 3
  have hns19_1 := NB296_285.out
  have hms19_1 := NB285_296.out
  refine skip_ (w1 := ?_) (by rfl) rfl ?_ ?_
  rotate_left
  · go_simp
    rfl
  refine hK.out _ _ ⟨(B.cf4 NB296_285 hHeld.1), (B.cf4 NB296_285 hHeld.2.1), (B.cf4 NB296_285 hHeld.2.2.1), (B.cf4 NB296_285 hHeld.2.2.2)⟩ (fun hHeld => ?_)
  clear hK K
  refine pure_ (i := 5) (N := some 3) (v := ?_) (a' := ?_) #[true, true, true, true, true, true] rfl rfl (by kernel_rfl) (fun _ _ _ h => h) (Or.inl ⟨by rfl, ?_⟩) ?_ ?_
  rotate_left
  · intro w'
    go_simp
    with_reducible rfl
  rotate_left
  · simp only [Act.put, List.setIfInBounds_toArray, List.set_cons_zero, List.set_cons_succ, i64_w, i32_w]
    rfl
  refine done_ (by kernel_rfl) ?_
  try go_wp2
  refine bodyPost_ret (results_ct rfl _ _ gb285 34 #[.int .i64 t289, .int .i64 t290, .int .i64 t291, .slice Ao12 t292.length co12] (0, 0) _ rfl (B.kb0 (B.bp4 BK285)) Try.underlying34 rfl (by kernel_rfl)) rfl ?_
  exact ⟨_, by first | rfl | (simp [errW_none, errW_some] <;> rfl) | (simp [*, errW_none, errW_some] <;> rfl), by (with_reducible repeat (first | apply Kd.Q_alloc | apply Kd.Q_drewN | apply Kd.Q_drew)); exact Kd.Q_mono (Kd.Q_far (p := ⟨gb285, 3, none⟩) (Kd.Q_far (p := ⟨gb285, 2, none⟩) (Kd.Q_far (p := ⟨gb285, 1, none⟩) (Kd.Q_far (p := ⟨gb285, 0, none⟩) (Kd.Q_types HO294.out BK285.out (by decide)) (fun _ hk => hk.2) (.int .i64 t289)) (fun _ hk => hk.2) (.int .i64 t290)) (fun _ hk => hk.2) (.int .i64 t291)) (fun _ hk => hk.2) (.slice Ao12 t292.length co12)) (fun _ hk => trivial), B.bs HB⟩

/-! ### laws_FnPassRoundTrip: function 8 -/
mutual
def laws_FnPassRoundTrip.j0 : Nat → Int → Bool → Int → Int → Int → List Int → Option (Bool)
  | 0, _, _, _, _, _, _ => none
  | k + 1, x4, x29, x307000, x307001, x307002, x307003 => if x29 = true then ((impl_PassData.f k x307000 x307001 x307002 x307003 x4).bind fun t315 => ((spec_PassData.f k x307000 x307001 x307002 x307003 x4).bind fun t318 => ((laws_equalInts.f k t315 t318).bind fun t321 => (some t321)))) else (laws_FnPassRoundTrip.l0 k (([] : List (List Int))) 0 x307000 x307001 x307002 x307003)
def laws_FnPassRoundTrip.l0 : Nat → List (List Int) → Int → Int → Int → Int → List Int → Option (Bool)
  | 0, _, _, _, _, _, _ => none
  | k + 1, x5, x6, x307000, x307001, x307002, x307003 => if x6 < 7 then ((impl_PassData.f k x307000 x307001 x307002 x307003 x6).bind fun t325 => (if x5.length < 5864062014805 then (laws_FnPassRoundTrip.l0 k (x5 ++ [t325]) (wrap64 (x6 + 1)) x307000 x307001 x307002 x307003) else (none))) else ((impl_JoinPasses.f k x307000 x307001 x307002 x5).bind fun bt331 => (if bt331.2.2.2.2 = true then ((laws_equalImage.f k bt331.1 bt331.2.1 bt331.2.2.1 bt331.2.2.2.1 x307000 x307001 x307002 x307003).bind fun t339 => (some t339)) else (some false)))
end
def laws_FnPassRoundTrip.f (k : Nat) (l0 : List Int) : Option (Bool) := if (l0.length : Int) > 1048576 then (some true) else ((spec_DrawPassData.f k l0).bind fun bt299 => ((impl_PassData.f k bt299.1 bt299.2.1 bt299.2.2.1 bt299.2.2.2.1 bt299.2.2.2.2).bind fun t307 => ((spec_PassData.f k bt299.1 bt299.2.1 bt299.2.2.1 bt299.2.2.2.1 bt299.2.2.2.2).bind fun t310 => ((laws_equalInts.f k t307 t310).bind fun t313 => (if t313 = true then ((impl_ValidImage.f bt299.1 bt299.2.1 bt299.2.2.1 bt299.2.2.2.1).bind fun t314 => (laws_FnPassRoundTrip.j0 k bt299.2.2.2.2 (!t314) bt299.1 bt299.2.1 bt299.2.2.1 bt299.2.2.2.1)) else (laws_FnPassRoundTrip.j0 k bt299.2.2.2.2 true bt299.1 bt299.2.1 bt299.2.2.1 bt299.2.2.2.1))))))
theorem laws_FnPassRoundTrip.mono_l : ∀ k, (∀ y0 y1 y2 y3 y4 y5, LeO (laws_FnPassRoundTrip.j0 k y0 y1 y2 y3 y4 y5) (laws_FnPassRoundTrip.j0 (k + 1) y0 y1 y2 y3 y4 y5)) ∧ (∀ y0 y1 y2 y3 y4 y5, LeO (laws_FnPassRoundTrip.l0 k y0 y1 y2 y3 y4 y5) (laws_FnPassRoundTrip.l0 (k + 1) y0 y1 y2 y3 y4 y5))
  | 0 => ⟨fun _ _ _ _ _ _ r h => by simp [laws_FnPassRoundTrip.j0] at h, fun _ _ _ _ _ _ r h => by simp [laws_FnPassRoundTrip.l0] at h⟩
  | k + 1 => by
    obtain ⟨ih0, ih1⟩ := laws_FnPassRoundTrip.mono_l k
    refine ⟨?_, ?_⟩
    · intro y0 y1 y2 y3 y4 y5
      unfold laws_FnPassRoundTrip.j0
      repeat' first
      | (with_reducible exact ih0 _ _ _ _ _ _)
      | (with_reducible exact ih1 _ _ _ _ _ _)
      | (with_reducible exact impl_JoinPasses.mono _ _ _ _ _)
      | (with_reducible exact impl_PassData.mono _ _ _ _ _ _)
      | (with_reducible exact laws_equalImage.mono _ _ _ _ _ _ _ _ _)
      | (with_reducible exact laws_equalInts.mono _ _ _)
      | (with_reducible exact spec_DrawPassData.mono _ _)
      | (with_reducible exact spec_PassData.mono _ _ _ _ _ _)
      | (with_reducible exact LeO.refl _)
      | (with_reducible exact LeO.none _)
      | (with_reducible refine LeO.ite ?_ ?_)
      | (with_reducible refine LeO.bind ?_ (fun _ => ?_))
      | exact ih0 _ _ _ _ _ _
      | exact ih1 _ _ _ _ _ _
      | exact impl_JoinPasses.mono _ _ _ _ _
      | exact impl_PassData.mono _ _ _ _ _ _
      | exact laws_equalImage.mono _ _ _ _ _ _ _ _ _
      | exact laws_equalInts.mono _ _ _
      | exact spec_DrawPassData.mono _ _
      | exact spec_PassData.mono _ _ _ _ _ _
      | exact LeO.none _
      | refine LeO.ite ?_ ?_
      | refine LeO.bind ?_ (fun _ => ?_)
    intro y0 y1 y2 y3 y4 y5
    unfold laws_FnPassRoundTrip.l0
    repeat' first
    | (with_reducible exact ih0 _ _ _ _ _ _)
    | (with_reducible exact ih1 _ _ _ _ _ _)
    | (with_reducible exact impl_JoinPasses.mono _ _ _ _ _)
    | (with_reducible exact impl_PassData.mono _ _ _ _ _ _)
    | (with_reducible exact laws_equalImage.mono _ _ _ _ _ _ _ _ _)
    | (with_reducible exact laws_equalInts.mono _ _ _)
    | (with_reducible exact spec_DrawPassData.mono _ _)
    | (with_reducible exact spec_PassData.mono _ _ _ _ _ _)
    | (with_reducible exact LeO.refl _)
    | (with_reducible exact LeO.none _)
    | (with_reducible refine LeO.ite ?_ ?_)
    | (with_reducible refine LeO.bind ?_ (fun _ => ?_))
    | exact ih0 _ _ _ _ _ _
    | exact ih1 _ _ _ _ _ _
    | exact impl_JoinPasses.mono _ _ _ _ _
    | exact impl_PassData.mono _ _ _ _ _ _
    | exact laws_equalImage.mono _ _ _ _ _ _ _ _ _
    | exact laws_equalInts.mono _ _ _
    | exact spec_DrawPassData.mono _ _
    | exact spec_PassData.mono _ _ _ _ _ _
    | exact LeO.none _
    | refine LeO.ite ?_ ?_
    | refine LeO.bind ?_ (fun _ => ?_)
theorem laws_FnPassRoundTrip.mono : ∀ a0 k, LeO (laws_FnPassRoundTrip.f k a0) (laws_FnPassRoundTrip.f (k + 1) a0) := by
  intro a0 k
  obtain ⟨ih0, ih1⟩ := laws_FnPassRoundTrip.mono_l k
  unfold laws_FnPassRoundTrip.f
  repeat' first
      | (with_reducible exact ih0 _ _ _ _ _ _)
      | (with_reducible exact ih1 _ _ _ _ _ _)
      | (with_reducible exact impl_JoinPasses.mono _ _ _ _ _)
      | (with_reducible exact impl_PassData.mono _ _ _ _ _ _)
      | (with_reducible exact laws_equalImage.mono _ _ _ _ _ _ _ _ _)
      | (with_reducible exact laws_equalInts.mono _ _ _)
      | (with_reducible exact spec_DrawPassData.mono _ _)
      | (with_reducible exact spec_PassData.mono _ _ _ _ _ _)
      | (with_reducible exact LeO.refl _)
      | (with_reducible exact LeO.none _)
      | (with_reducible refine LeO.ite ?_ ?_)
      | (with_reducible refine LeO.bind ?_ (fun _ => ?_))
      | exact ih0 _ _ _ _ _ _
      | exact ih1 _ _ _ _ _ _
      | exact impl_JoinPasses.mono _ _ _ _ _
      | exact impl_PassData.mono _ _ _ _ _ _
      | exact laws_equalImage.mono _ _ _ _ _ _ _ _ _
      | exact laws_equalInts.mono _ _ _
      | exact spec_DrawPassData.mono _ _
      | exact spec_PassData.mono _ _ _ _ _ _
      | exact LeO.none _
      | refine LeO.ite ?_ ?_
      | refine LeO.bind ?_ (fun _ => ?_)
def laws_FnPassRoundTrip.T4 : Bool × List (List Nat × List Nat) := (true, [([], []), ([], []), ([0, 1], [0, 1]), ([], []), ([], []), ([3, 4, 2], [3, 4]), ([2, 5, 5], [2, 5]), ([6], [6]), ([7, 6], [7]), ([8], [8]), ([9, 8, 8], [8, 9]), ([10, 8], [8, 10]), ([8, 11], [8, 11])])
def laws_FnPassRoundTrip.B4 : List Nat := [0, 0, 3, 0, 0, 31, 63, 127, 255, 511, 1023, 2047, 4095]
theorem laws_FnPassRoundTrip.tab4 : rtab .any (opsOf Try.f8 4) = laws_FnPassRoundTrip.T4 := by kernel_rfl
theorem laws_FnPassRoundTrip.bits4 : waitsOk laws_FnPassRoundTrip.T4.2 laws_FnPassRoundTrip.B4 = true := by kernel_rfl
def laws_FnPassRoundTrip.T5 : Bool × List (List Nat × List Nat) := (true, [([], []), ([], []), ([0, 1], [0, 1]), ([], []), ([], []), ([3, 4, 2], [3, 4]), ([2, 5, 5], [2, 5]), ([6, 6, 0, 1, 2, 3, 4, 5, 6], [6])])
def laws_FnPassRoundTrip.B5 : List Nat := [0, 0, 3, 0, 0, 31, 63, 127]
theorem laws_FnPassRoundTrip.tab5 : rtab .any (opsOf Try.f8 5) = laws_FnPassRoundTrip.T5 := by kernel_rfl
theorem laws_FnPassRoundTrip.bits5 : waitsOk laws_FnPassRoundTrip.T5.2 laws_FnPassRoundTrip.B5 = true := by kernel_rfl
set_option maxHeartbeats 8000000 in
set_option maxRecDepth 100000 in
theorem laws_FnPassRoundTrip.calls (k : Nat) (A0 : Option Addr) (c0 : Nat) (l0 : List Int) (r : Bool) (w : World) (hr0 : Kd.C (Kd.int .u8) w A0 l0.length l0) (hc0 : l0.length ≤ c0) (h : laws_FnPassRoundTrip.f k l0 = some r) (ht_ : Aside0 (r = true)) :
    Calls Try.prog 8 #[.slice A0 l0.length c0] w fun e w' => e = .returned (.bool r) ∧ Below w.heap.size w w' := by
  have hu34 := Try.underlying34
  have HR0 := Aside0.mk hr0
  have HC0 := Aside0.mk hc0
  clear hr0 hc0
  have HB := Aside0.mk (Below.refl w.heap.size w)
  have H : (if (l0.length : Int) > 1048576 then (some true) else ((spec_DrawPassData.f k l0).bind fun bt299 => ((impl_PassData.f k bt299.1 bt299.2.1 bt299.2.2.1 bt299.2.2.2.1 bt299.2.2.2.2).bind fun t307 => ((spec_PassData.f k bt299.1 bt299.2.1 bt299.2.2.1 bt299.2.2.2.1 bt299.2.2.2.2).bind fun t310 => ((laws_equalInts.f k t307 t310).bind fun t313 => (if t313 = true then ((impl_ValidImage.f bt299.1 bt299.2.1 bt299.2.2.1 bt299.2.2.2.1).bind fun t314 => (laws_FnPassRoundTrip.j0 k bt299.2.2.2.2 (!t314) bt299.1 bt299.2.1 bt299.2.2.1 bt299.2.2.2.1)) else (laws_FnPassRoundTrip.j0 k bt299.2.2.2.2 true bt299.1 bt299.2.1 bt299.2.2.1 bt299.2.2.2.1))))))) = some r := h
  clear h
  by_cases c2 : (l0.length : Int) > 1048576
  · rw [if_pos c2] at H
    have c2b0 : decide (1048576 < (l0.length : Int)) = true := decide_eq_true c2
    have c2b1 : decide (1048576 < l0.length) = true := decide_eq_true (by omega)
    clear c2
    obtain rfl := Option.some.inj H
    simp only [Option.some.injEq, Prod.mk.injEq] at H
    obtain ⟨rfl⟩ := H
    go_enter Try.func8, Try.ntmps8
    go_wp2
    go_ret
    exact ⟨by first | rfl | (simp [errW_none, errW_some] <;> rfl) | (simp [*, errW_none, errW_some] <;> rfl), B.bl HB⟩
  rw [if_neg c2] at H
  have c2b0 : decide (1048576 < (l0.length : Int)) = false := decide_eq_false c2
  have c2b1 : decide (1048576 < l0.length) = false := decide_eq_false (by omega)
  clear c2
  replace H := Option.bind_eq_some_iff.mp H
  obtain ⟨⟨t299, t300, t301, t302, t305⟩, A30, H⟩ := H
  replace H : ((impl_PassData.f k t299 t300 t301 t302 t305).bind fun t307 => ((spec_PassData.f k t299 t300 t301 t302 t305).bind fun t310 => ((laws_equalInts.f k t307 t310).bind fun t313 => (if t313 = true then ((impl_ValidImage.f t299 t300 t301 t302).bind fun t314 => (laws_FnPassRoundTrip.j0 k t305 (!t314) t299 t300 t301 t302)) else (laws_FnPassRoundTrip.j0 k t305 true t299 t300 t301 t302))))) = some r := H
  have A3 := Aside0.mk A30
  clear A30
  have HC4 := Aside0.mk H
  clear H
  go_enter Try.func8, Try.ntmps8
  go_upto_region 4 with (first | ((with_reducible refine gate_callee (f := 28) rfl ?_); refine goesL_ (some 14) rfl rfl Try.func28 (by kernel_rfl) rfl #[.slice A0 l0.length c0] rfl B.am ?_; (with_reducible refine (spec_DrawPassData.calls k _ _ l0 t299 t300 t301 t302 t305 _ ?side1 ?side2 A3.out).mono ?_); (case side1 => exact B.kc (HR0.out)); (case side2 => exact HC0.out); rintro e w5 ⟨v303, rfl, ho0, hb⟩; refine ⟨_, rfl, ?_⟩; have n0_ := Aside0.mk (Kd.Q_lower ho0 (below_size (B.bl HB))); have n1_ := Aside0.mk (below_step (B.bl HB) hb); clear HB; have HO304 := n0_; have HB := n1_; clear n0_ n1_; (try clear hb); (try clear hb2); (try clear hk); (try clear hi); (try clear ho0)) | ((with_reducible refine gate_dst (N := 3) rfl ?_); refine box_event ?hg (N := 3) ?hd (cs := #[.int .i64 0, .int .i64 0, .int .i64 0, .slice none 0 0]) (t := 34) ?hr ?_; (case hd => rfl); (case hg => rfl); (case hr => first | (go_simp; done) | (go_simp; rfl)); intro gb306 hg w6 hbox hb; have n0_ := Aside0.mk (Kd.Q_below (B.kq HO304) hb); have n1_ := Aside0.mk (below_step (B.bl HB) hb); have n2_ := Aside0.mk (hbox); have n3_ := Aside0.mk (B.nle hg (below_size (B.bl HB))); have n4_ := Aside0.mk (B.nle hg (below_size (B.bl HB))); clear HO304 HB; have HO304 := n0_; have HB := n1_; have BK306 := n2_; have GW306 := n3_; have GE306 := n4_; clear n0_ n1_ n2_ n3_ n4_; clear hb hbox hg; have hcz7_0 : w6.cell? ⟨gb306, 0, none⟩ = some (.int .i64 0) := B.bc BK306 0; have hcz7_1 : w6.cell? ⟨gb306, 1, none⟩ = some (.int .i64 0) := B.bc BK306 1; have hcz7_2 : w6.cell? ⟨gb306, 2, none⟩ = some (.int .i64 0) := B.bc BK306 2; have hcz7_3 : w6.cell? ⟨gb306, 3, none⟩ = some (.slice none 0 0) := B.bc BK306 3; have hfz7_0 := blk_frozen BK306.out 0; have hfz7_1 := blk_frozen BK306.out 1; have hfz7_2 := blk_frozen BK306.out 2; have hfz7_3 := blk_frozen BK306.out 3; obtain ⟨Ao8, co8, eo8, _⟩ := Kd.Q_slice HO304.out; subst eo8))
  (try simp only [Act.put, List.setIfInBounds_toArray, List.set_cons_zero, List.set_cons_succ])
  go_cut [29] (fun v29 wc => ∃ (kq : Nat) (x29_3 : Bool), v29 = .bool x29_3 ∧ Aside0 (laws_FnPassRoundTrip.j0 kq t305 x29_3 t299 t300 t301 t302 = some r) ∧ Aside0 (kq ≤ k) ∧ Aside0 (Kd.Q (Kd.int .i64) 3 wc w.heap.size (fun _ => True) (.slice Ao8 t302.length co8) t302) ∧ Aside0 (wc.heap[gb306]? = some (.cells #[.int .i64 t299, .int .i64 t300, .int .i64 t301, (.slice Ao8 t302.length co8)] 34 (0, 0))) ∧ Aside0 (Below w.heap.size w wc))
  case first =>
    have H := HC4.out
    clear HC4
    replace H := Option.bind_eq_some_iff.mp H
    obtain ⟨t307, A90, H⟩ := H
    replace H : ((spec_PassData.f k t299 t300 t301 t302 t305).bind fun t310 => ((laws_equalInts.f k t307 t310).bind fun t313 => (if t313 = true then ((impl_ValidImage.f t299 t300 t301 t302).bind fun t314 => (laws_FnPassRoundTrip.j0 k t305 (!t314) t299 t300 t301 t302)) else (laws_FnPassRoundTrip.j0 k t305 true t299 t300 t301 t302)))) = some r := H
    have A9 := Aside0.mk A90
    clear A90
    replace H := Option.bind_eq_some_iff.mp H
    obtain ⟨t310, A100, H⟩ := H
    replace H : ((laws_equalInts.f k t307 t310).bind fun t313 => (if t313 = true then ((impl_ValidImage.f t299 t300 t301 t302).bind fun t314 => (laws_FnPassRoundTrip.j0 k t305 (!t314) t299 t300 t301 t302)) else (laws_FnPassRoundTrip.j0 k t305 true t299 t300 t301 t302))) = some r := H
    have A10 := Aside0.mk A100
    clear A100
    replace H := Option.bind_eq_some_iff.mp H
    obtain ⟨t313, A110, H⟩ := H
    replace H : (if t313 = true then ((impl_ValidImage.f t299 t300 t301 t302).bind fun t314 => (laws_FnPassRoundTrip.j0 k t305 (!t314) t299 t300 t301 t302)) else (laws_FnPassRoundTrip.j0 k t305 true t299 t300 t301 t302)) = some r := H
    have A11 := Aside0.mk A110
    clear A110
    by_cases c12 : t313 = true
    · subst c12
      have H1 : ((impl_ValidImage.f t299 t300 t301 t302).bind fun t314 => (laws_FnPassRoundTrip.j0 k t305 (!t314) t299 t300 t301 t302)) = some r := by rw [if_pos rfl] at H; exact H
      clear H
      have H := H1
      clear H1
      replace H := Option.bind_eq_some_iff.mp H
      obtain ⟨t314, A130, H⟩ := H
      replace H : (laws_FnPassRoundTrip.j0 k t305 (!t314) t299 t300 t301 t302) = some r := H
      have A13 := Aside0.mk A130
      clear A130
      have H' := Aside0.mk H
      clear H
      try go_wp2
      have n0_ : Aside0 (Kd.Q (Kd.int .i64) 3 ((((w6.setCell ⟨gb306, 0, none⟩ (.int .i64 t299)).setCell ⟨gb306, 1, none⟩ (.int .i64 t300)).setCell ⟨gb306, 2, none⟩ (.int .i64 t301)).setCell ⟨gb306, 3, none⟩ (.slice Ao8 t302.length co8)) w.heap.size (fun _ => True) (.slice Ao8 t302.length co8) t302) := ⟨by (with_reducible repeat (first | apply Kd.Q_alloc | apply Kd.Q_drewN | apply Kd.Q_drew)); exact Kd.Q_mono (Kd.Q_far (p := ⟨gb306, 3, none⟩) (Kd.Q_far (p := ⟨gb306, 2, none⟩) (Kd.Q_far (p := ⟨gb306, 1, none⟩) (Kd.Q_far (p := ⟨gb306, 0, none⟩) (Kd.Q_types HO304.out BK306.out (by decide)) (fun _ hk => hk.2) (.int .i64 t299)) (fun _ hk => hk.2) (.int .i64 t300)) (fun _ hk => hk.2) (.int .i64 t301)) (fun _ hk => hk.2) (.slice Ao8 t302.length co8)) (fun _ hk => trivial)⟩
      have n1_ : Aside0 (((((w6.setCell ⟨gb306, 0, none⟩ (.int .i64 t299)).setCell ⟨gb306, 1, none⟩ (.int .i64 t300)).setCell ⟨gb306, 2, none⟩ (.int .i64 t301)).setCell ⟨gb306, 3, none⟩ (.slice Ao8 t302.length co8)).heap[gb306]? = some (.cells #[.int .i64 t299, .int .i64 t300, .int .i64 t301, .slice Ao8 t302.length co8] 34 (0, 0))) := ⟨B.kb0 (B.bp4 BK306)⟩
      have n2_ : Aside0 (Below w.heap.size w ((((w6.setCell ⟨gb306, 0, none⟩ (.int .i64 t299)).setCell ⟨gb306, 1, none⟩ (.int .i64 t300)).setCell ⟨gb306, 2, none⟩ (.int .i64 t301)).setCell ⟨gb306, 3, none⟩ (.slice Ao8 t302.length co8))) := ⟨B.bl HB⟩
      (try clear HO304)
      (try clear BK306)
      (try clear HB)
      generalize ((((w6.setCell ⟨gb306, 0, none⟩ (.int .i64 t299)).setCell ⟨gb306, 1, none⟩ (.int .i64 t300)).setCell ⟨gb306, 2, none⟩ (.int .i64 t301)).setCell ⟨gb306, 3, none⟩ (.slice Ao8 t302.length co8)) = w14 at n0_ n1_ n2_ ⊢
      have HO304 := n0_
      have BK306 := n1_
      have HB := n2_
      clear n0_ n1_ n2_
      have n0_ := Aside0.mk (Kd.Q_drew HO304.out)
      have n1_ := Aside0.mk (blk_drew BK306.out)
      have n2_ := Aside0.mk (below_drew1 HB.out)
      clear HO304 BK306 HB
      have HO304 := n0_
      have BK306 := n1_
      have HB := n2_
      clear n0_ n1_ n2_
      refine start_ (n := 13) (S := fun w' => w'.cell? ⟨gb306, 0, none⟩ = some (.int .i64 t299) ∧ w'.cell? ⟨gb306, 1, none⟩ = some (.int .i64 t300) ∧ w'.cell? ⟨gb306, 2, none⟩ = some (.int .i64 t301) ∧ w'.cell? ⟨gb306, 3, none⟩ = some (.slice Ao8 t302.length co8)) (ds := []) #[false, false, false, false, false, false, false, false, false, false, false, false, false] (by kernel_rfl) rfl rfl ⟨B.bc BK306 0, B.bc BK306 1, B.bc BK306 2, B.bc BK306 3⟩ (fun hHeld => ?_); refine with_tabW laws_FnPassRoundTrip.tab4 laws_FnPassRoundTrip.bits4 (fun HT_ HW_ => ?_)
      generalize w14.drew = w15 at HO304 BK306 HB hHeld ⊢
      refine pure_ (i := 1) (N := some 18) (v := ?_) (a' := ?_) #[false, true, false, false, false, false, false, false, false, false, false, false, false] rfl rfl (any_of HT_.out (by kernel_rfl)) (fun _ _ _ h => h) (Or.inl ⟨by rfl, ?_⟩) ?_ ?_
      rotate_left
      · intro w'
        go_simp
        with_reducible rfl
      rotate_left
      · simp only [Act.put, List.setIfInBounds_toArray, List.set_cons_zero, List.set_cons_succ, i64_w, i32_w]
        rfl
      refine pure_ (i := 4) (N := some 21) (v := ?_) (a' := ?_) #[false, true, false, false, true, false, false, false, false, false, false, false, false] rfl rfl (any_of HT_.out (by kernel_rfl)) (fun _ _ _ h => h) (Or.inl ⟨by rfl, ?_⟩) ?_ ?_
      rotate_left
      · intro w'
        go_simp
        with_reducible rfl
      rotate_left
      · simp only [Act.put, List.setIfInBounds_toArray, List.set_cons_zero, List.set_cons_succ, i64_w, i32_w]
        rfl
      refine take_ (i := 0) (N := some 17) (v := ?_) (a' := ?_) #[true, true, false, false, true, false, false, false, false, false, false, false, false] rfl rfl (take_ofW HT_.out HW_.out (by kernel_rfl)) (fun _ _ _ h => h) (Or.inl ⟨by rfl, ?_⟩) hHeld ?_ ?_
      rotate_left
      · rintro w' ⟨s0, s1, s2, s3⟩
        go_simp
        with_reducible rfl
      rotate_left
      · simp only [Act.put, List.setIfInBounds_toArray, List.set_cons_zero, List.set_cons_succ, i64_w, i32_w]
        rfl
      refine take_ (i := 3) (N := some 20) (v := ?_) (a' := ?_) #[true, true, false, true, true, false, false, false, false, false, false, false, false] rfl rfl (take_ofW HT_.out HW_.out (by kernel_rfl)) (fun _ _ _ h => h) (Or.inl ⟨by rfl, ?_⟩) hHeld ?_ ?_
      rotate_left
      · rintro w' ⟨s0, s1, s2, s3⟩
        go_simp
        with_reducible rfl
      rotate_left
      · simp only [Act.put, List.setIfInBounds_toArray, List.set_cons_zero, List.set_cons_succ, i64_w, i32_w]
        rfl
      refine one_ (i := 2) (N := some 19) #[true, true, true, true, true, false, false, false, false, false, false, false, false] rfl rfl (one_of HT_.out (by kernel_rfl)) (by decide) (fun K hK => ?_)
      refine goes_ Try.func18 (by kernel_rfl) rfl #[.agg #[.int .i64 t299, .int .i64 t300, .int .i64 t301, .slice Ao8 t302.length co8], .int .i64 t305] (by rfl) rfl rfl B.am ?_
      with_reducible refine (impl_PassData.calls k t299 t300 t301 _ _ t302 t305 t307 _ ?side1 ?side2 A9.out).mono ?_
      (case side1 => exact B.kc ((Kd.Q_reads' HO304.out).2.2))
      (case side2 => exact (Kd.Q_reads' HO304.out).2.1)
      rintro e w16 ⟨v308, rfl, ho0, hb⟩
      refine ⟨_, rfl, ?_⟩
      have n0_ := Aside0.mk (Kd.Q_elder' (B.kq HO304) (Kd.R_base ho0) hb)
      have n1_ := Aside0.mk (Kd.R_lower (Kd.R_new' ho0 (Kd.Q_lt (B.kq HO304))) (below_size (B.bl HB)))
      have n2_ := Aside0.mk (blk_below (B.kb BK306) hb)
      have n3_ := Aside0.mk (below_step (B.bl HB) hb)
      clear HO304 BK306 HB
      have HO304 := n0_
      have HO309 := n1_
      have BK306 := n2_
      have HB := n3_
      clear n0_ n1_ n2_ n3_
      (try clear hb)
      (try clear hb2)
      (try clear hk)
      (try clear hi)
      (try clear ho0)
      refine hK.out _ _ ⟨B.bc BK306 0, B.bc BK306 1, B.bc BK306 2, B.bc BK306 3⟩ (fun hHeld => ?_)
      clear hK K
      refine norm_ (a' := ?_) ?_ ?_
      rotate_left
      · show Act.put _ (some 19) _ = _
        simp only [Act.put, List.setIfInBounds_toArray, List.set_cons_zero, List.set_cons_succ, i64_w, i32_w]
        rfl
      refine one_ (i := 5) (N := some 22) #[true, true, true, true, true, true, false, false, false, false, false, false, false] rfl rfl (one_of HT_.out (by kernel_rfl)) (by decide) (fun K hK => ?_)
      refine goes_ Try.func21 (by kernel_rfl) rfl #[.agg #[.int .i64 t299, .int .i64 t300, .int .i64 t301, .slice Ao8 t302.length co8], .int .i64 t305] (by rfl) rfl rfl B.am ?_
      with_reducible refine (spec_PassData.calls k t299 t300 t301 _ _ t302 t305 t310 _ ?side1 ?side2 A10.out).mono ?_
      (case side1 => exact B.kc ((Kd.Q_reads' HO304.out).2.2))
      (case side2 => exact (Kd.Q_reads' HO304.out).2.1)
      rintro e w17 ⟨v311, rfl, ho0, hb⟩
      refine ⟨_, rfl, ?_⟩
      have n0_ := Aside0.mk (Kd.Q_elder' (B.kq HO304) (Kd.R_base ho0) hb)
      have n1_ := Aside0.mk (Kd.R_elder' (B.kr HO309) (Kd.R_base ho0) hb)
      have n2_ := Aside0.mk (Kd.R_lower (Kd.R_new' (Kd.R_new' ho0 (Kd.Q_lt (B.kq HO304))) (Kd.R_lt (B.kr HO309))) (below_size (B.bl HB)))
      have n3_ := Aside0.mk (blk_below (B.kb BK306) hb)
      have n4_ := Aside0.mk (below_step (B.bl HB) hb)
      clear HO304 HO309 BK306 HB
      have HO304 := n0_
      have HO309 := n1_
      have HO312 := n2_
      have BK306 := n3_
      have HB := n4_
      clear n0_ n1_ n2_ n3_ n4_
      (try clear hb)
      (try clear hb2)
      (try clear hk)
      (try clear hi)
      (try clear ho0)
      obtain ⟨Ao18, co18, eo18⟩ := Kd.R_slice HO309.out
      (first | subst eo18 | (injection eo18 with f1_ f2_ f3_; have f4_ := f1_.symm; have f5_ := f3_.symm; clear f1_ f2_ f3_; subst f4_; subst f5_))
      obtain ⟨Ao19, co19, eo19⟩ := Kd.R_slice HO312.out
      (first | subst eo19 | (injection eo19 with f1_ f2_ f3_; have f4_ := f1_.symm; have f5_ := f3_.symm; clear f1_ f2_ f3_; subst f4_; subst f5_))
      refine hK.out _ _ ⟨B.bc BK306 0, B.bc BK306 1, B.bc BK306 2, B.bc BK306 3⟩ (fun hHeld => ?_)
      clear hK K
      refine norm_ (a' := ?_) ?_ ?_
      rotate_left
      · show Act.put _ (some 22) _ = _
        simp only [Act.put, List.setIfInBounds_toArray, List.set_cons_zero, List.set_cons_succ, i64_w, i32_w]
        rfl
      refine one_ (i := 6) (N := some 23) #[true, true, true, true, true, true, true, false, false, false, false, false, false] rfl rfl (one_of HT_.out (by kernel_rfl)) (by decide) (fun K hK => ?_)
      refine goes_ Try.func17 (by kernel_rfl) rfl #[.slice Ao18 t307.length co18, .slice Ao19 t310.length co19] (by rfl) rfl rfl B.am ?_
      with_reducible refine (laws_equalInts.calls k _ _ t307 _ _ t310 true _ ?side1 ?side2 ?side3 ?side4 A11.out).mono ?_
      (case side1 => exact B.kc ((Kd.R_reads' HO309.out).2.2))
      (case side2 => exact (Kd.R_reads' HO309.out).2.1)
      (case side3 => exact B.kc ((Kd.R_reads' HO312.out).2.2))
      (case side4 => exact (Kd.R_reads' HO312.out).2.1)
      rintro e w' ⟨rfl, ⟨nd, rfl⟩⟩
      refine ⟨_, rfl, ?_⟩
      refine hK.out _ _ ⟨B.bc BK306 0, B.bc BK306 1, B.bc BK306 2, B.bc BK306 3⟩ (fun hHeld => ?_)
      clear hK K
      refine norm_ (a' := ?_) ?_ ?_
      rotate_left
      · show Act.put _ (some 23) _ = _
        simp only [Act.put, List.setIfInBounds_toArray, List.set_cons_zero, List.set_cons_succ, i64_w, i32_w]
        rfl
      refine pure_ (i := 7) (N := some 24) (v := ?_) (a' := ?_) #[true, true, true, true, true, true, true, true, false, false, false, false, false] rfl rfl (any_of HT_.out (by kernel_rfl)) (fun _ _ _ h => h) (Or.inl ⟨by rfl, ?_⟩) ?_ ?_
      rotate_left
      · intro w'
        go_simp
        with_reducible rfl
      rotate_left
      · simp only [Act.put, List.setIfInBounds_toArray, List.set_cons_zero, List.set_cons_succ, i64_w, i32_w]
        rfl
      refine pure_ (i := 8) (N := some 25) (v := ?_) (a' := ?_) #[true, true, true, true, true, true, true, true, true, false, false, false, false] rfl rfl (any_of HT_.out (by kernel_rfl)) (fun _ _ _ h => h) (Or.inl ⟨by rfl, ?_⟩) ?_ ?_
      rotate_left
      · intro w'
        go_simp
        with_reducible rfl
      rotate_left
      · simp only [Act.put, List.setIfInBounds_toArray, List.set_cons_zero, List.set_cons_succ, i64_w, i32_w]
        rfl
      refine take_ (i := 9) (N := some 26) (v := ?_) (a' := ?_) #[true, true, true, true, true, true, true, true, true, true, false, false, false] rfl rfl (take_ofW HT_.out HW_.out (by kernel_rfl)) (fun _ _ _ h => h) (Or.inl ⟨by rfl, ?_⟩) hHeld ?_ ?_
      rotate_left
      · rintro w' ⟨s0, s1, s2, s3⟩
        go_simp
        with_reducible rfl
      rotate_left
      · simp only [Act.put, List.setIfInBounds_toArray, List.set_cons_zero, List.set_cons_succ, i64_w, i32_w]
        rfl
      refine one_ (i := 10) (N := some 27) #[true, true, true, true, true, true, true, true, true, true, true, false, false] rfl rfl (one_of HT_.out (by kernel_rfl)) (by decide) (fun K hK => ?_)
      refine goes_ Try.func19 (by kernel_rfl) rfl #[.agg #[.int .i64 t299, .int .i64 t300, .int .i64 t301, .slice Ao8 t302.length co8]] (by rfl) rfl rfl B.am ?_
      with_reducible refine (impl_ValidImage.calls t299 t300 t301 _ _ t302 t314 _ ?side1 ?side2 A13.out).mono ?_
      (case side1 => exact B.kc ((Kd.Q_reads' HO304.out).2.2))
      (case side2 => exact (Kd.Q_reads' HO304.out).2.1)
      rintro e w20 ⟨rfl, hb⟩
      refine ⟨_, rfl, ?_⟩
      have n0_ := Aside0.mk (Kd.Q_below (B.kq HO304) hb)
      have n1_ := Aside0.mk (Kd.R_below (B.kr HO309) hb)
      have n2_ := Aside0.mk (Kd.R_below (B.kr HO312) hb)
      have n3_ := Aside0.mk (blk_below (B.kb BK306) hb)
      have n4_ := Aside0.mk (below_step (B.bl HB) hb)
      clear HO304 HO309 HO312 BK306 HB
      have HO304 := n0_
      have HO309 := n1_
      have HO312 := n2_
      have BK306 := n3_
      have HB := n4_
      clear n0_ n1_ n2_ n3_ n4_
      (try clear hb)
      (try clear hb2)
      (try clear hk)
      (try clear hi)
      refine hK.out _ _ ⟨B.bc BK306 0, B.bc BK306 1, B.bc BK306 2, B.bc BK306 3⟩ (fun hHeld => ?_)
      clear hK K
      refine norm_ (a' := ?_) ?_ ?_
      rotate_left
      · show Act.put _ (some 27) _ = _
        simp only [Act.put, List.setIfInBounds_toArray, List.set_cons_zero, List.set_cons_succ, i64_w, i32_w]
        rfl
      refine pure_ (i := 11) (N := some 28) (v := ?_) (a' := ?_) #[true, true, true, true, true, true, true, true, true, true, true, true, false] rfl rfl (any_of HT_.out (by kernel_rfl)) (fun _ _ _ h => h) (Or.inl ⟨by rfl, ?_⟩) ?_ ?_
      rotate_left
      · intro w'
        go_simp
        with_reducible rfl
      rotate_left
      · simp only [Act.put, List.setIfInBounds_toArray, List.set_cons_zero, List.set_cons_succ, i64_w, i32_w]
        rfl
      refine pure_ (i := 12) (N := some 29) (v := ?_) (a' := ?_) #[true, true, true, true, true, true, true, true, true, true, true, true, true] rfl rfl (any_of HT_.out (by kernel_rfl)) (fun _ _ _ h => h) (Or.inl ⟨by rfl, ?_⟩) ?_ ?_
      rotate_left
      · intro w'
        go_simp
        with_reducible rfl
      rotate_left
      · simp only [Act.put, List.setIfInBounds_toArray, List.set_cons_zero, List.set_cons_succ, i64_w, i32_w]
        rfl
      refine done_ (done_of HT_.out (by kernel_rfl)) ?_
      try go_wp2
      go_meet
      case rel => exact ⟨_, (!t314), (by first | rfl | (simp; done) | (simp [*]; done)), H', ⟨by first | omega | exact Nat.le_refl _⟩, ⟨by (with_reducible repeat (first | apply Kd.Q_alloc | apply Kd.Q_drewN | apply Kd.Q_drew)); exact Kd.Q_mono HO304.out (fun _ hk => trivial)⟩, ⟨B.kb BK306⟩, ⟨B.bl HB⟩⟩
    replace c12 := Bool.eq_false_iff.mpr c12
    subst c12
    have H1 : (laws_FnPassRoundTrip.j0 k t305 true t299 t300 t301 t302) = some r := by rw [if_neg (show ¬ (false = true) by decide)] at H; exact H
    clear H
    have H := H1
    clear H1
    have H' := Aside0.mk H
    clear H
    try go_wp2
    have n0_ : Aside0 (Kd.Q (Kd.int .i64) 3 ((((w6.setCell ⟨gb306, 0, none⟩ (.int .i64 t299)).setCell ⟨gb306, 1, none⟩ (.int .i64 t300)).setCell ⟨gb306, 2, none⟩ (.int .i64 t301)).setCell ⟨gb306, 3, none⟩ (.slice Ao8 t302.length co8)) w.heap.size (fun _ => True) (.slice Ao8 t302.length co8) t302) := ⟨by (with_reducible repeat (first | apply Kd.Q_alloc | apply Kd.Q_drewN | apply Kd.Q_drew)); exact Kd.Q_mono (Kd.Q_far (p := ⟨gb306, 3, none⟩) (Kd.Q_far (p := ⟨gb306, 2, none⟩) (Kd.Q_far (p := ⟨gb306, 1, none⟩) (Kd.Q_far (p := ⟨gb306, 0, none⟩) (Kd.Q_types HO304.out BK306.out (by decide)) (fun _ hk => hk.2) (.int .i64 t299)) (fun _ hk => hk.2) (.int .i64 t300)) (fun _ hk => hk.2) (.int .i64 t301)) (fun _ hk => hk.2) (.slice Ao8 t302.length co8)) (fun _ hk => trivial)⟩
    have n1_ : Aside0 (((((w6.setCell ⟨gb306, 0, none⟩ (.int .i64 t299)).setCell ⟨gb306, 1, none⟩ (.int .i64 t300)).setCell ⟨gb306, 2, none⟩ (.int .i64 t301)).setCell ⟨gb306, 3, none⟩ (.slice Ao8 t302.length co8)).heap[gb306]? = some (.cells #[.int .i64 t299, .int .i64 t300, .int .i64 t301, .slice Ao8 t302.length co8] 34 (0, 0))) := ⟨B.kb0 (B.bp4 BK306)⟩
    have n2_ : Aside0 (Below w.heap.size w ((((w6.setCell ⟨gb306, 0, none⟩ (.int .i64 t299)).setCell ⟨gb306, 1, none⟩ (.int .i64 t300)).setCell ⟨gb306, 2, none⟩ (.int .i64 t301)).setCell ⟨gb306, 3, none⟩ (.slice Ao8 t302.length co8))) := ⟨B.bl HB⟩
    (try clear HO304)
    (try clear BK306)
    (try clear HB)
    generalize ((((w6.setCell ⟨gb306, 0, none⟩ (.int .i64 t299)).setCell ⟨gb306, 1, none⟩ (.int .i64 t300)).setCell ⟨gb306, 2, none⟩ (.int .i64 t301)).setCell ⟨gb306, 3, none⟩ (.slice Ao8 t302.length co8)) = w21 at n0_ n1_ n2_ ⊢
    have HO304 := n0_
    have BK306 := n1_
    have HB := n2_
    clear n0_ n1_ n2_
    have n0_ := Aside0.mk (Kd.Q_drew HO304.out)
    have n1_ := Aside0.mk (blk_drew BK306.out)
    have n2_ := Aside0.mk (below_drew1 HB.out)
    clear HO304 BK306 HB
    have HO304 := n0_
    have BK306 := n1_
    have HB := n2_
    clear n0_ n1_ n2_
    refine start_ (n := 13) (S := fun w' => w'.cell? ⟨gb306, 0, none⟩ = some (.int .i64 t299) ∧ w'.cell? ⟨gb306, 1, none⟩ = some (.int .i64 t300) ∧ w'.cell? ⟨gb306, 2, none⟩ = some (.int .i64 t301) ∧ w'.cell? ⟨gb306, 3, none⟩ = some (.slice Ao8 t302.length co8)) (ds := []) #[false, false, false, false, false, false, false, false, false, false, false, false, false] (by kernel_rfl) rfl rfl ⟨B.bc BK306 0, B.bc BK306 1, B.bc BK306 2, B.bc BK306 3⟩ (fun hHeld => ?_); refine with_tabW laws_FnPassRoundTrip.tab4 laws_FnPassRoundTrip.bits4 (fun HT_ HW_ => ?_)
    generalize w21.drew = w22 at HO304 BK306 HB hHeld ⊢
    refine pure_ (i := 1) (N := some 18) (v := ?_) (a' := ?_) #[false, true, false, false, false, false, false, false, false, false, false, false, false] rfl rfl (any_of HT_.out (by kernel_rfl)) (fun _ _ _ h => h) (Or.inl ⟨by rfl, ?_⟩) ?_ ?_
    rotate_left
    · intro w'
      go_simp
      with_reducible rfl
    rotate_left
    · simp only [Act.put, List.setIfInBounds_toArray, List.set_cons_zero, List.set_cons_succ, i64_w, i32_w]
      rfl
    refine pure_ (i := 4) (N := some 21) (v := ?_) (a' := ?_) #[false, true, false, false, true, false, false, false, false, false, false, false, false] rfl rfl (any_of HT_.out (by kernel_rfl)) (fun _ _ _ h => h) (Or.inl ⟨by rfl, ?_⟩) ?_ ?_
    rotate_left
    · intro w'
      go_simp
      with_reducible rfl
    rotate_left
    · simp only [Act.put, List.setIfInBounds_toArray, List.set_cons_zero, List.set_cons_succ, i64_w, i32_w]
      rfl
    refine take_ (i := 0) (N := some 17) (v := ?_) (a' := ?_) #[true, true, false, false, true, false, false, false, false, false, false, false, false] rfl rfl (take_ofW HT_.out HW_.out (by kernel_rfl)) (fun _ _ _ h => h) (Or.inl ⟨by rfl, ?_⟩) hHeld ?_ ?_
    rotate_left
    · rintro w' ⟨s0, s1, s2, s3⟩
      go_simp
      with_reducible rfl
    rotate_left
    · simp only [Act.put, List.setIfInBounds_toArray, List.set_cons_zero, List.set_cons_succ, i64_w, i32_w]
      rfl
    refine take_ (i := 3) (N := some 20) (v := ?_) (a' := ?_) #[true, true, false, true, true, false, false, false, false, false, false, false, false] rfl rfl (take_ofW HT_.out HW_.out (by kernel_rfl)) (fun _ _ _ h => h) (Or.inl ⟨by rfl, ?_⟩) hHeld ?_ ?_
    rotate_left
    · rintro w' ⟨s0, s1, s2, s3⟩
      go_simp
      with_reducible rfl
    rotate_left
    · simp only [Act.put, List.setIfInBounds_toArray, List.set_cons_zero, List.set_cons_succ, i64_w, i32_w]
      rfl
    refine one_ (i := 2) (N := some 19) #[true, true, true, true, true, false, false, false, false, false, false, false, false] rfl rfl (one_of HT_.out (by kernel_rfl)) (by decide) (fun K hK => ?_)
    refine goes_ Try.func18 (by kernel_rfl) rfl #[.agg #[.int .i64 t299, .int .i64 t300, .int .i64 t301, .slice Ao8 t302.length co8], .int .i64 t305] (by rfl) rfl rfl B.am ?_
    with_reducible refine (impl_PassData.calls k t299 t300 t301 _ _ t302 t305 t307 _ ?side1 ?side2 A9.out).mono ?_
    (case side1 => exact B.kc ((Kd.Q_reads' HO304.out).2.2))
    (case side2 => exact (Kd.Q_reads' HO304.out).2.1)
    rintro e w23 ⟨v308, rfl, ho0, hb⟩
    refine ⟨_, rfl, ?_⟩
    have n0_ := Aside0.mk (Kd.Q_elder' (B.kq HO304) (Kd.R_base ho0) hb)
    have n1_ := Aside0.mk (Kd.R_lower (Kd.R_new' ho0 (Kd.Q_lt (B.kq HO304))) (below_size (B.bl HB)))
    have n2_ := Aside0.mk (blk_below (B.kb BK306) hb)
    have n3_ := Aside0.mk (below_step (B.bl HB) hb)
    clear HO304 BK306 HB
    have HO304 := n0_
    have HO309 := n1_
    have BK306 := n2_
    have HB := n3_
    clear n0_ n1_ n2_ n3_
    (try clear hb)
    (try clear hb2)
    (try clear hk)
    (try clear hi)
    (try clear ho0)
    refine hK.out _ _ ⟨B.bc BK306 0, B.bc BK306 1, B.bc BK306 2, B.bc BK306 3⟩ (fun hHeld => ?_)
    clear hK K
    refine norm_ (a' := ?_) ?_ ?_
    rotate_left
    · show Act.put _ (some 19) _ = _
      simp only [Act.put, List.setIfInBounds_toArray, List.set_cons_zero, List.set_cons_succ, i64_w, i32_w]
      rfl
    refine one_ (i := 5) (N := some 22) #[true, true, true, true, true, true, false, false, false, false, false, false, false] rfl rfl (one_of HT_.out (by kernel_rfl)) (by decide) (fun K hK => ?_)
    refine goes_ Try.func21 (by kernel_rfl) rfl #[.agg #[.int .i64 t299, .int .i64 t300, .int .i64 t301, .slice Ao8 t302.length co8], .int .i64 t305] (by rfl) rfl rfl B.am ?_
    with_reducible refine (spec_PassData.calls k t299 t300 t301 _ _ t302 t305 t310 _ ?side1 ?side2 A10.out).mono ?_
    (case side1 => exact B.kc ((Kd.Q_reads' HO304.out).2.2))
    (case side2 => exact (Kd.Q_reads' HO304.out).2.1)
    rintro e w24 ⟨v311, rfl, ho0, hb⟩
    refine ⟨_, rfl, ?_⟩
    have n0_ := Aside0.mk (Kd.Q_elder' (B.kq HO304) (Kd.R_base ho0) hb)
    have n1_ := Aside0.mk (Kd.R_elder' (B.kr HO309) (Kd.R_base ho0) hb)
    have n2_ := Aside0.mk (Kd.R_lower (Kd.R_new' (Kd.R_new' ho0 (Kd.Q_lt (B.kq HO304))) (Kd.R_lt (B.kr HO309))) (below_size (B.bl HB)))
    have n3_ := Aside0.mk (blk_below (B.kb BK306) hb)
    have n4_ := Aside0.mk (below_step (B.bl HB) hb)
    clear HO304 HO309 BK306 HB
    have HO304 := n0_
    have HO309 := n1_
    have HO312 := n2_
    have BK306 := n3_
    have HB := n4_
    clear n0_ n1_ n2_ n3_ n4_
    (try clear hb)
    (try clear hb2)
    (try clear hk)
    (try clear hi)
    (try clear ho0)
    obtain ⟨Ao25, co25, eo25⟩ := Kd.R_slice HO309.out
    (first | subst eo25 | (injection eo25 with f1_ f2_ f3_; have f4_ := f1_.symm; have f5_ := f3_.symm; clear f1_ f2_ f3_; subst f4_; subst f5_))
    obtain ⟨Ao26, co26, eo26⟩ := Kd.R_slice HO312.out
    (first | subst eo26 | (injection eo26 with f1_ f2_ f3_; have f4_ := f1_.symm; have f5_ := f3_.symm; clear f1_ f2_ f3_; subst f4_; subst f5_))
    refine hK.out _ _ ⟨B.bc BK306 0, B.bc BK306 1, B.bc BK306 2, B.bc BK306 3⟩ (fun hHeld => ?_)
    clear hK K
    refine norm_ (a' := ?_) ?_ ?_
    rotate_left
    · show Act.put _ (some 22) _ = _
      simp only [Act.put, List.setIfInBounds_toArray, List.set_cons_zero, List.set_cons_succ, i64_w, i32_w]
      rfl
    refine one_ (i := 6) (N := some 23) #[true, true, true, true, true, true, true, false, false, false, false, false, false] rfl rfl (one_of HT_.out (by kernel_rfl)) (by decide) (fun K hK => ?_)
    refine goes_ Try.func17 (by kernel_rfl) rfl #[.slice Ao25 t307.length co25, .slice Ao26 t310.length co26] (by rfl) rfl rfl B.am ?_
    with_reducible refine (laws_equalInts.calls k _ _ t307 _ _ t310 false _ ?side1 ?side2 ?side3 ?side4 A11.out).mono ?_
    (case side1 => exact B.kc ((Kd.R_reads' HO309.out).2.2))
    (case side2 => exact (Kd.R_reads' HO309.out).2.1)
    (case side3 => exact B.kc ((Kd.R_reads' HO312.out).2.2))
    (case side4 => exact (Kd.R_reads' HO312.out).2.1)
    rintro e w' ⟨rfl, ⟨nd, rfl⟩⟩
    refine ⟨_, rfl, ?_⟩
    refine hK.out _ _ ⟨B.bc BK306 0, B.bc BK306 1, B.bc BK306 2, B.bc BK306 3⟩ (fun hHeld => ?_)
    clear hK K
    refine norm_ (a' := ?_) ?_ ?_
    rotate_left
    · show Act.put _ (some 23) _ = _
      simp only [Act.put, List.setIfInBounds_toArray, List.set_cons_zero, List.set_cons_succ, i64_w, i32_w]
      rfl
    refine pure_ (i := 7) (N := some 24) (v := ?_) (a' := ?_) #[true, true, true, true, true, true, true, true, false, false, false, false, false] rfl rfl (any_of HT_.out (by kernel_rfl)) (fun _ _ _ h => h) (Or.inl ⟨by rfl, ?_⟩) ?_ ?_
    rotate_left
    · intro w'
      go_simp
      with_reducible rfl
    rotate_left
    · simp only [Act.put, List.setIfInBounds_toArray, List.set_cons_zero, List.set_cons_succ, i64_w, i32_w]
      rfl
    refine pure_ (i := 8) (N := some 25) (v := ?_) (a' := ?_) #[true, true, true, true, true, true, true, true, true, false, false, false, false] rfl rfl (any_of HT_.out (by kernel_rfl)) (fun _ _ _ h => h) (Or.inl ⟨by rfl, ?_⟩) ?_ ?_
    rotate_left
    · intro w'
      go_simp
      with_reducible rfl
    rotate_left
    · simp only [Act.put, List.setIfInBounds_toArray, List.set_cons_zero, List.set_cons_succ, i64_w, i32_w]
      rfl
    refine pure_ (i := 9) (N := some 26) (v := undef) (a' := ?_) #[true, true, true, true, true, true, true, true, true, true, false, false, false] rfl rfl (any_of HT_.out (by kernel_rfl)) (fun _ _ _ h => h) (Or.inr ⟨by rfl, rfl⟩) ?_ ?_
    rotate_left
    · simp only [Act.put, List.setIfInBounds_toArray, List.set_cons_zero, List.set_cons_succ, i64_w, i32_w]
      rfl
    refine pure_ (i := 10) (N := some 27) (v := undef) (a' := ?_) #[true, true, true, true, true, true, true, true, true, true, true, false, false] rfl rfl (any_of HT_.out (by kernel_rfl)) (fun _ _ _ h => h) (Or.inr ⟨by rfl, rfl⟩) ?_ ?_
    rotate_left
    · simp only [Act.put, List.setIfInBounds_toArray, List.set_cons_zero, List.set_cons_succ, i64_w, i32_w]
      rfl
    refine pure_ (i := 11) (N := some 28) (v := undef) (a' := ?_) #[true, true, true, true, true, true, true, true, true, true, true, true, false] rfl rfl (any_of HT_.out (by kernel_rfl)) (fun _ _ _ h => h) (Or.inr ⟨by rfl, rfl⟩) ?_ ?_
    rotate_left
    · simp only [Act.put, List.setIfInBounds_toArray, List.set_cons_zero, List.set_cons_succ, i64_w, i32_w]
      rfl
    refine pure_ (i := 12) (N := some 29) (v := ?_) (a' := ?_) #[true, true, true, true, true, true, true, true, true, true, true, true, true] rfl rfl (any_of HT_.out (by kernel_rfl)) (fun _ _ _ h => h) (Or.inl ⟨by rfl, ?_⟩) ?_ ?_
    rotate_left
    · intro w'
      go_simp
      with_reducible rfl
    rotate_left
    · simp only [Act.put, List.setIfInBounds_toArray, List.set_cons_zero, List.set_cons_succ, i64_w, i32_w]
      rfl
    refine done_ (done_of HT_.out (by kernel_rfl)) ?_
    try go_wp2
    go_meet
    case rel => exact ⟨_, (true), (by first | rfl | (simp; done) | (simp [*]; done)), H', ⟨by first | omega | exact Nat.le_refl _⟩, ⟨by (with_reducible repeat (first | apply Kd.Q_alloc | apply Kd.Q_drewN | apply Kd.Q_drew)); exact Kd.Q_mono HO304.out (fun _ hk => trivial)⟩, ⟨B.kb BK306⟩, ⟨B.bl HB⟩⟩
  case rest =>
    clear HC4
    try clear c1
    try clear c2
    try clear c2b0
    try clear c2b1
    try clear p2
    try clear c8
    try clear c12
    try clear c17
    try clear c18
    try clear c19
    try clear c21
    try clear hcz7_0
    try clear hcz7_1
    try clear hcz7_2
    try clear hcz7_3
    try clear hfz7_0
    try clear hfz7_1
    try clear hfz7_2
    try clear hfz7_3
    obtain ⟨kq, x29_3, rfl, HA, HJ3, HO_307003, BK306, HB⟩ := hcut
    cases kq with
    | zero => exact absurd HA.out (by simp [laws_FnPassRoundTrip.j0])
    | succ kj3 =>
      have H := HA.out
      clear HA
      simp only [laws_FnPassRoundTrip.j0] at H
      by_cases c27 : x29_3 = true
      · subst c27
        have H1 : ((impl_PassData.f kj3 t299 t300 t301 t302 t305).bind fun t315 => ((spec_PassData.f kj3 t299 t300 t301 t302 t305).bind fun t318 => ((laws_equalInts.f kj3 t315 t318).bind fun t321 => (some t321)))) = some r := by rw [if_pos rfl] at H; exact H
        clear H
        have H := H1
        clear H1
        replace H := Option.bind_eq_some_iff.mp H
        obtain ⟨t315, A280, H⟩ := H
        replace H : ((spec_PassData.f kj3 t299 t300 t301 t302 t305).bind fun t318 => ((laws_equalInts.f kj3 t315 t318).bind fun t321 => (some t321))) = some r := H
        have A28 := Aside0.mk A280
        clear A280
        replace H := Option.bind_eq_some_iff.mp H
        obtain ⟨t318, A290, H⟩ := H
        replace H : ((laws_equalInts.f kj3 t315 t318).bind fun t321 => (some t321)) = some r := H
        have A29 := Aside0.mk A290
        clear A290
        replace H := Option.bind_eq_some_iff.mp H
        obtain ⟨t321, A300, H⟩ := H
        replace H : (some t321) = some r := H
        have A30 := Aside0.mk A300
        clear A300
        obtain rfl := Option.some.inj H
        simp only [Option.some.injEq, Prod.mk.injEq] at H
        obtain ⟨rfl⟩ := H
        try go_wp2
        have n0_ := Aside0.mk (Kd.Q_drew HO_307003.out)
        have n1_ := Aside0.mk (blk_drew BK306.out)
        have n2_ := Aside0.mk (below_drew1 HB.out)
        clear HO_307003 BK306 HB
        have HO_307003 := n0_
        have BK306 := n1_
        have HB := n2_
        clear n0_ n1_ n2_
        refine start_ (n := 8) (S := fun w' => w'.cell? ⟨gb306, 0, none⟩ = some (.int .i64 t299) ∧ w'.cell? ⟨gb306, 1, none⟩ = some (.int .i64 t300) ∧ w'.cell? ⟨gb306, 2, none⟩ = some (.int .i64 t301) ∧ w'.cell? ⟨gb306, 3, none⟩ = some (.slice Ao8 t302.length co8)) (ds := []) #[false, false, false, false, false, false, false, false] (by kernel_rfl) rfl rfl ⟨B.bc BK306 0, B.bc BK306 1, B.bc BK306 2, B.bc BK306 3⟩ (fun hHeld => ?_); refine with_tabW laws_FnPassRoundTrip.tab5 laws_FnPassRoundTrip.bits5 (fun HT_ HW_ => ?_)
        generalize wc.drew = w31 at HO_307003 BK306 HB hHeld ⊢
        refine pure_ (i := 1) (N := some 31) (v := ?_) (a' := ?_) #[false, true, false, false, false, false, false, false] rfl rfl (any_of HT_.out (by kernel_rfl)) (fun _ _ _ h => h) (Or.inl ⟨by rfl, ?_⟩) ?_ ?_
        rotate_left
        · intro w'
          go_simp
          with_reducible rfl
        rotate_left
        · simp only [Act.put, List.setIfInBounds_toArray, List.set_cons_zero, List.set_cons_succ, i64_w, i32_w]
          rfl
        refine pure_ (i := 4) (N := some 34) (v := ?_) (a' := ?_) #[false, true, false, false, true, false, false, false] rfl rfl (any_of HT_.out (by kernel_rfl)) (fun _ _ _ h => h) (Or.inl ⟨by rfl, ?_⟩) ?_ ?_
        rotate_left
        · intro w'
          go_simp
          with_reducible rfl
        rotate_left
        · simp only [Act.put, List.setIfInBounds_toArray, List.set_cons_zero, List.set_cons_succ, i64_w, i32_w]
          rfl
        refine take_ (i := 0) (N := some 30) (v := ?_) (a' := ?_) #[true, true, false, false, true, false, false, false] rfl rfl (take_ofW HT_.out HW_.out (by kernel_rfl)) (fun _ _ _ h => h) (Or.inl ⟨by rfl, ?_⟩) hHeld ?_ ?_
        rotate_left
        · rintro w' ⟨s0, s1, s2, s3⟩
          go_simp
          with_reducible rfl
        rotate_left
        · simp only [Act.put, List.setIfInBounds_toArray, List.set_cons_zero, List.set_cons_succ, i64_w, i32_w]
          rfl
        refine take_ (i := 3) (N := some 33) (v := ?_) (a' := ?_) #[true, true, false, true, true, false, false, false] rfl rfl (take_ofW HT_.out HW_.out (by kernel_rfl)) (fun _ _ _ h => h) (Or.inl ⟨by rfl, ?_⟩) hHeld ?_ ?_
        rotate_left
        · rintro w' ⟨s0, s1, s2, s3⟩
          go_simp
          with_reducible rfl
        rotate_left
        · simp only [Act.put, List.setIfInBounds_toArray, List.set_cons_zero, List.set_cons_succ, i64_w, i32_w]
          rfl
        refine one_ (i := 2) (N := some 32) #[true, true, true, true, true, false, false, false] rfl rfl (one_of HT_.out (by kernel_rfl)) (by decide) (fun K hK => ?_)
        refine goes_ Try.func18 (by kernel_rfl) rfl #[.agg #[.int .i64 t299, .int .i64 t300, .int .i64 t301, .slice Ao8 t302.length co8], .int .i64 t305] (by rfl) rfl rfl B.am ?_
        with_reducible refine (impl_PassData.calls kj3 t299 t300 t301 _ _ t302 t305 t315 _ ?side1 ?side2 A28.out).mono ?_
        (case side1 => exact B.kc ((Kd.Q_reads' HO_307003.out).2.2))
        (case side2 => exact (Kd.Q_reads' HO_307003.out).2.1)
        rintro e w32 ⟨v316, rfl, ho0, hb⟩
        refine ⟨_, rfl, ?_⟩
        have n0_ := Aside0.mk (Kd.Q_elder' (B.kq HO_307003) (Kd.R_base ho0) hb)
        have n1_ := Aside0.mk (Kd.R_lower (Kd.R_new' ho0 (Kd.Q_lt (B.kq HO_307003))) (below_size (B.bl HB)))
        have n2_ := Aside0.mk (blk_below (B.kb BK306) hb)
        have n3_ := Aside0.mk (below_step (B.bl HB) hb)
        clear HO_307003 BK306 HB
        have HO_307003 := n0_
        have HO317 := n1_
        have BK306 := n2_
        have HB := n3_
        clear n0_ n1_ n2_ n3_
        (try clear hb)
        (try clear hb2)
        (try clear hk)
        (try clear hi)
        (try clear ho0)
        refine hK.out _ _ ⟨B.bc BK306 0, B.bc BK306 1, B.bc BK306 2, B.bc BK306 3⟩ (fun hHeld => ?_)
        clear hK K
        refine norm_ (a' := ?_) ?_ ?_
        rotate_left
        · show Act.put _ (some 32) _ = _
          simp only [Act.put, List.setIfInBounds_toArray, List.set_cons_zero, List.set_cons_succ, i64_w, i32_w]
          rfl
        refine one_ (i := 5) (N := some 35) #[true, true, true, true, true, true, false, false] rfl rfl (one_of HT_.out (by kernel_rfl)) (by decide) (fun K hK => ?_)
        refine goes_ Try.func21 (by kernel_rfl) rfl #[.agg #[.int .i64 t299, .int .i64 t300, .int .i64 t301, .slice Ao8 t302.length co8], .int .i64 t305] (by rfl) rfl rfl B.am ?_
        with_reducible refine (spec_PassData.calls kj3 t299 t300 t301 _ _ t302 t305 t318 _ ?side1 ?side2 A29.out).mono ?_
        (case side1 => exact B.kc ((Kd.Q_reads' HO_307003.out).2.2))
        (case side2 => exact (Kd.Q_reads' HO_307003.out).2.1)
        rintro e w33 ⟨v319, rfl, ho0, hb⟩
        refine ⟨_, rfl, ?_⟩
        have n0_ := Aside0.mk (Kd.Q_elder' (B.kq HO_307003) (Kd.R_base ho0) hb)
        have n1_ := Aside0.mk (Kd.R_elder' (B.kr HO317) (Kd.R_base ho0) hb)
        have n2_ := Aside0.mk (Kd.R_lower (Kd.R_new' (Kd.R_new' ho0 (Kd.Q_lt (B.kq HO_307003))) (Kd.R_lt (B.kr HO317))) (below_size (B.bl HB)))
        have n3_ := Aside0.mk (blk_below (B.kb BK306) hb)
        have n4_ := Aside0.mk (below_step (B.bl HB) hb)
        clear HO_307003 HO317 BK306 HB
        have HO_307003 := n0_
        have HO317 := n1_
        have HO320 := n2_
        have BK306 := n3_
        have HB := n4_
        clear n0_ n1_ n2_ n3_ n4_
        (try clear hb)
        (try clear hb2)
        (try clear hk)
        (try clear hi)
        (try clear ho0)
        obtain ⟨Ao34, co34, eo34⟩ := Kd.R_slice HO317.out
        (first | subst eo34 | (injection eo34 with f1_ f2_ f3_; have f4_ := f1_.symm; have f5_ := f3_.symm; clear f1_ f2_ f3_; subst f4_; subst f5_))
        obtain ⟨Ao35, co35, eo35⟩ := Kd.R_slice HO320.out
        (first | subst eo35 | (injection eo35 with f1_ f2_ f3_; have f4_ := f1_.symm; have f5_ := f3_.symm; clear f1_ f2_ f3_; subst f4_; subst f5_))
        refine hK.out _ _ ⟨B.bc BK306 0, B.bc BK306 1, B.bc BK306 2, B.bc BK306 3⟩ (fun hHeld => ?_)
        clear hK K
        refine norm_ (a' := ?_) ?_ ?_
        rotate_left
        · show Act.put _ (some 35) _ = _
          simp only [Act.put, List.setIfInBounds_toArray, List.set_cons_zero, List.set_cons_succ, i64_w, i32_w]
          rfl
        refine one_ (i := 6) (N := some 36) #[true, true, true, true, true, true, true, false] rfl rfl (one_of HT_.out (by kernel_rfl)) (by decide) (fun K hK => ?_)
        refine goes_ Try.func17 (by kernel_rfl) rfl #[.slice Ao34 t315.length co34, .slice Ao35 t318.length co35] (by rfl) rfl rfl B.am ?_
        with_reducible refine (laws_equalInts.calls kj3 _ _ t315 _ _ t318 t321 _ ?side1 ?side2 ?side3 ?side4 A30.out).mono ?_
        (case side1 => exact B.kc ((Kd.R_reads' HO317.out).2.2))
        (case side2 => exact (Kd.R_reads' HO317.out).2.1)
        (case side3 => exact B.kc ((Kd.R_reads' HO320.out).2.2))
        (case side4 => exact (Kd.R_reads' HO320.out).2.1)
        rintro e w' ⟨rfl, ⟨nd, rfl⟩⟩
        refine ⟨_, rfl, ?_⟩
        refine hK.out _ _ ⟨B.bc BK306 0, B.bc BK306 1, B.bc BK306 2, B.bc BK306 3⟩ (fun hHeld => ?_)
        clear hK K
        refine norm_ (a' := ?_) ?_ ?_
        rotate_left
        · show Act.put _ (some 36) _ = _
          simp only [Act.put, List.setIfInBounds_toArray, List.set_cons_zero, List.set_cons_succ, i64_w, i32_w]
          rfl
        refine pure_ (i := 7) (N := some 2) (v := ?_) (a' := ?_) #[true, true, true, true, true, true, true, true] rfl rfl (any_of HT_.out (by kernel_rfl)) (fun _ _ _ h => h) (Or.inl ⟨by rfl, ?_⟩) ?_ ?_
        rotate_left
        · intro w'
          go_simp
          with_reducible rfl
        rotate_left
        · simp only [Act.put, List.setIfInBounds_toArray, List.set_cons_zero, List.set_cons_succ, i64_w, i32_w]
          rfl
        refine done_ (done_of HT_.out (by kernel_rfl)) ?_
        try go_wp2
        go_ret
        exact ⟨by first | rfl | (simp [errW_none, errW_some] <;> rfl) | (simp [*, errW_none, errW_some] <;> rfl), B.bl HB⟩
      replace c27 := Bool.eq_false_iff.mpr c27
      subst c27
      have H1 : (laws_FnPassRoundTrip.l0 kj3 (([] : List (List Int))) 0 t299 t300 t301 t302) = some r := by rw [if_neg (show ¬ (false = true) by decide)] at H; exact H
      clear H
      have H := H1
      clear H1
      obtain ⟨y322, hy322⟩ : ∃ y_ : List (List Int), y_ = (([] : List (List Int))) := ⟨_, rfl⟩
      replace H : (laws_FnPassRoundTrip.l0 kj3 y322 0 t299 t300 t301 t302) = some r := by first | (rw [hy322]; with_reducible exact H) | (have H2_ := (Option.bind_some _ _).symm.trans H; rw [hy322]; with_reducible exact H2_) | (have H2_ := (Option.bind_some _ _).symm.trans H; with_reducible exact H2_) | with_reducible exact H | (rw [hy322]; exact H) | exact H
      have Ny322 := Aside0.mk hy322
      clear hy322
      have H' := Aside0.mk H
      clear H
      go_wp2_with (first | ((with_reducible refine gate_dst (N := 37) rfl ?_); refine Kd.S_lit (Kd.slice 3 (Kd.int .i64)) _ 32 ?hg (N := 37) ?hd (xs := ([] : List (List Int))) (inner := []) (ok := fun _ => True) (okp := fun _ => True) ?hr ?hp (fun _ hk => hk) trivial (Below.refl _ _) (Nat.le_refl _) (by simp) ?_; (case hd => rfl); (case hg => rfl); (case hr => first | (go_simp; done) | (go_simp; rfl)); (case hp => exact (Reps.none _ _)); intro v323 w36 ho37 hb hg_ hnew_; clear hg_ hnew_; (first | rw [← Ny322.out] at ho37 | (simp only [Int.reduceToNat] at ho37; rw [← Ny322.out] at ho37)); have n0_ := Aside0.mk (Kd.Q_below (B.kq HO_307003) hb); have n1_ := Aside0.mk (Kd.S_lower (Kd.S_new' ho37 (Kd.Q_lt (B.kq HO_307003))) (below_size (B.bl HB))); have n2_ := Aside0.mk (blk_below (B.kb BK306) hb); have n3_ := Aside0.mk (below_step (B.bl HB) hb); clear HO_307003 BK306 HB; have HO_307003 := n0_; have HO324 := n1_; have BK306 := n2_; have HB := n3_; clear n0_ n1_ n2_ n3_; clear hb ho37))
      go_loopg [5, 6] kj3 (fun kq v5 v6 w' => ∃ (x5_2 : List (List Int)) (x6_2 : Int), v6 = .int .i64 x6_2 ∧ Aside0 (laws_FnPassRoundTrip.l0 kq x5_2 x6_2 t299 t300 t301 t302 = some r) ∧ Aside0 (kq ≤ kj3) ∧ Aside0 (Kd.S (Kd.slice 3 (Kd.int .i64)) 32 w' w.heap.size (fun k_ => some k_ ≠ ((.slice Ao8 t302.length co8) : Value).ownBlock) v5 x5_2) ∧ Aside0 (Kd.Q (Kd.int .i64) 3 w' w.heap.size (fun _ => True) (.slice Ao8 t302.length co8) t302) ∧ Aside0 (w'.heap[gb306]? = some (.cells #[.int .i64 t299, .int .i64 t300, .int .i64 t301, (.slice Ao8 t302.length co8)] 34 (0, 0))) ∧ Aside0 (Below w.heap.size w w'))
      case atStart => exact ⟨(y322), (0), (by first | rfl | (simp; done) | (simp [*]; done)), H', ⟨Nat.le_refl _⟩, ⟨by (with_reducible repeat (first | apply Kd.S_alloc | apply Kd.S_drewN | apply Kd.S_drew)); exact Kd.S_mono HO324.out (fun _ hk => hk.2)⟩, ⟨by (with_reducible repeat (first | apply Kd.Q_alloc | apply Kd.Q_drewN | apply Kd.Q_drew)); exact HO_307003.out⟩, ⟨B.kb BK306⟩, ⟨B.bl HB⟩⟩
      case round =>
        clear H'
        try clear c1
        try clear c2
        try clear c2b0
        try clear c2b1
        try clear p2
        try clear c8
        try clear c12
        try clear c17
        try clear c18
        try clear c19
        try clear c21
        try clear c27
        try clear hcz7_0
        try clear hcz7_1
        try clear hcz7_2
        try clear hcz7_3
        try clear hfz7_0
        try clear hfz7_1
        try clear hfz7_2
        try clear hfz7_3
        try clear p2
        obtain ⟨x5_2, x6_2, rfl, HA, HK2, HO_5, HO_307003, BK306, HB⟩ := hrel
        cases gk with
        | zero => exact absurd HA.out (by simp [laws_FnPassRoundTrip.l0])
        | succ k2 =>
          have H := HA.out
          clear HA
          simp only [laws_FnPassRoundTrip.l0] at H
          by_cases c38 : x6_2 < 7
          · rw [if_pos c38] at H
            have c38b0 : decide (x6_2 < 7) = true := decide_eq_true c38
            clear c38
            replace H := Option.bind_eq_some_iff.mp H
            obtain ⟨t325, A390, H⟩ := H
            replace H : (if x5_2.length < 5864062014805 then (laws_FnPassRoundTrip.l0 k2 (x5_2 ++ [t325]) (wrap64 (x6_2 + 1)) t299 t300 t301 t302) else (none)) = some r := H
            have A39 := Aside0.mk A390
            clear A390
            by_cases c40 : x5_2.length < 5864062014805
            · rw [if_pos c40] at H
              have LMc40 := Aside0.mk c40
              clear c40
              obtain ⟨y328, hy328⟩ : ∃ y_ : List (List Int), y_ = (x5_2 ++ [t325]) := ⟨_, rfl⟩
              replace H : (laws_FnPassRoundTrip.l0 k2 y328 (wrap64 (x6_2 + 1)) t299 t300 t301 t302) = some r := by first | (rw [hy328]; with_reducible exact H) | (have H2_ := (Option.bind_some _ _).symm.trans H; rw [hy328]; with_reducible exact H2_) | (have H2_ := (Option.bind_some _ _).symm.trans H; with_reducible exact H2_) | with_reducible exact H | (rw [hy328]; exact H) | exact H
              have Ny328 := Aside0.mk hy328
              clear hy328
              have H' := Aside0.mk H
              clear H
              have hcz41_0 : wr.cell? ⟨gb306, 0, none⟩ = some (.int .i64 t299) := B.bc BK306 0
              have hcz41_1 : wr.cell? ⟨gb306, 1, none⟩ = some (.int .i64 t300) := B.bc BK306 1
              have hcz41_2 : wr.cell? ⟨gb306, 2, none⟩ = some (.int .i64 t301) := B.bc BK306 2
              have hcz41_3 : wr.cell? ⟨gb306, 3, none⟩ = some (.slice Ao8 t302.length co8) := B.bc BK306 3
              have hfz41_0 := blk_frozen BK306.out 0
              have hfz41_1 := blk_frozen BK306.out 1
              have hfz41_2 := blk_frozen BK306.out 2
              have hfz41_3 := blk_frozen BK306.out 3
              go_wp2_with (first | ((with_reducible refine gate_callee (f := 18) rfl ?_); refine goesL_ (some 45) rfl rfl Try.func18 (by kernel_rfl) rfl #[.agg #[.int .i64 t299, .int .i64 t300, .int .i64 t301, .slice Ao8 t302.length co8], .int .i64 x6_2] rfl B.am ?_; (with_reducible refine (impl_PassData.calls k2 t299 t300 t301 _ _ t302 x6_2 t325 _ ?side1 ?side2 A39.out).mono ?_); (case side1 => exact B.kc ((Kd.Q_reads' HO_307003.out).2.2)); (case side2 => exact (Kd.Q_reads' HO_307003.out).2.1); rintro e w42 ⟨v326, rfl, ho0, hb⟩; refine ⟨_, rfl, ?_⟩; have n0_ := Aside0.mk (Kd.S_elder' (by (with_reducible repeat (first | apply Kd.S_alloc | apply Kd.S_drewN | apply Kd.S_drew)); exact HO_5.out) (Kd.R_base ho0) hb); have n1_ := Aside0.mk (Kd.Q_elder' (B.kq HO_307003) (Kd.R_base ho0) hb); have n2_ := Aside0.mk (Kd.R_lower (Kd.R_new' ho0 (Kd.Q_lt (B.kq HO_307003))) (below_size (B.bl HB))); have n3_ := Aside0.mk (blk_below (B.kb BK306) hb); have n4_ := Aside0.mk (below_step (B.bl HB) hb); clear HO_5 HO_307003 BK306 HB; have HO_5 := n0_; have HO_307003 := n1_; have HO327 := n2_; have BK306 := n3_; have HB := n4_; clear n0_ n1_ n2_ n3_ n4_; (try clear hb); (try clear hb2); (try clear hk); (try clear hi); (try clear ho0); obtain ⟨Ao44, co44, eo44⟩ := Kd.R_slice HO327.out; subst eo44) | ((with_reducible refine gate_builtin (b := .append) (xs := #[.tmp 42, .tmp 46]) rfl ?_); at_builtin; refine Kd.S_append (Kd.slice 3 (Kd.int .i64)) (w0 := w) w.heap.size rfl (.tmp 42) (.tmp 46) 29 32 (.slice none 0 0) 24 rfl Try.underlying29 info32 rfl (by decide) (by omega) u5 x5_2 t325 [.slice Ao44 t325.length co44] (fun k_ => some k_ ≠ (.slice Ao8 t302.length co8 : Value).ownBlock) (fun k_ => some k_ = (.slice Ao44 t325.length co44 : Value).ownBlock) rfl rfl ?aP (fun k_ hk_ => ((Kd.R_mono (ok' := fun k_ => ((fun k_ => some k_ ≠ (.slice Ao8 t302.length co8 : Value).ownBlock)) k_ ∧ some k_ ≠ (u5 : Value).ownBlock) (Kd.R_apart' (HO327.out) (Kd.S_typed HO_5.out) (by decide)) (fun k_ hk => ⟨hk.1.2, hk.2⟩))).1 k_ hk_.symm) ?aF ?aO ?aB ?aS ?aL ?_; (case aP => exact Kd.M_row (Kd.R_mono (Kd.R_tight rfl (Kd.R_mono (ok' := fun k_ => ((fun k_ => some k_ ≠ (.slice Ao8 t302.length co8 : Value).ownBlock)) k_ ∧ some k_ ≠ (u5 : Value).ownBlock) (Kd.R_apart' (HO327.out) (Kd.S_typed HO_5.out) (by decide)) (fun k_ hk => ⟨hk.1.2, hk.2⟩))) (fun _ h_ => h_))); (case aB => exact (B.bl HB)); (case aF => exact (fun k_ hk => Kd.fresh' (Kd.Q_lt (B.kq HO_307003)) k_ hk)); (case aO => exact (by (with_reducible repeat (first | apply Kd.S_alloc | apply Kd.S_drewN | apply Kd.S_drew)); exact Kd.S_mono HO_5.out (fun k_ hk => ⟨hk.1, fun e_ => hk.2 e_⟩))); (case aS => exact (below_size (B.bl HB))); (case aL => have := LMc40.out; omega); intro v329 w43 ho hb hg hat; rw [← Ny328.out] at ho; have n0_ := Aside0.mk (Kd.Q_over' (B.kq HO_307003) (Kd.S_typed (by (with_reducible repeat (first | apply Kd.S_alloc | apply Kd.S_drewN | apply Kd.S_drew)); exact HO_5.out)) (by decide) hg); have n1_ := Aside0.mk (blk_grown (g := gb306) (o := .cells #[.int .i64 t299, .int .i64 t300, .int .i64 t301, .slice Ao8 t302.length co8] 34 (0, 0)) (B.kb BK306) hg (Kd.S_ne HO_5.out BK306.out (by decide))); have n2_ := Aside0.mk (hb); have n3_ := Aside0.mk (ho); clear HO_307003 BK306 HB HO_5 HO327; have HO_307003 := n0_; have BK306 := n1_; have HB := n2_; have HO330 := n3_; clear n0_ n1_ n2_ n3_; clear ho hb hg hat))
              go_roundg k2
              case measure => have := HJ3.out; have := HK2.out; omega
              case rel => exact ⟨(y328), (wrap64 (x6_2 + 1)), (by first | rfl | (simp; done) | (simp [*]; done)), H', ⟨by have := HJ3.out; have := HK2.out; omega⟩, ⟨by (with_reducible repeat (first | apply Kd.S_alloc | apply Kd.S_drewN | apply Kd.S_drew)); exact HO330.out⟩, ⟨by (with_reducible repeat (first | apply Kd.Q_alloc | apply Kd.Q_drewN | apply Kd.Q_drew)); exact Kd.Q_mono HO_307003.out (fun _ hk => trivial)⟩, ⟨B.kb BK306⟩, ⟨B.bl HB⟩⟩
            rw [if_neg c40] at H
            exact absurd H (by simp)
          rw [if_neg c38] at H
          have c38b0 : decide (x6_2 < 7) = false := decide_eq_false c38
          clear c38
          replace H := Option.bind_eq_some_iff.mp H
          obtain ⟨⟨t331, t332, t333, t334, t337⟩, A450, H⟩ := H
          replace H : (if t337 = true then ((laws_equalImage.f k2 t331 t332 t333 t334 t299 t300 t301 t302).bind fun t339 => (some t339)) else (some false)) = some r := H
          have A45 := Aside0.mk A450
          clear A450
          by_cases c46 : t337 = true
          · subst c46
            have H1 : ((laws_equalImage.f k2 t331 t332 t333 t334 t299 t300 t301 t302).bind fun t339 => (some t339)) = some r := by rw [if_pos rfl] at H; exact H
            clear H
            have H := H1
            clear H1
            replace H := Option.bind_eq_some_iff.mp H
            obtain ⟨t339, A470, H⟩ := H
            replace H : (some t339) = some r := H
            have A47 := Aside0.mk A470
            clear A470
            obtain rfl := Option.some.inj H
            simp only [Option.some.injEq, Prod.mk.injEq] at H
            obtain ⟨rfl⟩ := H
            have hcz48_0 : wr.cell? ⟨gb306, 0, none⟩ = some (.int .i64 t299) := B.bc BK306 0
            have hcz48_1 : wr.cell? ⟨gb306, 1, none⟩ = some (.int .i64 t300) := B.bc BK306 1
            have hcz48_2 : wr.cell? ⟨gb306, 2, none⟩ = some (.int .i64 t301) := B.bc BK306 2
            have hcz48_3 : wr.cell? ⟨gb306, 3, none⟩ = some (.slice Ao8 t302.length co8) := B.bc BK306 3
            have hfz48_0 := blk_frozen BK306.out 0
            have hfz48_1 := blk_frozen BK306.out 1
            have hfz48_2 := blk_frozen BK306.out 2
            have hfz48_3 := blk_frozen BK306.out 3
            obtain ⟨Ao49, co49, eo49⟩ := Kd.S_slice HO_5.out
            subst eo49
            go_wp2_with (first | ((with_reducible refine gate_callee (f := 14) rfl ?_); refine goesL_ (some 56) rfl rfl Try.func14 (by kernel_rfl) rfl #[.int .i64 t299, .int .i64 t300, .int .i64 t301, .slice Ao49 x5_2.length co49] rfl B.am ?_; (with_reducible refine (impl_JoinPasses.calls k2 t299 t300 t301 _ _ x5_2 t331 t332 t333 t334 true _ ?side1 ?side2 A45.out).mono ?_); (case side1 => exact B.kc ((Kd.S_reads' HO_5.out).2.2)); (case side2 => exact (Kd.S_reads' HO_5.out).2.1); rintro e w50 ⟨v335, rfl, ho0, hb⟩; refine ⟨_, rfl, ?_⟩; have n0_ := Aside0.mk (Kd.S_elder' (by (with_reducible repeat (first | apply Kd.S_alloc | apply Kd.S_drewN | apply Kd.S_drew)); exact HO_5.out) (Kd.R_base ho0) hb); have n1_ := Aside0.mk (Kd.Q_elder' (B.kq HO_307003) (Kd.R_base ho0) hb); have n2_ := Aside0.mk (Kd.R_lower (Kd.R_new' ho0 (Kd.Q_lt (B.kq HO_307003))) (below_size (B.bl HB))); have n3_ := Aside0.mk (blk_below (B.kb BK306) hb); have n4_ := Aside0.mk (below_step (B.bl HB) hb); clear HO_5 HO_307003 BK306 HB; have HO_5 := n0_; have HO_307003 := n1_; have HO336 := n2_; have BK306 := n3_; have HB := n4_; clear n0_ n1_ n2_ n3_ n4_; (try clear hb); (try clear hb2); (try clear hk); (try clear hi); (try clear ho0)) | ((with_reducible refine gate_dst (N := 7) rfl ?_); refine box_event ?hg (N := 7) ?hd (cs := #[.int .i64 0, .int .i64 0, .int .i64 0, .slice none 0 0]) (t := 34) ?hr ?_; (case hd => rfl); (case hg => rfl); (case hr => first | (go_simp; done) | (go_simp; rfl)); intro gb338 hg w51 hbox hb; have n0_ := Aside0.mk (Kd.S_below (by (with_reducible repeat (first | apply Kd.S_alloc | apply Kd.S_drewN | apply Kd.S_drew)); exact HO_5.out) hb); have n1_ := Aside0.mk (Kd.Q_below (B.kq HO_307003) hb); have n2_ := Aside0.mk (Kd.R_below (B.kr HO336) hb); have n3_ := Aside0.mk (blk_below (B.kb BK306) hb); have n4_ := Aside0.mk (below_step (B.bl HB) hb); have n5_ := Aside0.mk (hbox); have n6_ := Aside0.mk (B.nle hg (below_size (B.bl HB))); have n7_ := Aside0.mk (B.nle hg (below_size (B.bl HB))); have n8_ := Aside0.mk (B.nlt hg (blk_lt (B.kb BK306))); have n9_ := Aside0.mk (B.ngt hg (blk_lt (B.kb BK306))); clear HO_5 HO_307003 HO336 BK306 HB; have HO_5 := n0_; have HO_307003 := n1_; have HO336 := n2_; have BK306 := n3_; have HB := n4_; have BK338 := n5_; have GW338 := n6_; have GE338 := n7_; have NB306_338 := n8_; have NB338_306 := n9_; clear n0_ n1_ n2_ n3_ n4_ n5_ n6_ n7_ n8_ n9_; clear hb hbox hg; have hnb52 := NB338_306.out; have hnc52 := NB306_338.out; have hcz53_0 : w51.cell? ⟨gb338, 0, none⟩ = some (.int .i64 0) := B.bc BK338 0; have hcz53_1 : w51.cell? ⟨gb338, 1, none⟩ = some (.int .i64 0) := B.bc BK338 1; have hcz53_2 : w51.cell? ⟨gb338, 2, none⟩ = some (.int .i64 0) := B.bc BK338 2; have hcz53_3 : w51.cell? ⟨gb338, 3, none⟩ = some (.slice none 0 0) := B.bc BK338 3; have hfz53_0 := blk_frozen BK338.out 0; have hfz53_1 := blk_frozen BK338.out 1; have hfz53_2 := blk_frozen BK338.out 2; have hfz53_3 := blk_frozen BK338.out 3; obtain ⟨Ao54, co54, eo54⟩ := Kd.R_slice HO336.out; subst eo54; have hcz55_0 : w51.cell? ⟨gb306, 0, none⟩ = some (.int .i64 t299) := B.bc BK306 0; have hcz55_1 : w51.cell? ⟨gb306, 1, none⟩ = some (.int .i64 t300) := B.bc BK306 1; have hcz55_2 : w51.cell? ⟨gb306, 2, none⟩ = some (.int .i64 t301) := B.bc BK306 2; have hcz55_3 : w51.cell? ⟨gb306, 3, none⟩ = some (.slice Ao8 t302.length co8) := B.bc BK306 3; have hfz55_0 := blk_frozen BK306.out 0; have hfz55_1 := blk_frozen BK306.out 1; have hfz55_2 := blk_frozen BK306.out 2; have hfz55_3 := blk_frozen BK306.out 3) | (go_at_call 16; (with_reducible refine (laws_equalImage.calls k2 t331 t332 t333 _ _ t334 t299 t300 t301 _ _ t302 t339 _ ?side1 ?side2 ?side3 ?side4 A47.out).mono ?_); (case side1 => refine (Kd.R_reads' (e := 3) (base := w.heap.size) (ok := fun k_ => (True ∧ some k_ ≠ (.slice Ao8 t302.length co8 : Value).ownBlock)) (n := t334.length) (c := co54) ?_).2.2; exact (B.kr0 (B.rs4 HO336 BK338))); (case side2 => exact (Kd.R_reads' HO336.out).2.1); (case side3 => refine (Kd.Q_reads' (e := 3) (base := w.heap.size) (ok := fun k_ => (True ∧ some k_ ≠ (.slice Ao54 t334.length co54 : Value).ownBlock)) (n := t302.length) (c := co8) ?_).2.2; exact (by (with_reducible repeat (first | apply Kd.Q_alloc | apply Kd.Q_drewN | apply Kd.Q_drew)); exact (Kd.Q_mono (Kd.Q_far (p := ⟨gb338, 3, none⟩) (Kd.Q_far (p := ⟨gb338, 2, none⟩) (Kd.Q_far (p := ⟨gb338, 1, none⟩) (Kd.Q_far (p := ⟨gb338, 0, none⟩) (Kd.Q_types HO_307003.out BK338.out (by decide)) (fun _ hk => hk.2) (.int .i64 t331)) (fun _ hk => hk.2) (.int .i64 t332)) (fun _ hk => hk.2) (.int .i64 t333)) (fun _ hk => hk.2) (.slice Ao54 t334.length co54)) (fun _ h_ => h_.1)))); (case side4 => exact (Kd.Q_reads' HO_307003.out).2.1); rintro e w56 ⟨rfl, hb⟩; have n0_ := Aside0.mk (Kd.S_below (by (with_reducible repeat (first | apply Kd.S_alloc | apply Kd.S_drewN | apply Kd.S_drew)); exact (Kd.S_mono (Kd.S_far (p := ⟨gb338, 3, none⟩) (Kd.S_far (p := ⟨gb338, 2, none⟩) (Kd.S_far (p := ⟨gb338, 1, none⟩) (Kd.S_far (p := ⟨gb338, 0, none⟩) (Kd.S_types HO_5.out BK338.out (by decide)) (fun _ hk => hk.2) (.int .i64 t331)) (fun _ hk => hk.2) (.int .i64 t332)) (fun _ hk => hk.2) (.int .i64 t333)) (fun _ hk => hk.2) (.slice Ao54 t334.length co54)) (fun _ h_ => h_.1))) hb); have n1_ := Aside0.mk (Kd.Q_below (by (with_reducible repeat (first | apply Kd.Q_alloc | apply Kd.Q_drewN | apply Kd.Q_drew)); exact (Kd.Q_mono (Kd.Q_far (p := ⟨gb338, 3, none⟩) (Kd.Q_far (p := ⟨gb338, 2, none⟩) (Kd.Q_far (p := ⟨gb338, 1, none⟩) (Kd.Q_far (p := ⟨gb338, 0, none⟩) (Kd.Q_types HO_307003.out BK338.out (by decide)) (fun _ hk => hk.2) (.int .i64 t331)) (fun _ hk => hk.2) (.int .i64 t332)) (fun _ hk => hk.2) (.int .i64 t333)) (fun _ hk => hk.2) (.slice Ao54 t334.length co54)) (fun _ h_ => h_.1))) hb); have n2_ := Aside0.mk (Kd.R_below (B.kr0 (B.rs4 HO336 BK338)) hb); have n3_ := Aside0.mk (blk_below (B.kb0 (B.bf4 BK306 NB306_338)) hb); have n4_ := Aside0.mk (blk_below (g := gb338) (o := .cells #[.int .i64 t331, .int .i64 t332, .int .i64 t333, .slice Ao54 t334.length co54] 34 (0, 0)) (B.kb0 (B.bp4 BK338)) hb); have n5_ := Aside0.mk (below_step (B.bl HB) hb); clear HO_5 HO_307003 HO336 BK306 BK338 HB; have HO_5 := n0_; have HO_307003 := n1_; have HO336 := n2_; have BK306 := n3_; have BK338 := n4_; have HB := n5_; clear n0_ n1_ n2_ n3_ n4_ n5_; (try clear hb); (try clear hb2); (try clear hk); (try clear hi)))
            go_ret
            exact ⟨by first | rfl | (simp [errW_none, errW_some] <;> rfl) | (simp [*, errW_none, errW_some] <;> rfl), B.bl HB⟩
          replace c46 := Bool.eq_false_iff.mpr c46
          subst c46
          have H1 : (some false) = some r := by rw [if_neg (show ¬ (false = true) by decide)] at H; exact H
          clear H
          have H := H1
          clear H1
          obtain rfl := Option.some.inj H
          exact absurd ht_.out (by decide)

/-- THE ONE PURE STATEMENT of laws_FnPassRoundTrip: yours. -/
def laws_FnPassRoundTrip.Pure : Prop := ∀ (l0 : List Int), l0.length ≤ maxLen → l0.length * 1 ≤ 140737488351232 → (∀ x ∈ l0, (Lit.int .u8 x).wf = true) → ∃ k, laws_FnPassRoundTrip.f k l0 = some true
theorem laws_FnPassRoundTrip.walk (P : laws_FnPassRoundTrip.Pure) (a0 : Option Addr) (len0 cap0 : Nat) (z0 : List Int) (w : World) (w0 : (a0 = none ∧ len0 = 0 ∧ cap0 = 0 ∧ z0 = []) ∨ ∃ x, a0 = some x ∧ len0 ≤ cap0 ∧ cap0 ≤ maxLen ∧ z0.length = cap0 ∧ (∀ i, i < z0.length → w.cell? (x.add i) = some (.int .u8 (z0.getD i 0))) ∧ ∀ n ∈ z0, (Lit.int .u8 n).wf = true) (y0 : len0 * 1 ≤ 140737488351232) :
    Calls Try.prog 8 #[.slice a0 len0 cap0] w fun e w' => e = .returned (.bool true) ∧ Below w.heap.size w w' := by
  obtain ⟨l0, rfl, hr0, hm0, hw0, hc0⟩ := ReadsInt.ofRowC w0
  obtain ⟨k, h⟩ := P l0 hm0 y0 hw0
  refine (laws_FnPassRoundTrip.calls k _ _ l0 true w (Kd.C_of_reads (d := (0 : Int)) (h1 := fun _ => rfl) hr0) hc0 h ⟨rfl⟩).mono ?_
  rintro e w' ⟨rfl, hd⟩
  exact ⟨rfl, hd⟩

end Go.Proofs.Ytpadegboplcapaa.Q
