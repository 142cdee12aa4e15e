-- Written by a program of this session (the kit's printer, with hand-proved contracts for the functions that it does not take).
import Derived.Test.YtmljcnhecjlinaaQ0
import Derived.Test.YtmljcnhecjlinaaQ3
import Derived.Test.YtmljcnhecjlinaaQ4
import Derived.Test.YtmljcnhecjlinaaQ6
import Derived.Test.YtmljcnhecjlinaaQ8
namespace Go.Proofs.Ytmljcnhecjlinaa.Q
open Go.RowKit Go.Proofs.YtmljcnhecjlinaaW.PrintWords Go.Proofs.YtmljcnhecjlinaaW.PrintLast Go.Proofs.YtmljcnhecjlinaaW.PrintMore
attribute [local go_sem] max2_int min2_int max_two min_two max_three min_three max_four min_four   -- for this text's walks alone
set_option linter.unusedVariables false
set_option linter.unusedSimpArgs false

/-! ### laws_FnCropImageTwice: function 5 -/
def laws_FnCropImageTwice.j0 : Nat → Bool → Bool → Bool → Int → Int → Int → List Int → Int → Int → Int → Int → Int → Int → Int → List Int → Int → Int → Int → List Int → Option (Bool)
  | 0, _, _, _, _, _, _, _, _, _, _, _, _, _, _, _, _, _, _, _ => none
  | k + 1, x6, x8, x50, x453000, x453001, x453002, x453003, x454000, x454001, x454002, x454003, x462000, x462001, x462002, x462003, x470000, x470001, x470002, x470003 => if x50 = true then ((laws_equalImage.f k x462000 x462001 x462002 x462003 x470000 x470001 x470002 x470003).bind fun t471 => (if t471 = true then (some (x6 == x8)) else (some false))) else ((impl_CropImage.f x462000 x462001 x462002 x462003 1 0 (wrap64 (x454002 - 1)) x454003).bind fun bt472 => ((impl_CropImage.f x453000 x453001 x453002 x453003 (wrap64 (x454000 + 1)) x454001 (wrap64 (x454002 - 1)) x454003).bind fun bt480 => (if bt472.2.2.2.2 = true then (if bt480.2.2.2.2 = true then ((laws_equalImage.f k bt472.1 bt472.2.1 bt472.2.2.1 bt472.2.2.2.1 bt480.1 bt480.2.1 bt480.2.2.1 bt480.2.2.2.1).bind fun t488 => (some t488)) else (some false)) else (some false))))
def laws_FnCropImageTwice.f (k : Nat) (l0 : List Int) : Option (Bool) := if (l0.length : Int) > 1048576 then (some true) else ((spec_DrawCropImage.f k l0).bind fun bt442 => ((impl_CropImage.f bt442.1 bt442.2.1 bt442.2.2.1 bt442.2.2.2.1 bt442.2.2.2.2.1 bt442.2.2.2.2.2.1 bt442.2.2.2.2.2.2.1 bt442.2.2.2.2.2.2.2).bind fun bt454 => ((spec_CropImage.f k bt442.1 bt442.2.1 bt442.2.2.1 bt442.2.2.2.1 bt442.2.2.2.2.1 bt442.2.2.2.2.2.1 bt442.2.2.2.2.2.2.1 bt442.2.2.2.2.2.2.2).bind fun bt462 => ((laws_equalImage.f k bt454.1 bt454.2.1 bt454.2.2.1 bt454.2.2.2.1 bt462.1 bt462.2.1 bt462.2.2.1 bt462.2.2.2.1).bind fun t470 => (if t470 = true then (if (bt454.2.2.2.2 != bt462.2.2.2.2) = true then (laws_FnCropImageTwice.j0 k bt454.2.2.2.2 bt462.2.2.2.2 true bt442.1 bt442.2.1 bt442.2.2.1 bt442.2.2.2.1 bt442.2.2.2.2.1 bt442.2.2.2.2.2.1 bt442.2.2.2.2.2.2.1 bt442.2.2.2.2.2.2.2 bt454.1 bt454.2.1 bt454.2.2.1 bt454.2.2.2.1 bt462.1 bt462.2.1 bt462.2.2.1 bt462.2.2.2.1) else (if bt454.2.2.2.2 = true then (laws_FnCropImageTwice.j0 k bt454.2.2.2.2 bt462.2.2.2.2 (decide (bt442.2.2.2.2.2.2.1 < 2)) bt442.1 bt442.2.1 bt442.2.2.1 bt442.2.2.2.1 bt442.2.2.2.2.1 bt442.2.2.2.2.2.1 bt442.2.2.2.2.2.2.1 bt442.2.2.2.2.2.2.2 bt454.1 bt454.2.1 bt454.2.2.1 bt454.2.2.2.1 bt462.1 bt462.2.1 bt462.2.2.1 bt462.2.2.2.1) else (laws_FnCropImageTwice.j0 k bt454.2.2.2.2 bt462.2.2.2.2 true bt442.1 bt442.2.1 bt442.2.2.1 bt442.2.2.2.1 bt442.2.2.2.2.1 bt442.2.2.2.2.2.1 bt442.2.2.2.2.2.2.1 bt442.2.2.2.2.2.2.2 bt454.1 bt454.2.1 bt454.2.2.1 bt454.2.2.2.1 bt462.1 bt462.2.1 bt462.2.2.1 bt462.2.2.2.1))) else (laws_FnCropImageTwice.j0 k bt454.2.2.2.2 bt462.2.2.2.2 true bt442.1 bt442.2.1 bt442.2.2.1 bt442.2.2.2.1 bt442.2.2.2.2.1 bt442.2.2.2.2.2.1 bt442.2.2.2.2.2.2.1 bt442.2.2.2.2.2.2.2 bt454.1 bt454.2.1 bt454.2.2.1 bt454.2.2.2.1 bt462.1 bt462.2.1 bt462.2.2.1 bt462.2.2.2.1))))))
theorem laws_FnCropImageTwice.mono_l : ∀ k, (∀ y0 y1 y2 y3 y4 y5 y6 y7 y8 y9 y10 y11 y12 y13 y14 y15 y16 y17 y18, LeO (laws_FnCropImageTwice.j0 k y0 y1 y2 y3 y4 y5 y6 y7 y8 y9 y10 y11 y12 y13 y14 y15 y16 y17 y18) (laws_FnCropImageTwice.j0 (k + 1) y0 y1 y2 y3 y4 y5 y6 y7 y8 y9 y10 y11 y12 y13 y14 y15 y16 y17 y18))
  | 0 => fun _ _ _ _ _ _ _ _ _ _ _ _ _ _ _ _ _ _ _ r h => by simp [laws_FnCropImageTwice.j0] at h
  | k + 1 => by
    have ih0 := laws_FnCropImageTwice.mono_l k
    · intro y0 y1 y2 y3 y4 y5 y6 y7 y8 y9 y10 y11 y12 y13 y14 y15 y16 y17 y18
      unfold laws_FnCropImageTwice.j0
      repeat' first
      | (with_reducible exact ih0 _ _ _ _ _ _ _ _ _ _ _ _ _ _ _ _ _ _ _)
      | (with_reducible exact laws_equalImage.mono _ _ _ _ _ _ _ _ _)
      | (with_reducible exact spec_CropImage.mono _ _ _ _ _ _ _ _ _)
      | (with_reducible exact spec_DrawCropImage.mono _ _)
      | (with_reducible exact LeO.refl _)
      | (with_reducible exact LeO.none _)
      | (with_reducible refine LeO.ite ?_ ?_)
      | (with_reducible refine LeO.bind ?_ (fun _ => ?_))
      | exact ih0 _ _ _ _ _ _ _ _ _ _ _ _ _ _ _ _ _ _ _
      | exact laws_equalImage.mono _ _ _ _ _ _ _ _ _
      | exact spec_CropImage.mono _ _ _ _ _ _ _ _ _
      | exact spec_DrawCropImage.mono _ _
      | exact LeO.none _
      | refine LeO.ite ?_ ?_
      | refine LeO.bind ?_ (fun _ => ?_)
theorem laws_FnCropImageTwice.mono : ∀ a0 k, LeO (laws_FnCropImageTwice.f k a0) (laws_FnCropImageTwice.f (k + 1) a0) := by
  intro a0 k
  have ih0 := laws_FnCropImageTwice.mono_l k
  unfold laws_FnCropImageTwice.f
  repeat' first
      | (with_reducible exact ih0 _ _ _ _ _ _ _ _ _ _ _ _ _ _ _ _ _ _ _)
      | (with_reducible exact laws_equalImage.mono _ _ _ _ _ _ _ _ _)
      | (with_reducible exact spec_CropImage.mono _ _ _ _ _ _ _ _ _)
      | (with_reducible exact spec_DrawCropImage.mono _ _)
      | (with_reducible exact LeO.refl _)
      | (with_reducible exact LeO.none _)
      | (with_reducible refine LeO.ite ?_ ?_)
      | (with_reducible refine LeO.bind ?_ (fun _ => ?_))
      | exact ih0 _ _ _ _ _ _ _ _ _ _ _ _ _ _ _ _ _ _ _
      | exact laws_equalImage.mono _ _ _ _ _ _ _ _ _
      | exact spec_CropImage.mono _ _ _ _ _ _ _ _ _
      | exact spec_DrawCropImage.mono _ _
      | exact LeO.none _
      | refine LeO.ite ?_ ?_
      | refine LeO.bind ?_ (fun _ => ?_)
set_option maxHeartbeats 8000000 in
set_option maxRecDepth 100000 in
theorem laws_FnCropImageTwice.calls (k : Nat) (A0 : Option Addr) (c0 : Nat) (l0 : List Int) (r : Bool) (w : World) (hr0 : Kd.C (Kd.int .u8) w A0 l0.length l0) (hc0 : l0.length ≤ c0) (h : laws_FnCropImageTwice.f k l0 = some r) (ht_ : Aside0 (r = true)) :
    Calls Try.prog 5 #[.slice A0 l0.length c0] w fun e w' => e = .returned (.bool r) ∧ Below w.heap.size w w' := by
  have hu28 := Try.underlying28
  have hu32 := Try.underlying32
  have HR0 := Aside0.mk hr0
  have HC0 := Aside0.mk hc0
  clear hr0 hc0
  have HB := Aside0.mk (Below.refl w.heap.size w)
  have H : (if (l0.length : Int) > 1048576 then (some true) else ((spec_DrawCropImage.f k l0).bind fun bt442 => ((impl_CropImage.f bt442.1 bt442.2.1 bt442.2.2.1 bt442.2.2.2.1 bt442.2.2.2.2.1 bt442.2.2.2.2.2.1 bt442.2.2.2.2.2.2.1 bt442.2.2.2.2.2.2.2).bind fun bt454 => ((spec_CropImage.f k bt442.1 bt442.2.1 bt442.2.2.1 bt442.2.2.2.1 bt442.2.2.2.2.1 bt442.2.2.2.2.2.1 bt442.2.2.2.2.2.2.1 bt442.2.2.2.2.2.2.2).bind fun bt462 => ((laws_equalImage.f k bt454.1 bt454.2.1 bt454.2.2.1 bt454.2.2.2.1 bt462.1 bt462.2.1 bt462.2.2.1 bt462.2.2.2.1).bind fun t470 => (if t470 = true then (if (bt454.2.2.2.2 != bt462.2.2.2.2) = true then (laws_FnCropImageTwice.j0 k bt454.2.2.2.2 bt462.2.2.2.2 true bt442.1 bt442.2.1 bt442.2.2.1 bt442.2.2.2.1 bt442.2.2.2.2.1 bt442.2.2.2.2.2.1 bt442.2.2.2.2.2.2.1 bt442.2.2.2.2.2.2.2 bt454.1 bt454.2.1 bt454.2.2.1 bt454.2.2.2.1 bt462.1 bt462.2.1 bt462.2.2.1 bt462.2.2.2.1) else (if bt454.2.2.2.2 = true then (laws_FnCropImageTwice.j0 k bt454.2.2.2.2 bt462.2.2.2.2 (decide (bt442.2.2.2.2.2.2.1 < 2)) bt442.1 bt442.2.1 bt442.2.2.1 bt442.2.2.2.1 bt442.2.2.2.2.1 bt442.2.2.2.2.2.1 bt442.2.2.2.2.2.2.1 bt442.2.2.2.2.2.2.2 bt454.1 bt454.2.1 bt454.2.2.1 bt454.2.2.2.1 bt462.1 bt462.2.1 bt462.2.2.1 bt462.2.2.2.1) else (laws_FnCropImageTwice.j0 k bt454.2.2.2.2 bt462.2.2.2.2 true bt442.1 bt442.2.1 bt442.2.2.1 bt442.2.2.2.1 bt442.2.2.2.2.1 bt442.2.2.2.2.2.1 bt442.2.2.2.2.2.2.1 bt442.2.2.2.2.2.2.2 bt454.1 bt454.2.1 bt454.2.2.1 bt454.2.2.2.1 bt462.1 bt462.2.1 bt462.2.2.1 bt462.2.2.2.1))) else (laws_FnCropImageTwice.j0 k bt454.2.2.2.2 bt462.2.2.2.2 true bt442.1 bt442.2.1 bt442.2.2.1 bt442.2.2.2.1 bt442.2.2.2.2.1 bt442.2.2.2.2.2.1 bt442.2.2.2.2.2.2.1 bt442.2.2.2.2.2.2.2 bt454.1 bt454.2.1 bt454.2.2.1 bt454.2.2.2.1 bt462.1 bt462.2.1 bt462.2.2.1 bt462.2.2.2.1))))))) = some r := h
  clear h
  by_cases c2 : (l0.length : Int) > 1048576
  · rw [if_pos c2] at H
    have c2b0 : decide (1048576 < (l0.length : Int)) = true := decide_eq_true c2
    have c2b1 : decide (1048576 < l0.length) = true := decide_eq_true (by omega)
    clear c2
    obtain rfl := Option.some.inj H
    simp only [Option.some.injEq, Prod.mk.injEq] at H
    obtain ⟨rfl⟩ := H
    go_enter Try.func5, Try.ntmps5
    go_wp2
    go_ret
    exact ⟨by first | rfl | (simp [errW_none, errW_some] <;> rfl) | (simp [*, errW_none, errW_some] <;> rfl), B.bl HB⟩
  rw [if_neg c2] at H
  have c2b0 : decide (1048576 < (l0.length : Int)) = false := decide_eq_false c2
  have c2b1 : decide (1048576 < l0.length) = false := decide_eq_false (by omega)
  clear c2
  replace H := Option.bind_eq_some_iff.mp H
  obtain ⟨⟨t442, t443, t444, t445, t448, t449, t450, t451⟩, A30, H⟩ := H
  replace H : ((impl_CropImage.f t442 t443 t444 t445 t448 t449 t450 t451).bind fun bt454 => ((spec_CropImage.f k t442 t443 t444 t445 t448 t449 t450 t451).bind fun bt462 => ((laws_equalImage.f k bt454.1 bt454.2.1 bt454.2.2.1 bt454.2.2.2.1 bt462.1 bt462.2.1 bt462.2.2.1 bt462.2.2.2.1).bind fun t470 => (if t470 = true then (if (bt454.2.2.2.2 != bt462.2.2.2.2) = true then (laws_FnCropImageTwice.j0 k bt454.2.2.2.2 bt462.2.2.2.2 true t442 t443 t444 t445 t448 t449 t450 t451 bt454.1 bt454.2.1 bt454.2.2.1 bt454.2.2.2.1 bt462.1 bt462.2.1 bt462.2.2.1 bt462.2.2.2.1) else (if bt454.2.2.2.2 = true then (laws_FnCropImageTwice.j0 k bt454.2.2.2.2 bt462.2.2.2.2 (decide (t450 < 2)) t442 t443 t444 t445 t448 t449 t450 t451 bt454.1 bt454.2.1 bt454.2.2.1 bt454.2.2.2.1 bt462.1 bt462.2.1 bt462.2.2.1 bt462.2.2.2.1) else (laws_FnCropImageTwice.j0 k bt454.2.2.2.2 bt462.2.2.2.2 true t442 t443 t444 t445 t448 t449 t450 t451 bt454.1 bt454.2.1 bt454.2.2.1 bt454.2.2.2.1 bt462.1 bt462.2.1 bt462.2.2.1 bt462.2.2.2.1))) else (laws_FnCropImageTwice.j0 k bt454.2.2.2.2 bt462.2.2.2.2 true t442 t443 t444 t445 t448 t449 t450 t451 bt454.1 bt454.2.1 bt454.2.2.1 bt454.2.2.2.1 bt462.1 bt462.2.1 bt462.2.2.1 bt462.2.2.2.1))))) = some r := H
  have A3 := Aside0.mk A30
  clear A30
  replace H := Option.bind_eq_some_iff.mp H
  obtain ⟨⟨t454, t455, t456, t457, t460⟩, A40, H⟩ := H
  replace H : ((spec_CropImage.f k t442 t443 t444 t445 t448 t449 t450 t451).bind fun bt462 => ((laws_equalImage.f k t454 t455 t456 t457 bt462.1 bt462.2.1 bt462.2.2.1 bt462.2.2.2.1).bind fun t470 => (if t470 = true then (if (t460 != bt462.2.2.2.2) = true then (laws_FnCropImageTwice.j0 k t460 bt462.2.2.2.2 true t442 t443 t444 t445 t448 t449 t450 t451 t454 t455 t456 t457 bt462.1 bt462.2.1 bt462.2.2.1 bt462.2.2.2.1) else (if t460 = true then (laws_FnCropImageTwice.j0 k t460 bt462.2.2.2.2 (decide (t450 < 2)) t442 t443 t444 t445 t448 t449 t450 t451 t454 t455 t456 t457 bt462.1 bt462.2.1 bt462.2.2.1 bt462.2.2.2.1) else (laws_FnCropImageTwice.j0 k t460 bt462.2.2.2.2 true t442 t443 t444 t445 t448 t449 t450 t451 t454 t455 t456 t457 bt462.1 bt462.2.1 bt462.2.2.1 bt462.2.2.2.1))) else (laws_FnCropImageTwice.j0 k t460 bt462.2.2.2.2 true t442 t443 t444 t445 t448 t449 t450 t451 t454 t455 t456 t457 bt462.1 bt462.2.1 bt462.2.2.1 bt462.2.2.2.1)))) = some r := H
  have A4 := Aside0.mk A40
  clear A40
  replace H := Option.bind_eq_some_iff.mp H
  obtain ⟨⟨t462, t463, t464, t465, t468⟩, A50, H⟩ := H
  replace H : ((laws_equalImage.f k t454 t455 t456 t457 t462 t463 t464 t465).bind fun t470 => (if t470 = true then (if (t460 != t468) = true then (laws_FnCropImageTwice.j0 k t460 t468 true t442 t443 t444 t445 t448 t449 t450 t451 t454 t455 t456 t457 t462 t463 t464 t465) else (if t460 = true then (laws_FnCropImageTwice.j0 k t460 t468 (decide (t450 < 2)) t442 t443 t444 t445 t448 t449 t450 t451 t454 t455 t456 t457 t462 t463 t464 t465) else (laws_FnCropImageTwice.j0 k t460 t468 true t442 t443 t444 t445 t448 t449 t450 t451 t454 t455 t456 t457 t462 t463 t464 t465))) else (laws_FnCropImageTwice.j0 k t460 t468 true t442 t443 t444 t445 t448 t449 t450 t451 t454 t455 t456 t457 t462 t463 t464 t465))) = some r := H
  have A5 := Aside0.mk A50
  clear A50
  have HC6 := Aside0.mk H
  clear H
  go_enter Try.func5, Try.ntmps5
  go_upto_region 6 with (first | ((with_reducible refine gate_callee (f := 16) rfl ?_); refine goesL_ (some 18) rfl rfl Try.func16 (by kernel_rfl) rfl #[.slice A0 l0.length c0] rfl B.am ?_; (with_reducible refine (spec_DrawCropImage.calls k _ _ l0 t442 t443 t444 t445 t448 t449 t450 t451 _ ?side1 ?side2 A3.out).mono ?_); (case side1 => exact B.kc (HR0.out)); (case side2 => exact HC0.out); rintro e w7 ⟨v446, rfl, ho0, hb⟩; refine ⟨_, rfl, ?_⟩; have n0_ := Aside0.mk (Kd.Q_lower ho0 (below_size (B.bl HB))); have n1_ := Aside0.mk (below_step (B.bl HB) hb); clear HB; have HO447 := n0_; have HB := n1_; clear n0_ n1_; (try clear hb); (try clear hb2); (try clear hk); (try clear hi); (try clear ho0)) | ((with_reducible refine gate_dst (N := 3) rfl ?_); refine box_event ?hg (N := 3) ?hd (cs := #[.int .i64 0, .int .i64 0, .int .i64 0, .slice none 0 0]) (t := 28) ?hr ?_; (case hd => rfl); (case hg => rfl); (case hr => first | (go_simp; done) | (go_simp; rfl)); intro gb452 hg w8 hbox hb; have n0_ := Aside0.mk (Kd.Q_below (B.kq HO447) hb); have n1_ := Aside0.mk (below_step (B.bl HB) hb); have n2_ := Aside0.mk (hbox); have n3_ := Aside0.mk (B.nle hg (below_size (B.bl HB))); have n4_ := Aside0.mk (B.nle hg (below_size (B.bl HB))); clear HO447 HB; have HO447 := n0_; have HB := n1_; have BK452 := n2_; have GW452 := n3_; have GE452 := n4_; clear n0_ n1_ n2_ n3_ n4_; clear hb hbox hg) | ((with_reducible refine gate_dst (N := 4) rfl ?_); refine box_event ?hg (N := 4) ?hd (cs := #[.int .i64 0, .int .i64 0, .int .i64 0, .int .i64 0]) (t := 32) ?hr ?_; (case hd => rfl); (case hg => rfl); (case hr => first | (go_simp; done) | (go_simp; rfl)); intro gb453 hg w9 hbox hb; have n0_ := Aside0.mk (Kd.Q_below (B.kq HO447) hb); have n1_ := Aside0.mk (blk_below (B.kb BK452) hb); have n2_ := Aside0.mk (below_step (B.bl HB) hb); have n3_ := Aside0.mk (hbox); have n4_ := Aside0.mk (B.nle hg (below_size (B.bl HB))); have n5_ := Aside0.mk (B.nle hg (below_size (B.bl HB))); have n6_ := Aside0.mk (B.nlt hg (blk_lt (B.kb BK452))); have n7_ := Aside0.mk (B.ngt hg (blk_lt (B.kb BK452))); clear HO447 BK452 HB; have HO447 := n0_; have BK452 := n1_; have HB := n2_; have BK453 := n3_; have GW453 := n4_; have GE453 := n5_; have NB452_453 := n6_; have NB453_452 := n7_; clear n0_ n1_ n2_ n3_ n4_ n5_ n6_ n7_; clear hb hbox hg; have hnb10 := NB452_453.out; have hnc10 := NB453_452.out; have hcz11_0 : w9.cell? ⟨gb452, 0, none⟩ = some (.int .i64 0) := B.bc BK452 0; have hcz11_1 : w9.cell? ⟨gb452, 1, none⟩ = some (.int .i64 0) := B.bc BK452 1; have hcz11_2 : w9.cell? ⟨gb452, 2, none⟩ = some (.int .i64 0) := B.bc BK452 2; have hcz11_3 : w9.cell? ⟨gb452, 3, none⟩ = some (.slice none 0 0) := B.bc BK452 3; have hfz11_0 := blk_frozen BK452.out 0; have hfz11_1 := blk_frozen BK452.out 1; have hfz11_2 := blk_frozen BK452.out 2; have hfz11_3 := blk_frozen BK452.out 3; obtain ⟨Ao12, co12, eo12, _⟩ := Kd.Q_slice HO447.out; subst eo12; have hcz13_0 : w9.cell? ⟨gb453, 0, none⟩ = some (.int .i64 0) := B.bc BK453 0; have hcz13_1 : w9.cell? ⟨gb453, 1, none⟩ = some (.int .i64 0) := B.bc BK453 1; have hcz13_2 : w9.cell? ⟨gb453, 2, none⟩ = some (.int .i64 0) := B.bc BK453 2; have hcz13_3 : w9.cell? ⟨gb453, 3, none⟩ = some (.int .i64 0) := B.bc BK453 3; have hfz13_0 := blk_frozen BK453.out 0; have hfz13_1 := blk_frozen BK453.out 1; have hfz13_2 := blk_frozen BK453.out 2; have hfz13_3 := blk_frozen BK453.out 3) | ((with_reducible refine gate_callee (f := 12) rfl ?_); refine goesL_ (some 24) rfl rfl Try.func12 (by kernel_rfl) rfl #[.agg #[.int .i64 t442, .int .i64 t443, .int .i64 t444, .slice Ao12 t445.length co12], .agg #[.int .i64 t448, .int .i64 t449, .int .i64 t450, .int .i64 t451]] rfl B.am ?_; (with_reducible refine (impl_CropImage.calls t442 t443 t444 _ _ t445 t448 t449 t450 t451 t454 t455 t456 t457 t460 _ ?side1 ?side2 A4.out).mono ?_); (case side1 => refine (Kd.Q_reads' (e := 3) (base := w.heap.size) (ok := fun k_ => True) (n := t445.length) (c := co12) ?_).2.2; exact (by (with_reducible repeat (first | apply Kd.Q_alloc | apply Kd.Q_drewN | apply Kd.Q_drew)); exact (Kd.Q_mono (Kd.Q_mono (Kd.Q_far (p := ⟨gb453, 3, none⟩) (Kd.Q_far (p := ⟨gb453, 2, none⟩) (Kd.Q_far (p := ⟨gb453, 1, none⟩) (Kd.Q_far (p := ⟨gb453, 0, none⟩) (Kd.Q_far (p := ⟨gb452, 3, none⟩) (Kd.Q_far (p := ⟨gb452, 2, none⟩) (Kd.Q_far (p := ⟨gb452, 1, none⟩) (Kd.Q_far (p := ⟨gb452, 0, none⟩) (Kd.Q_types (Kd.Q_types HO447.out BK452.out (by decide)) BK453.out (by decide)) (fun _ hk => hk.1.2) (.int .i64 t442)) (fun _ hk => hk.1.2) (.int .i64 t443)) (fun _ hk => hk.1.2) (.int .i64 t444)) (fun _ hk => hk.1.2) (.slice Ao12 t445.length co12)) (fun _ hk => hk.2) (.int .i64 t448)) (fun _ hk => hk.2) (.int .i64 t449)) (fun _ hk => hk.2) (.int .i64 t450)) (fun _ hk => hk.2) (.int .i64 t451)) (fun _ h_ => h_.1)) (fun _ h_ => h_.1)))); (case side2 => exact (Kd.Q_reads' HO447.out).2.1); rintro e w14 ⟨v458, rfl, ho0, hb⟩; refine ⟨_, rfl, ?_⟩; have n0_ := Aside0.mk (Kd.Q_elder' (by (with_reducible repeat (first | apply Kd.Q_alloc | apply Kd.Q_drewN | apply Kd.Q_drew)); exact (Kd.Q_mono (Kd.Q_mono (Kd.Q_far (p := ⟨gb453, 3, none⟩) (Kd.Q_far (p := ⟨gb453, 2, none⟩) (Kd.Q_far (p := ⟨gb453, 1, none⟩) (Kd.Q_far (p := ⟨gb453, 0, none⟩) (Kd.Q_far (p := ⟨gb452, 3, none⟩) (Kd.Q_far (p := ⟨gb452, 2, none⟩) (Kd.Q_far (p := ⟨gb452, 1, none⟩) (Kd.Q_far (p := ⟨gb452, 0, none⟩) (Kd.Q_types (Kd.Q_types HO447.out BK452.out (by decide)) BK453.out (by decide)) (fun _ hk => hk.1.2) (.int .i64 t442)) (fun _ hk => hk.1.2) (.int .i64 t443)) (fun _ hk => hk.1.2) (.int .i64 t444)) (fun _ hk => hk.1.2) (.slice Ao12 t445.length co12)) (fun _ hk => hk.2) (.int .i64 t448)) (fun _ hk => hk.2) (.int .i64 t449)) (fun _ hk => hk.2) (.int .i64 t450)) (fun _ hk => hk.2) (.int .i64 t451)) (fun _ h_ => h_.1)) (fun _ h_ => h_.1))) (Kd.R_base ho0) hb); have n1_ := Aside0.mk (Kd.R_lower (Kd.R_new' ho0 (Kd.Q_lt (by (with_reducible repeat (first | apply Kd.Q_alloc | apply Kd.Q_drewN | apply Kd.Q_drew)); exact (Kd.Q_mono (Kd.Q_mono (Kd.Q_far (p := ⟨gb453, 3, none⟩) (Kd.Q_far (p := ⟨gb453, 2, none⟩) (Kd.Q_far (p := ⟨gb453, 1, none⟩) (Kd.Q_far (p := ⟨gb453, 0, none⟩) (Kd.Q_far (p := ⟨gb452, 3, none⟩) (Kd.Q_far (p := ⟨gb452, 2, none⟩) (Kd.Q_far (p := ⟨gb452, 1, none⟩) (Kd.Q_far (p := ⟨gb452, 0, none⟩) (Kd.Q_types (Kd.Q_types HO447.out BK452.out (by decide)) BK453.out (by decide)) (fun _ hk => hk.1.2) (.int .i64 t442)) (fun _ hk => hk.1.2) (.int .i64 t443)) (fun _ hk => hk.1.2) (.int .i64 t444)) (fun _ hk => hk.1.2) (.slice Ao12 t445.length co12)) (fun _ hk => hk.2) (.int .i64 t448)) (fun _ hk => hk.2) (.int .i64 t449)) (fun _ hk => hk.2) (.int .i64 t450)) (fun _ hk => hk.2) (.int .i64 t451)) (fun _ h_ => h_.1)) (fun _ h_ => h_.1))))) (below_size (B.bl HB))); have n2_ := Aside0.mk (blk_below (g := gb452) (o := .cells #[.int .i64 t442, .int .i64 t443, .int .i64 t444, .slice Ao12 t445.length co12] 28 (0, 0)) (by (with_reducible repeat (first | refine blk_drewN ?_ _ | refine blk_drew ?_ | refine blk_alloc ?_ _)); refine blk_far ?_ NB452_453.out _; (with_reducible repeat (first | refine blk_drewN ?_ _ | refine blk_drew ?_ | refine blk_alloc ?_ _)); refine blk_far ?_ NB452_453.out _; (with_reducible repeat (first | refine blk_drewN ?_ _ | refine blk_drew ?_ | refine blk_alloc ?_ _)); refine blk_far ?_ NB452_453.out _; (with_reducible repeat (first | refine blk_drewN ?_ _ | refine blk_drew ?_ | refine blk_alloc ?_ _)); refine blk_far ?_ NB452_453.out _; (with_reducible repeat (first | refine blk_drewN ?_ _ | refine blk_drew ?_ | refine blk_alloc ?_ _)); refine blk_put (cs := #[.int .i64 t442, .int .i64 t443, .int .i64 t444, .slice none 0 0]) ?_ 3 _ rfl; (with_reducible repeat (first | refine blk_drewN ?_ _ | refine blk_drew ?_ | refine blk_alloc ?_ _)); refine blk_put (cs := #[.int .i64 t442, .int .i64 t443, .int .i64 0, .slice none 0 0]) ?_ 2 _ rfl; (with_reducible repeat (first | refine blk_drewN ?_ _ | refine blk_drew ?_ | refine blk_alloc ?_ _)); refine blk_put (cs := #[.int .i64 t442, .int .i64 0, .int .i64 0, .slice none 0 0]) ?_ 1 _ rfl; (with_reducible repeat (first | refine blk_drewN ?_ _ | refine blk_drew ?_ | refine blk_alloc ?_ _)); refine blk_put (cs := #[.int .i64 0, .int .i64 0, .int .i64 0, .slice none 0 0]) ?_ 0 _ rfl; (with_reducible repeat (first | refine blk_drewN ?_ _ | refine blk_drew ?_ | refine blk_alloc ?_ _)); exact BK452.out) hb); have n3_ := Aside0.mk (blk_below (g := gb453) (o := .cells #[.int .i64 t448, .int .i64 t449, .int .i64 t450, .int .i64 t451] 32 (0, 0)) (by (with_reducible repeat (first | refine blk_drewN ?_ _ | refine blk_drew ?_ | refine blk_alloc ?_ _)); refine blk_put (cs := #[.int .i64 t448, .int .i64 t449, .int .i64 t450, .int .i64 0]) ?_ 3 _ rfl; (with_reducible repeat (first | refine blk_drewN ?_ _ | refine blk_drew ?_ | refine blk_alloc ?_ _)); refine blk_put (cs := #[.int .i64 t448, .int .i64 t449, .int .i64 0, .int .i64 0]) ?_ 2 _ rfl; (with_reducible repeat (first | refine blk_drewN ?_ _ | refine blk_drew ?_ | refine blk_alloc ?_ _)); refine blk_put (cs := #[.int .i64 t448, .int .i64 0, .int .i64 0, .int .i64 0]) ?_ 1 _ rfl; (with_reducible repeat (first | refine blk_drewN ?_ _ | refine blk_drew ?_ | refine blk_alloc ?_ _)); refine blk_put (cs := #[.int .i64 0, .int .i64 0, .int .i64 0, .int .i64 0]) ?_ 0 _ rfl; (with_reducible repeat (first | refine blk_drewN ?_ _ | refine blk_drew ?_ | refine blk_alloc ?_ _)); refine blk_far ?_ NB453_452.out _; (with_reducible repeat (first | refine blk_drewN ?_ _ | refine blk_drew ?_ | refine blk_alloc ?_ _)); refine blk_far ?_ NB453_452.out _; (with_reducible repeat (first | refine blk_drewN ?_ _ | refine blk_drew ?_ | refine blk_alloc ?_ _)); refine blk_far ?_ NB453_452.out _; (with_reducible repeat (first | refine blk_drewN ?_ _ | refine blk_drew ?_ | refine blk_alloc ?_ _)); refine blk_far ?_ NB453_452.out _; (with_reducible repeat (first | refine blk_drewN ?_ _ | refine blk_drew ?_ | refine blk_alloc ?_ _)); exact BK453.out) hb); have n4_ := Aside0.mk (below_step (B.bl HB) hb); clear HO447 BK452 BK453 HB; have HO447 := n0_; have HO459 := n1_; have BK452 := n2_; have BK453 := n3_; have HB := n4_; clear n0_ n1_ n2_ n3_ n4_; (try clear hb); (try clear hb2); (try clear hk); (try clear hi); (try clear ho0)) | ((with_reducible refine gate_dst (N := 5) rfl ?_); refine box_event ?hg (N := 5) ?hd (cs := #[.int .i64 0, .int .i64 0, .int .i64 0, .slice none 0 0]) (t := 28) ?hr ?_; (case hd => rfl); (case hg => rfl); (case hr => first | (go_simp; done) | (go_simp; rfl)); intro gb461 hg w15 hbox hb; have n0_ := Aside0.mk (Kd.Q_below (B.kq HO447) hb); have n1_ := Aside0.mk (Kd.R_below (B.kr HO459) hb); have n2_ := Aside0.mk (blk_below (B.kb BK452) hb); have n3_ := Aside0.mk (blk_below (B.kb BK453) hb); have n4_ := Aside0.mk (below_step (B.bl HB) hb); have n5_ := Aside0.mk (hbox); have n6_ := Aside0.mk (B.nle hg (below_size (B.bl HB))); have n7_ := Aside0.mk (B.nle hg (below_size (B.bl HB))); have n8_ := Aside0.mk (B.nlt hg (blk_lt (B.kb BK452))); have n9_ := Aside0.mk (B.ngt hg (blk_lt (B.kb BK452))); have n10_ := Aside0.mk (B.nlt hg (blk_lt (B.kb BK453))); have n11_ := Aside0.mk (B.ngt hg (blk_lt (B.kb BK453))); clear HO447 HO459 BK452 BK453 HB; have HO447 := n0_; have HO459 := n1_; have BK452 := n2_; have BK453 := n3_; have HB := n4_; have BK461 := n5_; have GW461 := n6_; have GE461 := n7_; have NB452_461 := n8_; have NB461_452 := n9_; have NB453_461 := n10_; have NB461_453 := n11_; clear n0_ n1_ n2_ n3_ n4_ n5_ n6_ n7_ n8_ n9_ n10_ n11_; clear hb hbox hg; have hnb16 := NB461_452.out; have hnc16 := NB452_461.out; have hnb17 := NB461_453.out; have hnc17 := NB453_461.out; have hcz18_0 : w15.cell? ⟨gb461, 0, none⟩ = some (.int .i64 0) := B.bc BK461 0; have hcz18_1 : w15.cell? ⟨gb461, 1, none⟩ = some (.int .i64 0) := B.bc BK461 1; have hcz18_2 : w15.cell? ⟨gb461, 2, none⟩ = some (.int .i64 0) := B.bc BK461 2; have hcz18_3 : w15.cell? ⟨gb461, 3, none⟩ = some (.slice none 0 0) := B.bc BK461 3; have hfz18_0 := blk_frozen BK461.out 0; have hfz18_1 := blk_frozen BK461.out 1; have hfz18_2 := blk_frozen BK461.out 2; have hfz18_3 := blk_frozen BK461.out 3; obtain ⟨Ao19, co19, eo19⟩ := Kd.R_slice HO459.out; subst eo19; have hcz20_0 : w15.cell? ⟨gb452, 0, none⟩ = some (.int .i64 t442) := B.bc BK452 0; have hcz20_1 : w15.cell? ⟨gb452, 1, none⟩ = some (.int .i64 t443) := B.bc BK452 1; have hcz20_2 : w15.cell? ⟨gb452, 2, none⟩ = some (.int .i64 t444) := B.bc BK452 2; have hcz20_3 : w15.cell? ⟨gb452, 3, none⟩ = some (.slice Ao12 t445.length co12) := B.bc BK452 3; have hfz20_0 := blk_frozen BK452.out 0; have hfz20_1 := blk_frozen BK452.out 1; have hfz20_2 := blk_frozen BK452.out 2; have hfz20_3 := blk_frozen BK452.out 3; have hcz21_0 : w15.cell? ⟨gb453, 0, none⟩ = some (.int .i64 t448) := B.bc BK453 0; have hcz21_1 : w15.cell? ⟨gb453, 1, none⟩ = some (.int .i64 t449) := B.bc BK453 1; have hcz21_2 : w15.cell? ⟨gb453, 2, none⟩ = some (.int .i64 t450) := B.bc BK453 2; have hcz21_3 : w15.cell? ⟨gb453, 3, none⟩ = some (.int .i64 t451) := B.bc BK453 3; have hfz21_0 := blk_frozen BK453.out 0; have hfz21_1 := blk_frozen BK453.out 1; have hfz21_2 := blk_frozen BK453.out 2; have hfz21_3 := blk_frozen BK453.out 3) | ((with_reducible refine gate_callee (f := 9) rfl ?_); refine goesL_ (some 30) rfl rfl Try.func9 (by kernel_rfl) rfl #[.agg #[.int .i64 t442, .int .i64 t443, .int .i64 t444, .slice Ao12 t445.length co12], .agg #[.int .i64 t448, .int .i64 t449, .int .i64 t450, .int .i64 t451]] rfl B.am ?_; (with_reducible refine (spec_CropImage.calls k t442 t443 t444 _ _ t445 t448 t449 t450 t451 t462 t463 t464 t465 t468 _ ?side1 ?side2 A5.out).mono ?_); (case side1 => refine (Kd.Q_reads' (e := 3) (base := w.heap.size) (ok := fun k_ => (True ∧ some k_ ≠ (.slice Ao19 t457.length co19 : Value).ownBlock)) (n := t445.length) (c := co12) ?_).2.2; exact (by (with_reducible repeat (first | apply Kd.Q_alloc | apply Kd.Q_drewN | apply Kd.Q_drew)); exact (Kd.Q_mono (Kd.Q_far (p := ⟨gb461, 3, none⟩) (Kd.Q_far (p := ⟨gb461, 2, none⟩) (Kd.Q_far (p := ⟨gb461, 1, none⟩) (Kd.Q_far (p := ⟨gb461, 0, none⟩) (Kd.Q_types HO447.out BK461.out (by decide)) (fun _ hk => hk.2) (.int .i64 t454)) (fun _ hk => hk.2) (.int .i64 t455)) (fun _ hk => hk.2) (.int .i64 t456)) (fun _ hk => hk.2) (.slice Ao19 t457.length co19)) (fun _ h_ => h_.1)))); (case side2 => exact (Kd.Q_reads' HO447.out).2.1); rintro e w22 ⟨v466, rfl, ho0, hb⟩; refine ⟨_, rfl, ?_⟩; have n0_ := Aside0.mk (Kd.Q_elder' (by (with_reducible repeat (first | apply Kd.Q_alloc | apply Kd.Q_drewN | apply Kd.Q_drew)); exact (Kd.Q_mono (Kd.Q_far (p := ⟨gb461, 3, none⟩) (Kd.Q_far (p := ⟨gb461, 2, none⟩) (Kd.Q_far (p := ⟨gb461, 1, none⟩) (Kd.Q_far (p := ⟨gb461, 0, none⟩) (Kd.Q_types HO447.out BK461.out (by decide)) (fun _ hk => hk.2) (.int .i64 t454)) (fun _ hk => hk.2) (.int .i64 t455)) (fun _ hk => hk.2) (.int .i64 t456)) (fun _ hk => hk.2) (.slice Ao19 t457.length co19)) (fun _ h_ => h_.1))) (Kd.R_base ho0) hb); have n1_ := Aside0.mk (Kd.R_elder' (B.kr0 (B.rs4 HO459 BK461)) (Kd.R_base ho0) hb); have n2_ := Aside0.mk (Kd.R_lower (Kd.R_new' (Kd.R_new' ho0 (Kd.Q_lt (by (with_reducible repeat (first | apply Kd.Q_alloc | apply Kd.Q_drewN | apply Kd.Q_drew)); exact (Kd.Q_mono (Kd.Q_far (p := ⟨gb461, 3, none⟩) (Kd.Q_far (p := ⟨gb461, 2, none⟩) (Kd.Q_far (p := ⟨gb461, 1, none⟩) (Kd.Q_far (p := ⟨gb461, 0, none⟩) (Kd.Q_types HO447.out BK461.out (by decide)) (fun _ hk => hk.2) (.int .i64 t454)) (fun _ hk => hk.2) (.int .i64 t455)) (fun _ hk => hk.2) (.int .i64 t456)) (fun _ hk => hk.2) (.slice Ao19 t457.length co19)) (fun _ h_ => h_.1))))) (Kd.R_lt (B.kr0 (B.rs4 HO459 BK461)))) (below_size (B.bl HB))); have n3_ := Aside0.mk (blk_below (B.kb0 (B.bf4 BK452 NB452_461)) hb); have n4_ := Aside0.mk (blk_below (B.kb0 (B.bf4 BK453 NB453_461)) hb); have n5_ := Aside0.mk (blk_below (g := gb461) (o := .cells #[.int .i64 t454, .int .i64 t455, .int .i64 t456, .slice Ao19 t457.length co19] 28 (0, 0)) (B.kb0 (B.bp4 BK461)) hb); have n6_ := Aside0.mk (below_step (B.bl HB) hb); clear HO447 HO459 BK452 BK453 BK461 HB; have HO447 := n0_; have HO459 := n1_; have HO467 := n2_; have BK452 := n3_; have BK453 := n4_; have BK461 := n5_; have HB := n6_; clear n0_ n1_ n2_ n3_ n4_ n5_ n6_; (try clear hb); (try clear hb2); (try clear hk); (try clear hi); (try clear ho0)) | ((with_reducible refine gate_dst (N := 7) rfl ?_); refine box_event ?hg (N := 7) ?hd (cs := #[.int .i64 0, .int .i64 0, .int .i64 0, .slice none 0 0]) (t := 28) ?hr ?_; (case hd => rfl); (case hg => rfl); (case hr => first | (go_simp; done) | (go_simp; rfl)); intro gb469 hg w23 hbox hb; have n0_ := Aside0.mk (Kd.Q_below (B.kq HO447) hb); have n1_ := Aside0.mk (Kd.R_below (B.kr HO459) hb); have n2_ := Aside0.mk (Kd.R_below (B.kr HO467) hb); have n3_ := Aside0.mk (blk_below (B.kb BK452) hb); have n4_ := Aside0.mk (blk_below (B.kb BK453) hb); have n5_ := Aside0.mk (blk_below (B.kb BK461) hb); have n6_ := Aside0.mk (below_step (B.bl HB) hb); have n7_ := Aside0.mk (hbox); have n8_ := Aside0.mk (B.nle hg (below_size (B.bl HB))); have n9_ := Aside0.mk (B.nle hg (below_size (B.bl HB))); have n10_ := Aside0.mk (B.nlt hg (blk_lt (B.kb BK452))); have n11_ := Aside0.mk (B.ngt hg (blk_lt (B.kb BK452))); have n12_ := Aside0.mk (B.nlt hg (blk_lt (B.kb BK453))); have n13_ := Aside0.mk (B.ngt hg (blk_lt (B.kb BK453))); have n14_ := Aside0.mk (B.nlt hg (blk_lt (B.kb BK461))); have n15_ := Aside0.mk (B.ngt hg (blk_lt (B.kb BK461))); clear HO447 HO459 HO467 BK452 BK453 BK461 HB; have HO447 := n0_; have HO459 := n1_; have HO467 := n2_; have BK452 := n3_; have BK453 := n4_; have BK461 := n5_; have HB := n6_; have BK469 := n7_; have GW469 := n8_; have GE469 := n9_; have NB452_469 := n10_; have NB469_452 := n11_; have NB453_469 := n12_; have NB469_453 := n13_; have NB461_469 := n14_; have NB469_461 := n15_; clear n0_ n1_ n2_ n3_ n4_ n5_ n6_ n7_ n8_ n9_ n10_ n11_ n12_ n13_ n14_ n15_; clear hb hbox hg; have hnb24 := NB469_452.out; have hnc24 := NB452_469.out; have hnb25 := NB469_453.out; have hnc25 := NB453_469.out; have hnb26 := NB469_461.out; have hnc26 := NB461_469.out; have hcz27_0 : w23.cell? ⟨gb469, 0, none⟩ = some (.int .i64 0) := B.bc BK469 0; have hcz27_1 : w23.cell? ⟨gb469, 1, none⟩ = some (.int .i64 0) := B.bc BK469 1; have hcz27_2 : w23.cell? ⟨gb469, 2, none⟩ = some (.int .i64 0) := B.bc BK469 2; have hcz27_3 : w23.cell? ⟨gb469, 3, none⟩ = some (.slice none 0 0) := B.bc BK469 3; have hfz27_0 := blk_frozen BK469.out 0; have hfz27_1 := blk_frozen BK469.out 1; have hfz27_2 := blk_frozen BK469.out 2; have hfz27_3 := blk_frozen BK469.out 3; obtain ⟨Ao28, co28, eo28⟩ := Kd.R_slice HO467.out; subst eo28))
  (try simp only [Act.put, List.setIfInBounds_toArray, List.set_cons_zero, List.set_cons_succ])
  go_cut [50] (fun v50 wc => ∃ (kq : Nat) (x50_5 : Bool), v50 = .bool x50_5 ∧ Aside0 (laws_FnCropImageTwice.j0 kq t460 t468 x50_5 t442 t443 t444 t445 t448 t449 t450 t451 t454 t455 t456 t457 t462 t463 t464 t465 = some r) ∧ Aside0 (kq ≤ k) ∧ Aside0 (Kd.Q (Kd.int .i64) 3 wc w.heap.size (fun k_ => some k_ ≠ ((.slice Ao19 t457.length co19) : Value).ownBlock ∧ some k_ ≠ ((.slice Ao28 t465.length co28) : Value).ownBlock) (.slice Ao12 t445.length co12) t445) ∧ Aside0 (Kd.Q (Kd.int .i64) 3 wc w.heap.size (fun k_ => some k_ ≠ ((.slice Ao12 t445.length co12) : Value).ownBlock ∧ some k_ ≠ ((.slice Ao28 t465.length co28) : Value).ownBlock) (.slice Ao19 t457.length co19) t457) ∧ Aside0 (Kd.Q (Kd.int .i64) 3 wc w.heap.size (fun k_ => some k_ ≠ ((.slice Ao12 t445.length co12) : Value).ownBlock ∧ some k_ ≠ ((.slice Ao19 t457.length co19) : Value).ownBlock) (.slice Ao28 t465.length co28) t465) ∧ Aside0 (wc.heap[gb452]? = some (.cells #[.int .i64 t442, .int .i64 t443, .int .i64 t444, (.slice Ao12 t445.length co12)] 28 (0, 0))) ∧ Aside0 (wc.heap[gb453]? = some (.cells #[.int .i64 t448, .int .i64 t449, .int .i64 t450, .int .i64 t451] 32 (0, 0))) ∧ Aside0 (wc.heap[gb461]? = some (.cells #[.int .i64 t454, .int .i64 t455, .int .i64 t456, (.slice Ao19 t457.length co19)] 28 (0, 0))) ∧ Aside0 (wc.heap[gb469]? = some (.cells #[.int .i64 t462, .int .i64 t463, .int .i64 t464, (.slice Ao28 t465.length co28)] 28 (0, 0))) ∧ Aside0 (Below w.heap.size w wc))
  case first =>
    have H := HC6.out
    clear HC6
    replace H := Option.bind_eq_some_iff.mp H
    obtain ⟨t470, A290, H⟩ := H
    replace H : (if t470 = true then (if (t460 != t468) = true then (laws_FnCropImageTwice.j0 k t460 t468 true t442 t443 t444 t445 t448 t449 t450 t451 t454 t455 t456 t457 t462 t463 t464 t465) else (if t460 = true then (laws_FnCropImageTwice.j0 k t460 t468 (decide (t450 < 2)) t442 t443 t444 t445 t448 t449 t450 t451 t454 t455 t456 t457 t462 t463 t464 t465) else (laws_FnCropImageTwice.j0 k t460 t468 true t442 t443 t444 t445 t448 t449 t450 t451 t454 t455 t456 t457 t462 t463 t464 t465))) else (laws_FnCropImageTwice.j0 k t460 t468 true t442 t443 t444 t445 t448 t449 t450 t451 t454 t455 t456 t457 t462 t463 t464 t465)) = some r := H
    have A29 := Aside0.mk A290
    clear A290
    by_cases c30 : t470 = true
    · subst c30
      have H1 : (if (t460 != t468) = true then (laws_FnCropImageTwice.j0 k t460 t468 true t442 t443 t444 t445 t448 t449 t450 t451 t454 t455 t456 t457 t462 t463 t464 t465) else (if t460 = true then (laws_FnCropImageTwice.j0 k t460 t468 (decide (t450 < 2)) t442 t443 t444 t445 t448 t449 t450 t451 t454 t455 t456 t457 t462 t463 t464 t465) else (laws_FnCropImageTwice.j0 k t460 t468 true t442 t443 t444 t445 t448 t449 t450 t451 t454 t455 t456 t457 t462 t463 t464 t465))) = some r := by rw [if_pos rfl] at H; exact H
      clear H
      have H := H1
      clear H1
      by_cases c31 : (t460 != t468) = true
      · rw [if_pos c31] at H
        have c31b0 : (t460 != t468) = true := c31
        (try (have c31b1 : decide (t460 = t468) = false := by simpa using c31))
        (try (have c31b2 : (t460 == t468) = false := by simpa using c31))
        (try (have c31b3 : ¬ (t460 = t468) := by simpa using c31))
        clear c31
        (first | rw [c31b0] | (simp only [i64_w, i32_w]; rw [c31b0]) | skip)
        have H' := Aside0.mk H
        clear H
        have hnb32 := NB461_452.out
        have hnc32 := NB452_461.out
        have hnb33 := NB461_453.out
        have hnc33 := NB453_461.out
        have hnb34 := NB461_469.out
        have hnc34 := NB469_461.out
        have hcz35_0 : w23.cell? ⟨gb461, 0, none⟩ = some (.int .i64 t454) := B.bc BK461 0
        have hcz35_1 : w23.cell? ⟨gb461, 1, none⟩ = some (.int .i64 t455) := B.bc BK461 1
        have hcz35_2 : w23.cell? ⟨gb461, 2, none⟩ = some (.int .i64 t456) := B.bc BK461 2
        have hcz35_3 : w23.cell? ⟨gb461, 3, none⟩ = some (.slice Ao19 t457.length co19) := B.bc BK461 3
        have hfz35_0 := blk_frozen BK461.out 0
        have hfz35_1 := blk_frozen BK461.out 1
        have hfz35_2 := blk_frozen BK461.out 2
        have hfz35_3 := blk_frozen BK461.out 3
        have hnb36 := NB469_452.out
        have hnc36 := NB452_469.out
        have hnb37 := NB469_453.out
        have hnc37 := NB453_469.out
        have hcz38_0 : w23.cell? ⟨gb469, 0, none⟩ = some (.int .i64 0) := B.bc BK469 0
        have hcz38_1 : w23.cell? ⟨gb469, 1, none⟩ = some (.int .i64 0) := B.bc BK469 1
        have hcz38_2 : w23.cell? ⟨gb469, 2, none⟩ = some (.int .i64 0) := B.bc BK469 2
        have hcz38_3 : w23.cell? ⟨gb469, 3, none⟩ = some (.slice none 0 0) := B.bc BK469 3
        have hfz38_0 := blk_frozen BK469.out 0
        have hfz38_1 := blk_frozen BK469.out 1
        have hfz38_2 := blk_frozen BK469.out 2
        have hfz38_3 := blk_frozen BK469.out 3
        go_wp2_with (first | ((with_reducible refine gate_callee (f := 17) rfl ?_); refine goesL_ (some 35) rfl rfl Try.func17 (by kernel_rfl) rfl #[.agg #[.int .i64 t454, .int .i64 t455, .int .i64 t456, .slice Ao19 t457.length co19], .agg #[.int .i64 t462, .int .i64 t463, .int .i64 t464, .slice Ao28 t465.length co28]] rfl B.am ?_; (with_reducible refine (laws_equalImage.calls k t454 t455 t456 _ _ t457 t462 t463 t464 _ _ t465 true _ ?side1 ?side2 ?side3 ?side4 A29.out).mono ?_); (case side1 => refine (Kd.R_reads' (e := 3) (base := w.heap.size) (ok := fun k_ => ((True ∧ some k_ ≠ (.slice Ao12 t445.length co12 : Value).ownBlock) ∧ some k_ ≠ (.slice Ao28 t465.length co28 : Value).ownBlock)) (n := t457.length) (c := co19) ?_).2.2; exact (B.kr0 (B.rs4 HO459 BK469))); (case side2 => exact (Kd.R_reads' HO459.out).2.1); (case side3 => refine (Kd.R_reads' (e := 3) (base := w.heap.size) (ok := fun k_ => ((True ∧ some k_ ≠ (.slice Ao12 t445.length co12 : Value).ownBlock) ∧ some k_ ≠ (.slice Ao19 t457.length co19 : Value).ownBlock)) (n := t465.length) (c := co28) ?_).2.2; exact (B.kr0 (B.rs4 HO467 BK469))); (case side4 => exact (Kd.R_reads' HO467.out).2.1); rintro e w39 ⟨rfl, hb⟩; refine ⟨_, rfl, ?_⟩; have n0_ := Aside0.mk (Kd.Q_below (by (with_reducible repeat (first | apply Kd.Q_alloc | apply Kd.Q_drewN | apply Kd.Q_drew)); exact (Kd.Q_mono (Kd.Q_far (p := ⟨gb469, 3, none⟩) (Kd.Q_far (p := ⟨gb469, 2, none⟩) (Kd.Q_far (p := ⟨gb469, 1, none⟩) (Kd.Q_far (p := ⟨gb469, 0, none⟩) (Kd.Q_types HO447.out BK469.out (by decide)) (fun _ hk => hk.2) (.int .i64 t462)) (fun _ hk => hk.2) (.int .i64 t463)) (fun _ hk => hk.2) (.int .i64 t464)) (fun _ hk => hk.2) (.slice Ao28 t465.length co28)) (fun _ h_ => h_.1))) hb); have n1_ := Aside0.mk (Kd.R_below (B.kr0 (B.rs4 HO459 BK469)) hb); have n2_ := Aside0.mk (Kd.R_below (B.kr0 (B.rs4 HO467 BK469)) hb); have n3_ := Aside0.mk (blk_below (B.kb0 (B.bf4 BK452 NB452_469)) hb); have n4_ := Aside0.mk (blk_below (B.kb0 (B.bf4 BK453 NB453_469)) hb); have n5_ := Aside0.mk (blk_below (B.kb0 (B.bf4 BK461 NB461_469)) hb); have n6_ := Aside0.mk (blk_below (g := gb469) (o := .cells #[.int .i64 t462, .int .i64 t463, .int .i64 t464, .slice Ao28 t465.length co28] 28 (0, 0)) (B.kb0 (B.bp4 BK469)) hb); have n7_ := Aside0.mk (below_step (B.bl HB) hb); clear HO447 HO459 HO467 BK452 BK453 BK461 BK469 HB; have HO447 := n0_; have HO459 := n1_; have HO467 := n2_; have BK452 := n3_; have BK453 := n4_; have BK461 := n5_; have BK469 := n6_; have HB := n7_; clear n0_ n1_ n2_ n3_ n4_ n5_ n6_ n7_; (try clear hb); (try clear hb2); (try clear hk); (try clear hi)))
        go_meet
        case rel => exact ⟨_, (true), (by first | rfl | (simp; done) | (simp [*]; done)), H', ⟨by first | omega | exact Nat.le_refl _⟩, ⟨by (with_reducible repeat (first | apply Kd.Q_alloc | apply Kd.Q_drewN | apply Kd.Q_drew)); exact Kd.Q_mono HO447.out (fun _ hk => ⟨hk.1.2, hk.2⟩)⟩, ⟨Kd.Q_of_R (B.kr0 (Kd.R_mono HO459.out (fun _ hk => ⟨hk.1.2, hk.2⟩)))⟩, ⟨Kd.Q_of_R (B.kr0 (Kd.R_mono HO467.out (fun _ hk => ⟨hk.1.2, hk.2⟩)))⟩, ⟨B.kb BK452⟩, ⟨B.kb BK453⟩, ⟨B.kb BK461⟩, ⟨B.kb BK469⟩, ⟨B.bl HB⟩⟩
      rw [if_neg c31] at H
      have c31b0 : (t460 != t468) = false := by simpa using c31
      (try (have c31b1 : decide (t460 = t468) = true := by simpa using c31))
      (try (have c31b2 : (t460 == t468) = true := by simpa using c31))
      clear c31
      (first | rw [c31b0] | (simp only [i64_w, i32_w]; rw [c31b0]) | skip)
      by_cases c40 : t460 = true
      · subst c40
        have H1 : (laws_FnCropImageTwice.j0 k true t468 (decide (t450 < 2)) t442 t443 t444 t445 t448 t449 t450 t451 t454 t455 t456 t457 t462 t463 t464 t465) = some r := by rw [if_pos rfl] at H; exact H
        clear H
        have H := H1
        clear H1
        have H' := Aside0.mk H
        clear H
        have hnb41 := NB461_452.out
        have hnc41 := NB452_461.out
        have hnb42 := NB461_453.out
        have hnc42 := NB453_461.out
        have hnb43 := NB461_469.out
        have hnc43 := NB469_461.out
        have hcz44_0 : w23.cell? ⟨gb461, 0, none⟩ = some (.int .i64 t454) := B.bc BK461 0
        have hcz44_1 : w23.cell? ⟨gb461, 1, none⟩ = some (.int .i64 t455) := B.bc BK461 1
        have hcz44_2 : w23.cell? ⟨gb461, 2, none⟩ = some (.int .i64 t456) := B.bc BK461 2
        have hcz44_3 : w23.cell? ⟨gb461, 3, none⟩ = some (.slice Ao19 t457.length co19) := B.bc BK461 3
        have hfz44_0 := blk_frozen BK461.out 0
        have hfz44_1 := blk_frozen BK461.out 1
        have hfz44_2 := blk_frozen BK461.out 2
        have hfz44_3 := blk_frozen BK461.out 3
        have hnb45 := NB469_452.out
        have hnc45 := NB452_469.out
        have hnb46 := NB469_453.out
        have hnc46 := NB453_469.out
        have hcz47_0 : w23.cell? ⟨gb469, 0, none⟩ = some (.int .i64 0) := B.bc BK469 0
        have hcz47_1 : w23.cell? ⟨gb469, 1, none⟩ = some (.int .i64 0) := B.bc BK469 1
        have hcz47_2 : w23.cell? ⟨gb469, 2, none⟩ = some (.int .i64 0) := B.bc BK469 2
        have hcz47_3 : w23.cell? ⟨gb469, 3, none⟩ = some (.slice none 0 0) := B.bc BK469 3
        have hfz47_0 := blk_frozen BK469.out 0
        have hfz47_1 := blk_frozen BK469.out 1
        have hfz47_2 := blk_frozen BK469.out 2
        have hfz47_3 := blk_frozen BK469.out 3
        go_wp2_with (first | ((with_reducible refine gate_callee (f := 17) rfl ?_); refine goesL_ (some 35) rfl rfl Try.func17 (by kernel_rfl) rfl #[.agg #[.int .i64 t454, .int .i64 t455, .int .i64 t456, .slice Ao19 t457.length co19], .agg #[.int .i64 t462, .int .i64 t463, .int .i64 t464, .slice Ao28 t465.length co28]] rfl B.am ?_; (with_reducible refine (laws_equalImage.calls k t454 t455 t456 _ _ t457 t462 t463 t464 _ _ t465 true _ ?side1 ?side2 ?side3 ?side4 A29.out).mono ?_); (case side1 => refine (Kd.R_reads' (e := 3) (base := w.heap.size) (ok := fun k_ => ((True ∧ some k_ ≠ (.slice Ao12 t445.length co12 : Value).ownBlock) ∧ some k_ ≠ (.slice Ao28 t465.length co28 : Value).ownBlock)) (n := t457.length) (c := co19) ?_).2.2; exact (B.kr0 (B.rs4 HO459 BK469))); (case side2 => exact (Kd.R_reads' HO459.out).2.1); (case side3 => refine (Kd.R_reads' (e := 3) (base := w.heap.size) (ok := fun k_ => ((True ∧ some k_ ≠ (.slice Ao12 t445.length co12 : Value).ownBlock) ∧ some k_ ≠ (.slice Ao19 t457.length co19 : Value).ownBlock)) (n := t465.length) (c := co28) ?_).2.2; exact (B.kr0 (B.rs4 HO467 BK469))); (case side4 => exact (Kd.R_reads' HO467.out).2.1); rintro e w48 ⟨rfl, hb⟩; refine ⟨_, rfl, ?_⟩; have n0_ := Aside0.mk (Kd.Q_below (by (with_reducible repeat (first | apply Kd.Q_alloc | apply Kd.Q_drewN | apply Kd.Q_drew)); exact (Kd.Q_mono (Kd.Q_far (p := ⟨gb469, 3, none⟩) (Kd.Q_far (p := ⟨gb469, 2, none⟩) (Kd.Q_far (p := ⟨gb469, 1, none⟩) (Kd.Q_far (p := ⟨gb469, 0, none⟩) (Kd.Q_types HO447.out BK469.out (by decide)) (fun _ hk => hk.2) (.int .i64 t462)) (fun _ hk => hk.2) (.int .i64 t463)) (fun _ hk => hk.2) (.int .i64 t464)) (fun _ hk => hk.2) (.slice Ao28 t465.length co28)) (fun _ h_ => h_.1))) hb); have n1_ := Aside0.mk (Kd.R_below (B.kr0 (B.rs4 HO459 BK469)) hb); have n2_ := Aside0.mk (Kd.R_below (B.kr0 (B.rs4 HO467 BK469)) hb); have n3_ := Aside0.mk (blk_below (B.kb0 (B.bf4 BK452 NB452_469)) hb); have n4_ := Aside0.mk (blk_below (B.kb0 (B.bf4 BK453 NB453_469)) hb); have n5_ := Aside0.mk (blk_below (B.kb0 (B.bf4 BK461 NB461_469)) hb); have n6_ := Aside0.mk (blk_below (g := gb469) (o := .cells #[.int .i64 t462, .int .i64 t463, .int .i64 t464, .slice Ao28 t465.length co28] 28 (0, 0)) (B.kb0 (B.bp4 BK469)) hb); have n7_ := Aside0.mk (below_step (B.bl HB) hb); clear HO447 HO459 HO467 BK452 BK453 BK461 BK469 HB; have HO447 := n0_; have HO459 := n1_; have HO467 := n2_; have BK452 := n3_; have BK453 := n4_; have BK461 := n5_; have BK469 := n6_; have HB := n7_; clear n0_ n1_ n2_ n3_ n4_ n5_ n6_ n7_; (try clear hb); (try clear hb2); (try clear hk); (try clear hi); have hnb49 := NB453_452.out; have hnc49 := NB452_453.out; have hcz50_0 : w48.cell? ⟨gb453, 0, none⟩ = some (.int .i64 t448) := B.bc BK453 0; have hcz50_1 : w48.cell? ⟨gb453, 1, none⟩ = some (.int .i64 t449) := B.bc BK453 1; have hcz50_2 : w48.cell? ⟨gb453, 2, none⟩ = some (.int .i64 t450) := B.bc BK453 2; have hcz50_3 : w48.cell? ⟨gb453, 3, none⟩ = some (.int .i64 t451) := B.bc BK453 3; have hfz50_0 := blk_frozen BK453.out 0; have hfz50_1 := blk_frozen BK453.out 1; have hfz50_2 := blk_frozen BK453.out 2; have hfz50_3 := blk_frozen BK453.out 3))
        go_meet
        case rel => exact ⟨_, (decide (t450 < 2)), (by first | rfl | (simp; done) | (simp [*]; done)), H', ⟨by first | omega | exact Nat.le_refl _⟩, ⟨by (with_reducible repeat (first | apply Kd.Q_alloc | apply Kd.Q_drewN | apply Kd.Q_drew)); exact Kd.Q_mono HO447.out (fun _ hk => ⟨hk.1.2, hk.2⟩)⟩, ⟨Kd.Q_of_R (B.kr0 (Kd.R_mono HO459.out (fun _ hk => ⟨hk.1.2, hk.2⟩)))⟩, ⟨Kd.Q_of_R (B.kr0 (Kd.R_mono HO467.out (fun _ hk => ⟨hk.1.2, hk.2⟩)))⟩, ⟨B.kb BK452⟩, ⟨B.kb BK453⟩, ⟨B.kb BK461⟩, ⟨B.kb BK469⟩, ⟨B.bl HB⟩⟩
      replace c40 := Bool.eq_false_iff.mpr c40
      subst c40
      have H1 : (laws_FnCropImageTwice.j0 k false t468 true t442 t443 t444 t445 t448 t449 t450 t451 t454 t455 t456 t457 t462 t463 t464 t465) = some r := by rw [if_neg (show ¬ (false = true) by decide)] at H; exact H
      clear H
      have H := H1
      clear H1
      have H' := Aside0.mk H
      clear H
      have hnb51 := NB461_452.out
      have hnc51 := NB452_461.out
      have hnb52 := NB461_453.out
      have hnc52 := NB453_461.out
      have hnb53 := NB461_469.out
      have hnc53 := NB469_461.out
      have hcz54_0 : w23.cell? ⟨gb461, 0, none⟩ = some (.int .i64 t454) := B.bc BK461 0
      have hcz54_1 : w23.cell? ⟨gb461, 1, none⟩ = some (.int .i64 t455) := B.bc BK461 1
      have hcz54_2 : w23.cell? ⟨gb461, 2, none⟩ = some (.int .i64 t456) := B.bc BK461 2
      have hcz54_3 : w23.cell? ⟨gb461, 3, none⟩ = some (.slice Ao19 t457.length co19) := B.bc BK461 3
      have hfz54_0 := blk_frozen BK461.out 0
      have hfz54_1 := blk_frozen BK461.out 1
      have hfz54_2 := blk_frozen BK461.out 2
      have hfz54_3 := blk_frozen BK461.out 3
      have hnb55 := NB469_452.out
      have hnc55 := NB452_469.out
      have hnb56 := NB469_453.out
      have hnc56 := NB453_469.out
      have hcz57_0 : w23.cell? ⟨gb469, 0, none⟩ = some (.int .i64 0) := B.bc BK469 0
      have hcz57_1 : w23.cell? ⟨gb469, 1, none⟩ = some (.int .i64 0) := B.bc BK469 1
      have hcz57_2 : w23.cell? ⟨gb469, 2, none⟩ = some (.int .i64 0) := B.bc BK469 2
      have hcz57_3 : w23.cell? ⟨gb469, 3, none⟩ = some (.slice none 0 0) := B.bc BK469 3
      have hfz57_0 := blk_frozen BK469.out 0
      have hfz57_1 := blk_frozen BK469.out 1
      have hfz57_2 := blk_frozen BK469.out 2
      have hfz57_3 := blk_frozen BK469.out 3
      go_wp2_with (first | ((with_reducible refine gate_callee (f := 17) rfl ?_); refine goesL_ (some 35) rfl rfl Try.func17 (by kernel_rfl) rfl #[.agg #[.int .i64 t454, .int .i64 t455, .int .i64 t456, .slice Ao19 t457.length co19], .agg #[.int .i64 t462, .int .i64 t463, .int .i64 t464, .slice Ao28 t465.length co28]] rfl B.am ?_; (with_reducible refine (laws_equalImage.calls k t454 t455 t456 _ _ t457 t462 t463 t464 _ _ t465 true _ ?side1 ?side2 ?side3 ?side4 A29.out).mono ?_); (case side1 => refine (Kd.R_reads' (e := 3) (base := w.heap.size) (ok := fun k_ => ((True ∧ some k_ ≠ (.slice Ao12 t445.length co12 : Value).ownBlock) ∧ some k_ ≠ (.slice Ao28 t465.length co28 : Value).ownBlock)) (n := t457.length) (c := co19) ?_).2.2; exact (B.kr0 (B.rs4 HO459 BK469))); (case side2 => exact (Kd.R_reads' HO459.out).2.1); (case side3 => refine (Kd.R_reads' (e := 3) (base := w.heap.size) (ok := fun k_ => ((True ∧ some k_ ≠ (.slice Ao12 t445.length co12 : Value).ownBlock) ∧ some k_ ≠ (.slice Ao19 t457.length co19 : Value).ownBlock)) (n := t465.length) (c := co28) ?_).2.2; exact (B.kr0 (B.rs4 HO467 BK469))); (case side4 => exact (Kd.R_reads' HO467.out).2.1); rintro e w58 ⟨rfl, hb⟩; refine ⟨_, rfl, ?_⟩; have n0_ := Aside0.mk (Kd.Q_below (by (with_reducible repeat (first | apply Kd.Q_alloc | apply Kd.Q_drewN | apply Kd.Q_drew)); exact (Kd.Q_mono (Kd.Q_far (p := ⟨gb469, 3, none⟩) (Kd.Q_far (p := ⟨gb469, 2, none⟩) (Kd.Q_far (p := ⟨gb469, 1, none⟩) (Kd.Q_far (p := ⟨gb469, 0, none⟩) (Kd.Q_types HO447.out BK469.out (by decide)) (fun _ hk => hk.2) (.int .i64 t462)) (fun _ hk => hk.2) (.int .i64 t463)) (fun _ hk => hk.2) (.int .i64 t464)) (fun _ hk => hk.2) (.slice Ao28 t465.length co28)) (fun _ h_ => h_.1))) hb); have n1_ := Aside0.mk (Kd.R_below (B.kr0 (B.rs4 HO459 BK469)) hb); have n2_ := Aside0.mk (Kd.R_below (B.kr0 (B.rs4 HO467 BK469)) hb); have n3_ := Aside0.mk (blk_below (B.kb0 (B.bf4 BK452 NB452_469)) hb); have n4_ := Aside0.mk (blk_below (B.kb0 (B.bf4 BK453 NB453_469)) hb); have n5_ := Aside0.mk (blk_below (B.kb0 (B.bf4 BK461 NB461_469)) hb); have n6_ := Aside0.mk (blk_below (g := gb469) (o := .cells #[.int .i64 t462, .int .i64 t463, .int .i64 t464, .slice Ao28 t465.length co28] 28 (0, 0)) (B.kb0 (B.bp4 BK469)) hb); have n7_ := Aside0.mk (below_step (B.bl HB) hb); clear HO447 HO459 HO467 BK452 BK453 BK461 BK469 HB; have HO447 := n0_; have HO459 := n1_; have HO467 := n2_; have BK452 := n3_; have BK453 := n4_; have BK461 := n5_; have BK469 := n6_; have HB := n7_; clear n0_ n1_ n2_ n3_ n4_ n5_ n6_ n7_; (try clear hb); (try clear hb2); (try clear hk); (try clear hi)))
      go_meet
      case rel => exact ⟨_, (true), (by first | rfl | (simp; done) | (simp [*]; done)), H', ⟨by first | omega | exact Nat.le_refl _⟩, ⟨by (with_reducible repeat (first | apply Kd.Q_alloc | apply Kd.Q_drewN | apply Kd.Q_drew)); exact Kd.Q_mono HO447.out (fun _ hk => ⟨hk.1.2, hk.2⟩)⟩, ⟨Kd.Q_of_R (B.kr0 (Kd.R_mono HO459.out (fun _ hk => ⟨hk.1.2, hk.2⟩)))⟩, ⟨Kd.Q_of_R (B.kr0 (Kd.R_mono HO467.out (fun _ hk => ⟨hk.1.2, hk.2⟩)))⟩, ⟨B.kb BK452⟩, ⟨B.kb BK453⟩, ⟨B.kb BK461⟩, ⟨B.kb BK469⟩, ⟨B.bl HB⟩⟩
    replace c30 := Bool.eq_false_iff.mpr c30
    subst c30
    have H1 : (laws_FnCropImageTwice.j0 k t460 t468 true t442 t443 t444 t445 t448 t449 t450 t451 t454 t455 t456 t457 t462 t463 t464 t465) = some r := by rw [if_neg (show ¬ (false = true) by decide)] at H; exact H
    clear H
    have H := H1
    clear H1
    have H' := Aside0.mk H
    clear H
    have hnb59 := NB461_452.out
    have hnc59 := NB452_461.out
    have hnb60 := NB461_453.out
    have hnc60 := NB453_461.out
    have hnb61 := NB461_469.out
    have hnc61 := NB469_461.out
    have hcz62_0 : w23.cell? ⟨gb461, 0, none⟩ = some (.int .i64 t454) := B.bc BK461 0
    have hcz62_1 : w23.cell? ⟨gb461, 1, none⟩ = some (.int .i64 t455) := B.bc BK461 1
    have hcz62_2 : w23.cell? ⟨gb461, 2, none⟩ = some (.int .i64 t456) := B.bc BK461 2
    have hcz62_3 : w23.cell? ⟨gb461, 3, none⟩ = some (.slice Ao19 t457.length co19) := B.bc BK461 3
    have hfz62_0 := blk_frozen BK461.out 0
    have hfz62_1 := blk_frozen BK461.out 1
    have hfz62_2 := blk_frozen BK461.out 2
    have hfz62_3 := blk_frozen BK461.out 3
    have hnb63 := NB469_452.out
    have hnc63 := NB452_469.out
    have hnb64 := NB469_453.out
    have hnc64 := NB453_469.out
    have hcz65_0 : w23.cell? ⟨gb469, 0, none⟩ = some (.int .i64 0) := B.bc BK469 0
    have hcz65_1 : w23.cell? ⟨gb469, 1, none⟩ = some (.int .i64 0) := B.bc BK469 1
    have hcz65_2 : w23.cell? ⟨gb469, 2, none⟩ = some (.int .i64 0) := B.bc BK469 2
    have hcz65_3 : w23.cell? ⟨gb469, 3, none⟩ = some (.slice none 0 0) := B.bc BK469 3
    have hfz65_0 := blk_frozen BK469.out 0
    have hfz65_1 := blk_frozen BK469.out 1
    have hfz65_2 := blk_frozen BK469.out 2
    have hfz65_3 := blk_frozen BK469.out 3
    go_wp2_with (first | ((with_reducible refine gate_callee (f := 17) rfl ?_); refine goesL_ (some 35) rfl rfl Try.func17 (by kernel_rfl) rfl #[.agg #[.int .i64 t454, .int .i64 t455, .int .i64 t456, .slice Ao19 t457.length co19], .agg #[.int .i64 t462, .int .i64 t463, .int .i64 t464, .slice Ao28 t465.length co28]] rfl B.am ?_; (with_reducible refine (laws_equalImage.calls k t454 t455 t456 _ _ t457 t462 t463 t464 _ _ t465 false _ ?side1 ?side2 ?side3 ?side4 A29.out).mono ?_); (case side1 => refine (Kd.R_reads' (e := 3) (base := w.heap.size) (ok := fun k_ => ((True ∧ some k_ ≠ (.slice Ao12 t445.length co12 : Value).ownBlock) ∧ some k_ ≠ (.slice Ao28 t465.length co28 : Value).ownBlock)) (n := t457.length) (c := co19) ?_).2.2; exact (B.kr0 (B.rs4 HO459 BK469))); (case side2 => exact (Kd.R_reads' HO459.out).2.1); (case side3 => refine (Kd.R_reads' (e := 3) (base := w.heap.size) (ok := fun k_ => ((True ∧ some k_ ≠ (.slice Ao12 t445.length co12 : Value).ownBlock) ∧ some k_ ≠ (.slice Ao19 t457.length co19 : Value).ownBlock)) (n := t465.length) (c := co28) ?_).2.2; exact (B.kr0 (B.rs4 HO467 BK469))); (case side4 => exact (Kd.R_reads' HO467.out).2.1); rintro e w66 ⟨rfl, hb⟩; refine ⟨_, rfl, ?_⟩; have n0_ := Aside0.mk (Kd.Q_below (by (with_reducible repeat (first | apply Kd.Q_alloc | apply Kd.Q_drewN | apply Kd.Q_drew)); exact (Kd.Q_mono (Kd.Q_far (p := ⟨gb469, 3, none⟩) (Kd.Q_far (p := ⟨gb469, 2, none⟩) (Kd.Q_far (p := ⟨gb469, 1, none⟩) (Kd.Q_far (p := ⟨gb469, 0, none⟩) (Kd.Q_types HO447.out BK469.out (by decide)) (fun _ hk => hk.2) (.int .i64 t462)) (fun _ hk => hk.2) (.int .i64 t463)) (fun _ hk => hk.2) (.int .i64 t464)) (fun _ hk => hk.2) (.slice Ao28 t465.length co28)) (fun _ h_ => h_.1))) hb); have n1_ := Aside0.mk (Kd.R_below (B.kr0 (B.rs4 HO459 BK469)) hb); have n2_ := Aside0.mk (Kd.R_below (B.kr0 (B.rs4 HO467 BK469)) hb); have n3_ := Aside0.mk (blk_below (B.kb0 (B.bf4 BK452 NB452_469)) hb); have n4_ := Aside0.mk (blk_below (B.kb0 (B.bf4 BK453 NB453_469)) hb); have n5_ := Aside0.mk (blk_below (B.kb0 (B.bf4 BK461 NB461_469)) hb); have n6_ := Aside0.mk (blk_below (g := gb469) (o := .cells #[.int .i64 t462, .int .i64 t463, .int .i64 t464, .slice Ao28 t465.length co28] 28 (0, 0)) (B.kb0 (B.bp4 BK469)) hb); have n7_ := Aside0.mk (below_step (B.bl HB) hb); clear HO447 HO459 HO467 BK452 BK453 BK461 BK469 HB; have HO447 := n0_; have HO459 := n1_; have HO467 := n2_; have BK452 := n3_; have BK453 := n4_; have BK461 := n5_; have BK469 := n6_; have HB := n7_; clear n0_ n1_ n2_ n3_ n4_ n5_ n6_ n7_; (try clear hb); (try clear hb2); (try clear hk); (try clear hi)))
    go_meet
    case rel => exact ⟨_, (true), (by first | rfl | (simp; done) | (simp [*]; done)), H', ⟨by first | omega | exact Nat.le_refl _⟩, ⟨by (with_reducible repeat (first | apply Kd.Q_alloc | apply Kd.Q_drewN | apply Kd.Q_drew)); exact Kd.Q_mono HO447.out (fun _ hk => ⟨hk.1.2, hk.2⟩)⟩, ⟨Kd.Q_of_R (B.kr0 (Kd.R_mono HO459.out (fun _ hk => ⟨hk.1.2, hk.2⟩)))⟩, ⟨Kd.Q_of_R (B.kr0 (Kd.R_mono HO467.out (fun _ hk => ⟨hk.1.2, hk.2⟩)))⟩, ⟨B.kb BK452⟩, ⟨B.kb BK453⟩, ⟨B.kb BK461⟩, ⟨B.kb BK469⟩, ⟨B.bl HB⟩⟩
  case rest =>
    clear HC6
    try clear c1
    try clear c2
    try clear c2b0
    try clear c2b1
    try clear p2
    try clear c3
    try clear c4
    try clear c5
    try clear c6
    try clear c9
    try clear c10
    try clear c12
    try clear c16
    try clear c17
    try clear c24
    try clear c25
    try clear c26
    try clear c30
    try clear c31
    try clear c31b0
    try clear c31b1
    try clear c31b2
    try clear c32
    try clear c33
    try clear c34
    try clear c36
    try clear c37
    try clear c40
    try clear c41
    try clear c42
    try clear c43
    try clear c45
    try clear c46
    try clear c49
    try clear c51
    try clear c52
    try clear c53
    try clear c55
    try clear c56
    try clear c59
    try clear c60
    try clear c61
    try clear c63
    try clear c64
    try clear hcz11_0
    try clear hcz11_1
    try clear hcz11_2
    try clear hcz11_3
    try clear hcz13_0
    try clear hcz13_1
    try clear hcz13_2
    try clear hcz13_3
    try clear hcz18_0
    try clear hcz18_1
    try clear hcz18_2
    try clear hcz18_3
    try clear hcz20_0
    try clear hcz20_1
    try clear hcz20_2
    try clear hcz20_3
    try clear hcz21_0
    try clear hcz21_1
    try clear hcz21_2
    try clear hcz21_3
    try clear hcz27_0
    try clear hcz27_1
    try clear hcz27_2
    try clear hcz27_3
    try clear hcz35_0
    try clear hcz35_1
    try clear hcz35_2
    try clear hcz35_3
    try clear hcz38_0
    try clear hcz38_1
    try clear hcz38_2
    try clear hcz38_3
    try clear hcz44_0
    try clear hcz44_1
    try clear hcz44_2
    try clear hcz44_3
    try clear hcz47_0
    try clear hcz47_1
    try clear hcz47_2
    try clear hcz47_3
    try clear hcz50_0
    try clear hcz50_1
    try clear hcz50_2
    try clear hcz50_3
    try clear hcz54_0
    try clear hcz54_1
    try clear hcz54_2
    try clear hcz54_3
    try clear hcz57_0
    try clear hcz57_1
    try clear hcz57_2
    try clear hcz57_3
    try clear hcz62_0
    try clear hcz62_1
    try clear hcz62_2
    try clear hcz62_3
    try clear hcz65_0
    try clear hcz65_1
    try clear hcz65_2
    try clear hcz65_3
    try clear hfz11_0
    try clear hfz11_1
    try clear hfz11_2
    try clear hfz11_3
    try clear hfz13_0
    try clear hfz13_1
    try clear hfz13_2
    try clear hfz13_3
    try clear hfz18_0
    try clear hfz18_1
    try clear hfz18_2
    try clear hfz18_3
    try clear hfz20_0
    try clear hfz20_1
    try clear hfz20_2
    try clear hfz20_3
    try clear hfz21_0
    try clear hfz21_1
    try clear hfz21_2
    try clear hfz21_3
    try clear hfz27_0
    try clear hfz27_1
    try clear hfz27_2
    try clear hfz27_3
    try clear hfz35_0
    try clear hfz35_1
    try clear hfz35_2
    try clear hfz35_3
    try clear hfz38_0
    try clear hfz38_1
    try clear hfz38_2
    try clear hfz38_3
    try clear hfz44_0
    try clear hfz44_1
    try clear hfz44_2
    try clear hfz44_3
    try clear hfz47_0
    try clear hfz47_1
    try clear hfz47_2
    try clear hfz47_3
    try clear hfz50_0
    try clear hfz50_1
    try clear hfz50_2
    try clear hfz50_3
    try clear hfz54_0
    try clear hfz54_1
    try clear hfz54_2
    try clear hfz54_3
    try clear hfz57_0
    try clear hfz57_1
    try clear hfz57_2
    try clear hfz57_3
    try clear hfz62_0
    try clear hfz62_1
    try clear hfz62_2
    try clear hfz62_3
    try clear hfz65_0
    try clear hfz65_1
    try clear hfz65_2
    try clear hfz65_3
    obtain ⟨kq, x50_5, rfl, HA, HJ5, HO_453003, HO_462003, HO_470003, BK452, BK453, BK461, BK469, HB⟩ := hcut
    cases kq with
    | zero => exact absurd HA.out (by simp [laws_FnCropImageTwice.j0])
    | succ kj5 =>
      have H := HA.out
      clear HA
      simp only [laws_FnCropImageTwice.j0] at H
      by_cases c67 : x50_5 = true
      · subst c67
        have H1 : ((laws_equalImage.f kj5 t454 t455 t456 t457 t462 t463 t464 t465).bind fun t471 => (if t471 = true then (some (t460 == t468)) else (some false))) = some r := by rw [if_pos rfl] at H; exact H
        clear H
        have H := H1
        clear H1
        replace H := Option.bind_eq_some_iff.mp H
        obtain ⟨t471, A680, H⟩ := H
        replace H : (if t471 = true then (some (t460 == t468)) else (some false)) = some r := H
        have A68 := Aside0.mk A680
        clear A680
        by_cases c69 : t471 = true
        · subst c69
          have H1 : (some (t460 == t468)) = some r := by rw [if_pos rfl] at H; exact H
          clear H
          have H := H1
          clear H1
          obtain rfl := Option.some.inj H
          simp only [Option.some.injEq, Prod.mk.injEq] at H
          obtain ⟨rfl⟩ := H
          have hnb70 := NB461_452.out
          have hnc70 := NB452_461.out
          have hnb71 := NB461_453.out
          have hnc71 := NB453_461.out
          have hnb72 := NB461_469.out
          have hnc72 := NB469_461.out
          have hcz73_0 : wc.cell? ⟨gb461, 0, none⟩ = some (.int .i64 t454) := B.bc BK461 0
          have hcz73_1 : wc.cell? ⟨gb461, 1, none⟩ = some (.int .i64 t455) := B.bc BK461 1
          have hcz73_2 : wc.cell? ⟨gb461, 2, none⟩ = some (.int .i64 t456) := B.bc BK461 2
          have hcz73_3 : wc.cell? ⟨gb461, 3, none⟩ = some (.slice Ao19 t457.length co19) := B.bc BK461 3
          have hfz73_0 := blk_frozen BK461.out 0
          have hfz73_1 := blk_frozen BK461.out 1
          have hfz73_2 := blk_frozen BK461.out 2
          have hfz73_3 := blk_frozen BK461.out 3
          have hnb74 := NB469_452.out
          have hnc74 := NB452_469.out
          have hnb75 := NB469_453.out
          have hnc75 := NB453_469.out
          have hcz76_0 : wc.cell? ⟨gb469, 0, none⟩ = some (.int .i64 t462) := B.bc BK469 0
          have hcz76_1 : wc.cell? ⟨gb469, 1, none⟩ = some (.int .i64 t463) := B.bc BK469 1
          have hcz76_2 : wc.cell? ⟨gb469, 2, none⟩ = some (.int .i64 t464) := B.bc BK469 2
          have hcz76_3 : wc.cell? ⟨gb469, 3, none⟩ = some (.slice Ao28 t465.length co28) := B.bc BK469 3
          have hfz76_0 := blk_frozen BK469.out 0
          have hfz76_1 := blk_frozen BK469.out 1
          have hfz76_2 := blk_frozen BK469.out 2
          have hfz76_3 := blk_frozen BK469.out 3
          go_wp2_with (first | ((with_reducible refine gate_callee (f := 17) rfl ?_); refine goesL_ (some 53) rfl rfl Try.func17 (by kernel_rfl) rfl #[.agg #[.int .i64 t454, .int .i64 t455, .int .i64 t456, .slice Ao19 t457.length co19], .agg #[.int .i64 t462, .int .i64 t463, .int .i64 t464, .slice Ao28 t465.length co28]] rfl B.am ?_; (with_reducible refine (laws_equalImage.calls kj5 t454 t455 t456 _ _ t457 t462 t463 t464 _ _ t465 true _ ?side1 ?side2 ?side3 ?side4 A68.out).mono ?_); (case side1 => exact B.kc ((Kd.Q_reads' HO_462003.out).2.2)); (case side2 => exact (Kd.Q_reads' HO_462003.out).2.1); (case side3 => exact B.kc ((Kd.Q_reads' HO_470003.out).2.2)); (case side4 => exact (Kd.Q_reads' HO_470003.out).2.1); rintro e w77 ⟨rfl, hb⟩; refine ⟨_, rfl, ?_⟩; have n0_ := Aside0.mk (Kd.Q_below (B.kq HO_453003) hb); have n1_ := Aside0.mk (Kd.Q_below (B.kq HO_462003) hb); have n2_ := Aside0.mk (Kd.Q_below (B.kq HO_470003) hb); have n3_ := Aside0.mk (blk_below (B.kb BK452) hb); have n4_ := Aside0.mk (blk_below (B.kb BK453) hb); have n5_ := Aside0.mk (blk_below (B.kb BK461) hb); have n6_ := Aside0.mk (blk_below (B.kb BK469) hb); have n7_ := Aside0.mk (below_step (B.bl HB) hb); clear HO_453003 HO_462003 HO_470003 BK452 BK453 BK461 BK469 HB; have HO_453003 := n0_; have HO_462003 := n1_; have HO_470003 := n2_; have BK452 := n3_; have BK453 := n4_; have BK461 := n5_; have BK469 := n6_; have HB := n7_; clear n0_ n1_ n2_ n3_ n4_ n5_ n6_ n7_; (try clear hb); (try clear hb2); (try clear hk); (try clear hi)))
          go_ret
          exact ⟨by first | rfl | (simp [errW_none, errW_some] <;> rfl) | (simp [*, errW_none, errW_some] <;> rfl), B.bl HB⟩
        replace c69 := Bool.eq_false_iff.mpr c69
        subst c69
        have H1 : (some false) = some r := by rw [if_neg (show ¬ (false = true) by decide)] at H; exact H
        clear H
        have H := H1
        clear H1
        obtain rfl := Option.some.inj H
        exact absurd ht_.out (by decide)
      replace c67 := Bool.eq_false_iff.mpr c67
      subst c67
      have H1 : ((impl_CropImage.f t454 t455 t456 t457 1 0 (wrap64 (t450 - 1)) t451).bind fun bt472 => ((impl_CropImage.f t442 t443 t444 t445 (wrap64 (t448 + 1)) t449 (wrap64 (t450 - 1)) t451).bind fun bt480 => (if bt472.2.2.2.2 = true then (if bt480.2.2.2.2 = true then ((laws_equalImage.f kj5 bt472.1 bt472.2.1 bt472.2.2.1 bt472.2.2.2.1 bt480.1 bt480.2.1 bt480.2.2.1 bt480.2.2.2.1).bind fun t488 => (some t488)) else (some false)) else (some false)))) = some r := by rw [if_neg (show ¬ (false = true) by decide)] at H; exact H
      clear H
      have H := H1
      clear H1
      replace H := Option.bind_eq_some_iff.mp H
      obtain ⟨⟨t472, t473, t474, t475, t478⟩, A780, H⟩ := H
      replace H : ((impl_CropImage.f t442 t443 t444 t445 (wrap64 (t448 + 1)) t449 (wrap64 (t450 - 1)) t451).bind fun bt480 => (if t478 = true then (if bt480.2.2.2.2 = true then ((laws_equalImage.f kj5 t472 t473 t474 t475 bt480.1 bt480.2.1 bt480.2.2.1 bt480.2.2.2.1).bind fun t488 => (some t488)) else (some false)) else (some false))) = some r := H
      have A78 := Aside0.mk A780
      clear A780
      replace H := Option.bind_eq_some_iff.mp H
      obtain ⟨⟨t480, t481, t482, t483, t486⟩, A790, H⟩ := H
      replace H : (if t478 = true then (if t486 = true then ((laws_equalImage.f kj5 t472 t473 t474 t475 t480 t481 t482 t483).bind fun t488 => (some t488)) else (some false)) else (some false)) = some r := H
      have A79 := Aside0.mk A790
      clear A790
      by_cases c80 : t478 = true
      · subst c80
        have H1 : (if t486 = true then ((laws_equalImage.f kj5 t472 t473 t474 t475 t480 t481 t482 t483).bind fun t488 => (some t488)) else (some false)) = some r := by rw [if_pos rfl] at H; exact H
        clear H
        have H := H1
        clear H1
        by_cases c81 : t486 = true
        · subst c81
          have H1 : ((laws_equalImage.f kj5 t472 t473 t474 t475 t480 t481 t482 t483).bind fun t488 => (some t488)) = some r := by rw [if_pos rfl] at H; exact H
          clear H
          have H := H1
          clear H1
          replace H := Option.bind_eq_some_iff.mp H
          obtain ⟨t488, A820, H⟩ := H
          replace H : (some t488) = some r := H
          have A82 := Aside0.mk A820
          clear A820
          obtain rfl := Option.some.inj H
          simp only [Option.some.injEq, Prod.mk.injEq] at H
          obtain ⟨rfl⟩ := H
          have hnb83 := NB461_452.out
          have hnc83 := NB452_461.out
          have hnb84 := NB461_453.out
          have hnc84 := NB453_461.out
          have hnb85 := NB461_469.out
          have hnc85 := NB469_461.out
          have hcz86_0 : wc.cell? ⟨gb461, 0, none⟩ = some (.int .i64 t454) := B.bc BK461 0
          have hcz86_1 : wc.cell? ⟨gb461, 1, none⟩ = some (.int .i64 t455) := B.bc BK461 1
          have hcz86_2 : wc.cell? ⟨gb461, 2, none⟩ = some (.int .i64 t456) := B.bc BK461 2
          have hcz86_3 : wc.cell? ⟨gb461, 3, none⟩ = some (.slice Ao19 t457.length co19) := B.bc BK461 3
          have hfz86_0 := blk_frozen BK461.out 0
          have hfz86_1 := blk_frozen BK461.out 1
          have hfz86_2 := blk_frozen BK461.out 2
          have hfz86_3 := blk_frozen BK461.out 3
          have hnb87 := NB453_452.out
          have hnc87 := NB452_453.out
          have hnb88 := NB453_469.out
          have hnc88 := NB469_453.out
          have hcz89_0 : wc.cell? ⟨gb453, 0, none⟩ = some (.int .i64 t448) := B.bc BK453 0
          have hcz89_1 : wc.cell? ⟨gb453, 1, none⟩ = some (.int .i64 t449) := B.bc BK453 1
          have hcz89_2 : wc.cell? ⟨gb453, 2, none⟩ = some (.int .i64 t450) := B.bc BK453 2
          have hcz89_3 : wc.cell? ⟨gb453, 3, none⟩ = some (.int .i64 t451) := B.bc BK453 3
          have hfz89_0 := blk_frozen BK453.out 0
          have hfz89_1 := blk_frozen BK453.out 1
          have hfz89_2 := blk_frozen BK453.out 2
          have hfz89_3 := blk_frozen BK453.out 3
          go_wp2_with (first | ((with_reducible refine gate_callee (f := 12) rfl ?_); refine goesL_ (some 67) rfl rfl Try.func12 (by kernel_rfl) rfl #[.agg #[.int .i64 t454, .int .i64 t455, .int .i64 t456, .slice Ao19 t457.length co19], .agg #[.int .i64 1, .int .i64 0, .int .i64 (wrap64 (t450 - 1)), .int .i64 t451]] rfl B.am ?_; (with_reducible refine (impl_CropImage.calls t454 t455 t456 _ _ t457 1 0 (wrap64 (t450 - 1)) t451 t472 t473 t474 t475 true _ ?side1 ?side2 A78.out).mono ?_); (case side1 => exact B.kc ((Kd.Q_reads' HO_462003.out).2.2)); (case side2 => exact (Kd.Q_reads' HO_462003.out).2.1); rintro e w90 ⟨v476, rfl, ho0, hb⟩; refine ⟨_, rfl, ?_⟩; have n0_ := Aside0.mk (Kd.Q_elder' (B.kq HO_453003) (Kd.R_base ho0) hb); have n1_ := Aside0.mk (Kd.Q_elder' (B.kq HO_462003) (Kd.R_base ho0) hb); have n2_ := Aside0.mk (Kd.Q_elder' (B.kq HO_470003) (Kd.R_base ho0) hb); have n3_ := Aside0.mk (Kd.R_lower (Kd.R_new' (Kd.R_new' (Kd.R_new' ho0 (Kd.Q_lt (B.kq HO_453003))) (Kd.Q_lt (B.kq HO_462003))) (Kd.Q_lt (B.kq HO_470003))) (below_size (B.bl HB))); have n4_ := Aside0.mk (blk_below (B.kb BK452) hb); have n5_ := Aside0.mk (blk_below (B.kb BK453) hb); have n6_ := Aside0.mk (blk_below (B.kb BK461) hb); have n7_ := Aside0.mk (blk_below (B.kb BK469) hb); have n8_ := Aside0.mk (below_step (B.bl HB) hb); clear HO_453003 HO_462003 HO_470003 BK452 BK453 BK461 BK469 HB; have HO_453003 := n0_; have HO_462003 := n1_; have HO_470003 := n2_; have HO477 := n3_; have BK452 := n4_; have BK453 := n5_; have BK461 := n6_; have BK469 := n7_; have HB := n8_; clear n0_ n1_ n2_ n3_ n4_ n5_ n6_ n7_ n8_; (try clear hb); (try clear hb2); (try clear hk); (try clear hi); (try clear ho0)) | ((with_reducible refine gate_dst (N := 9) rfl ?_); refine box_event ?hg (N := 9) ?hd (cs := #[.int .i64 0, .int .i64 0, .int .i64 0, .slice none 0 0]) (t := 28) ?hr ?_; (case hd => rfl); (case hg => rfl); (case hr => first | (go_simp; done) | (go_simp; rfl)); intro gb479 hg w91 hbox hb; have n0_ := Aside0.mk (Kd.Q_below (B.kq HO_453003) hb); have n1_ := Aside0.mk (Kd.Q_below (B.kq HO_462003) hb); have n2_ := Aside0.mk (Kd.Q_below (B.kq HO_470003) hb); have n3_ := Aside0.mk (Kd.R_below (B.kr HO477) hb); have n4_ := Aside0.mk (blk_below (B.kb BK452) hb); have n5_ := Aside0.mk (blk_below (B.kb BK453) hb); have n6_ := Aside0.mk (blk_below (B.kb BK461) hb); have n7_ := Aside0.mk (blk_below (B.kb BK469) hb); have n8_ := Aside0.mk (below_step (B.bl HB) hb); have n9_ := Aside0.mk (hbox); have n10_ := Aside0.mk (B.nle hg (below_size (B.bl HB))); have n11_ := Aside0.mk (B.nle hg (below_size (B.bl HB))); have n12_ := Aside0.mk (B.nlt hg (blk_lt (B.kb BK452))); have n13_ := Aside0.mk (B.ngt hg (blk_lt (B.kb BK452))); have n14_ := Aside0.mk (B.nlt hg (blk_lt (B.kb BK453))); have n15_ := Aside0.mk (B.ngt hg (blk_lt (B.kb BK453))); have n16_ := Aside0.mk (B.nlt hg (blk_lt (B.kb BK461))); have n17_ := Aside0.mk (B.ngt hg (blk_lt (B.kb BK461))); have n18_ := Aside0.mk (B.nlt hg (blk_lt (B.kb BK469))); have n19_ := Aside0.mk (B.ngt hg (blk_lt (B.kb BK469))); clear HO_453003 HO_462003 HO_470003 HO477 BK452 BK453 BK461 BK469 HB; have HO_453003 := n0_; have HO_462003 := n1_; have HO_470003 := n2_; have HO477 := n3_; have BK452 := n4_; have BK453 := n5_; have BK461 := n6_; have BK469 := n7_; have HB := n8_; have BK479 := n9_; have GW479 := n10_; have GE479 := n11_; have NB452_479 := n12_; have NB479_452 := n13_; have NB453_479 := n14_; have NB479_453 := n15_; have NB461_479 := n16_; have NB479_461 := n17_; have NB469_479 := n18_; have NB479_469 := n19_; clear n0_ n1_ n2_ n3_ n4_ n5_ n6_ n7_ n8_ n9_ n10_ n11_ n12_ n13_ n14_ n15_ n16_ n17_ n18_ n19_; clear hb hbox hg; have hnb92 := NB479_452.out; have hnc92 := NB452_479.out; have hnb93 := NB479_453.out; have hnc93 := NB453_479.out; have hnb94 := NB479_461.out; have hnc94 := NB461_479.out; have hnb95 := NB479_469.out; have hnc95 := NB469_479.out; have hcz96_0 : w91.cell? ⟨gb479, 0, none⟩ = some (.int .i64 0) := B.bc BK479 0; have hcz96_1 : w91.cell? ⟨gb479, 1, none⟩ = some (.int .i64 0) := B.bc BK479 1; have hcz96_2 : w91.cell? ⟨gb479, 2, none⟩ = some (.int .i64 0) := B.bc BK479 2; have hcz96_3 : w91.cell? ⟨gb479, 3, none⟩ = some (.slice none 0 0) := B.bc BK479 3; have hfz96_0 := blk_frozen BK479.out 0; have hfz96_1 := blk_frozen BK479.out 1; have hfz96_2 := blk_frozen BK479.out 2; have hfz96_3 := blk_frozen BK479.out 3; obtain ⟨Ao97, co97, eo97⟩ := Kd.R_slice HO477.out; subst eo97; have hnb98 := NB452_469.out; have hnc98 := NB469_452.out; have hcz99_0 : w91.cell? ⟨gb452, 0, none⟩ = some (.int .i64 t442) := B.bc BK452 0; have hcz99_1 : w91.cell? ⟨gb452, 1, none⟩ = some (.int .i64 t443) := B.bc BK452 1; have hcz99_2 : w91.cell? ⟨gb452, 2, none⟩ = some (.int .i64 t444) := B.bc BK452 2; have hcz99_3 : w91.cell? ⟨gb452, 3, none⟩ = some (.slice Ao12 t445.length co12) := B.bc BK452 3; have hfz99_0 := blk_frozen BK452.out 0; have hfz99_1 := blk_frozen BK452.out 1; have hfz99_2 := blk_frozen BK452.out 2; have hfz99_3 := blk_frozen BK452.out 3; have hcz100_0 : w91.cell? ⟨gb453, 0, none⟩ = some (.int .i64 t448) := B.bc BK453 0; have hcz100_1 : w91.cell? ⟨gb453, 1, none⟩ = some (.int .i64 t449) := B.bc BK453 1; have hcz100_2 : w91.cell? ⟨gb453, 2, none⟩ = some (.int .i64 t450) := B.bc BK453 2; have hcz100_3 : w91.cell? ⟨gb453, 3, none⟩ = some (.int .i64 t451) := B.bc BK453 3; have hfz100_0 := blk_frozen BK453.out 0; have hfz100_1 := blk_frozen BK453.out 1; have hfz100_2 := blk_frozen BK453.out 2; have hfz100_3 := blk_frozen BK453.out 3) | ((with_reducible refine gate_callee (f := 12) rfl ?_); refine goesL_ (some 83) rfl rfl Try.func12 (by kernel_rfl) rfl #[.agg #[.int .i64 t442, .int .i64 t443, .int .i64 t444, .slice Ao12 t445.length co12], .agg #[.int .i64 (wrap64 (t448 + 1)), .int .i64 t449, .int .i64 (wrap64 (t450 - 1)), .int .i64 t451]] rfl B.am ?_; (with_reducible refine (impl_CropImage.calls t442 t443 t444 _ _ t445 (wrap64 (t448 + 1)) t449 (wrap64 (t450 - 1)) t451 t480 t481 t482 t483 true _ ?side1 ?side2 A79.out).mono ?_); (case side1 => refine (Kd.Q_reads' (e := 3) (base := w.heap.size) (ok := fun k_ => ((some k_ ≠ (.slice Ao19 t457.length co19 : Value).ownBlock ∧ some k_ ≠ (.slice Ao28 t465.length co28 : Value).ownBlock) ∧ some k_ ≠ (.slice Ao97 t475.length co97 : Value).ownBlock)) (n := t445.length) (c := co12) ?_).2.2; exact (by (with_reducible repeat (first | apply Kd.Q_alloc | apply Kd.Q_drewN | apply Kd.Q_drew)); exact (Kd.Q_mono (Kd.Q_far (p := ⟨gb479, 3, none⟩) (Kd.Q_far (p := ⟨gb479, 2, none⟩) (Kd.Q_far (p := ⟨gb479, 1, none⟩) (Kd.Q_far (p := ⟨gb479, 0, none⟩) (Kd.Q_types HO_453003.out BK479.out (by decide)) (fun _ hk => hk.2) (.int .i64 t472)) (fun _ hk => hk.2) (.int .i64 t473)) (fun _ hk => hk.2) (.int .i64 t474)) (fun _ hk => hk.2) (.slice Ao97 t475.length co97)) (fun _ h_ => h_.1)))); (case side2 => exact (Kd.Q_reads' HO_453003.out).2.1); rintro e w101 ⟨v484, rfl, ho0, hb⟩; refine ⟨_, rfl, ?_⟩; have n0_ := Aside0.mk (Kd.Q_elder' (by (with_reducible repeat (first | apply Kd.Q_alloc | apply Kd.Q_drewN | apply Kd.Q_drew)); exact (Kd.Q_mono (Kd.Q_far (p := ⟨gb479, 3, none⟩) (Kd.Q_far (p := ⟨gb479, 2, none⟩) (Kd.Q_far (p := ⟨gb479, 1, none⟩) (Kd.Q_far (p := ⟨gb479, 0, none⟩) (Kd.Q_types HO_453003.out BK479.out (by decide)) (fun _ hk => hk.2) (.int .i64 t472)) (fun _ hk => hk.2) (.int .i64 t473)) (fun _ hk => hk.2) (.int .i64 t474)) (fun _ hk => hk.2) (.slice Ao97 t475.length co97)) (fun _ h_ => h_.1))) (Kd.R_base ho0) hb); have n1_ := Aside0.mk (Kd.Q_elder' (by (with_reducible repeat (first | apply Kd.Q_alloc | apply Kd.Q_drewN | apply Kd.Q_drew)); exact (Kd.Q_mono (Kd.Q_far (p := ⟨gb479, 3, none⟩) (Kd.Q_far (p := ⟨gb479, 2, none⟩) (Kd.Q_far (p := ⟨gb479, 1, none⟩) (Kd.Q_far (p := ⟨gb479, 0, none⟩) (Kd.Q_types HO_462003.out BK479.out (by decide)) (fun _ hk => hk.2) (.int .i64 t472)) (fun _ hk => hk.2) (.int .i64 t473)) (fun _ hk => hk.2) (.int .i64 t474)) (fun _ hk => hk.2) (.slice Ao97 t475.length co97)) (fun _ h_ => h_.1))) (Kd.R_base ho0) hb); have n2_ := Aside0.mk (Kd.Q_elder' (by (with_reducible repeat (first | apply Kd.Q_alloc | apply Kd.Q_drewN | apply Kd.Q_drew)); exact (Kd.Q_mono (Kd.Q_far (p := ⟨gb479, 3, none⟩) (Kd.Q_far (p := ⟨gb479, 2, none⟩) (Kd.Q_far (p := ⟨gb479, 1, none⟩) (Kd.Q_far (p := ⟨gb479, 0, none⟩) (Kd.Q_types HO_470003.out BK479.out (by decide)) (fun _ hk => hk.2) (.int .i64 t472)) (fun _ hk => hk.2) (.int .i64 t473)) (fun _ hk => hk.2) (.int .i64 t474)) (fun _ hk => hk.2) (.slice Ao97 t475.length co97)) (fun _ h_ => h_.1))) (Kd.R_base ho0) hb); have n3_ := Aside0.mk (Kd.R_elder' (B.kr0 (B.rs4 HO477 BK479)) (Kd.R_base ho0) hb); have n4_ := Aside0.mk (Kd.R_lower (Kd.R_new' (Kd.R_new' (Kd.R_new' (Kd.R_new' ho0 (Kd.Q_lt (by (with_reducible repeat (first | apply Kd.Q_alloc | apply Kd.Q_drewN | apply Kd.Q_drew)); exact (Kd.Q_mono (Kd.Q_far (p := ⟨gb479, 3, none⟩) (Kd.Q_far (p := ⟨gb479, 2, none⟩) (Kd.Q_far (p := ⟨gb479, 1, none⟩) (Kd.Q_far (p := ⟨gb479, 0, none⟩) (Kd.Q_types HO_453003.out BK479.out (by decide)) (fun _ hk => hk.2) (.int .i64 t472)) (fun _ hk => hk.2) (.int .i64 t473)) (fun _ hk => hk.2) (.int .i64 t474)) (fun _ hk => hk.2) (.slice Ao97 t475.length co97)) (fun _ h_ => h_.1))))) (Kd.Q_lt (by (with_reducible repeat (first | apply Kd.Q_alloc | apply Kd.Q_drewN | apply Kd.Q_drew)); exact (Kd.Q_mono (Kd.Q_far (p := ⟨gb479, 3, none⟩) (Kd.Q_far (p := ⟨gb479, 2, none⟩) (Kd.Q_far (p := ⟨gb479, 1, none⟩) (Kd.Q_far (p := ⟨gb479, 0, none⟩) (Kd.Q_types HO_462003.out BK479.out (by decide)) (fun _ hk => hk.2) (.int .i64 t472)) (fun _ hk => hk.2) (.int .i64 t473)) (fun _ hk => hk.2) (.int .i64 t474)) (fun _ hk => hk.2) (.slice Ao97 t475.length co97)) (fun _ h_ => h_.1))))) (Kd.Q_lt (by (with_reducible repeat (first | apply Kd.Q_alloc | apply Kd.Q_drewN | apply Kd.Q_drew)); exact (Kd.Q_mono (Kd.Q_far (p := ⟨gb479, 3, none⟩) (Kd.Q_far (p := ⟨gb479, 2, none⟩) (Kd.Q_far (p := ⟨gb479, 1, none⟩) (Kd.Q_far (p := ⟨gb479, 0, none⟩) (Kd.Q_types HO_470003.out BK479.out (by decide)) (fun _ hk => hk.2) (.int .i64 t472)) (fun _ hk => hk.2) (.int .i64 t473)) (fun _ hk => hk.2) (.int .i64 t474)) (fun _ hk => hk.2) (.slice Ao97 t475.length co97)) (fun _ h_ => h_.1))))) (Kd.R_lt (B.kr0 (B.rs4 HO477 BK479)))) (below_size (B.bl HB))); have n5_ := Aside0.mk (blk_below (B.kb0 (B.bf4 BK452 NB452_479)) hb); have n6_ := Aside0.mk (blk_below (B.kb0 (B.bf4 BK453 NB453_479)) hb); have n7_ := Aside0.mk (blk_below (B.kb0 (B.bf4 BK461 NB461_479)) hb); have n8_ := Aside0.mk (blk_below (B.kb0 (B.bf4 BK469 NB469_479)) hb); have n9_ := Aside0.mk (blk_below (g := gb479) (o := .cells #[.int .i64 t472, .int .i64 t473, .int .i64 t474, .slice Ao97 t475.length co97] 28 (0, 0)) (B.kb0 (B.bp4 BK479)) hb); have n10_ := Aside0.mk (below_step (B.bl HB) hb); clear HO_453003 HO_462003 HO_470003 HO477 BK452 BK453 BK461 BK469 BK479 HB; have HO_453003 := n0_; have HO_462003 := n1_; have HO_470003 := n2_; have HO477 := n3_; have HO485 := n4_; have BK452 := n5_; have BK453 := n6_; have BK461 := n7_; have BK469 := n8_; have BK479 := n9_; have HB := n10_; clear n0_ n1_ n2_ n3_ n4_ n5_ n6_ n7_ n8_ n9_ n10_; (try clear hb); (try clear hb2); (try clear hk); (try clear hi); (try clear ho0)) | ((with_reducible refine gate_dst (N := 11) rfl ?_); refine box_event ?hg (N := 11) ?hd (cs := #[.int .i64 0, .int .i64 0, .int .i64 0, .slice none 0 0]) (t := 28) ?hr ?_; (case hd => rfl); (case hg => rfl); (case hr => first | (go_simp; done) | (go_simp; rfl)); intro gb487 hg w102 hbox hb; have n0_ := Aside0.mk (Kd.Q_below (B.kq HO_453003) hb); have n1_ := Aside0.mk (Kd.Q_below (B.kq HO_462003) hb); have n2_ := Aside0.mk (Kd.Q_below (B.kq HO_470003) hb); have n3_ := Aside0.mk (Kd.R_below (B.kr HO477) hb); have n4_ := Aside0.mk (Kd.R_below (B.kr HO485) hb); have n5_ := Aside0.mk (blk_below (B.kb BK452) hb); have n6_ := Aside0.mk (blk_below (B.kb BK453) hb); have n7_ := Aside0.mk (blk_below (B.kb BK461) hb); have n8_ := Aside0.mk (blk_below (B.kb BK469) hb); have n9_ := Aside0.mk (blk_below (B.kb BK479) hb); have n10_ := Aside0.mk (below_step (B.bl HB) hb); have n11_ := Aside0.mk (hbox); have n12_ := Aside0.mk (B.nle hg (below_size (B.bl HB))); have n13_ := Aside0.mk (B.nle hg (below_size (B.bl HB))); have n14_ := Aside0.mk (B.nlt hg (blk_lt (B.kb BK452))); have n15_ := Aside0.mk (B.ngt hg (blk_lt (B.kb BK452))); have n16_ := Aside0.mk (B.nlt hg (blk_lt (B.kb BK453))); have n17_ := Aside0.mk (B.ngt hg (blk_lt (B.kb BK453))); have n18_ := Aside0.mk (B.nlt hg (blk_lt (B.kb BK461))); have n19_ := Aside0.mk (B.ngt hg (blk_lt (B.kb BK461))); have n20_ := Aside0.mk (B.nlt hg (blk_lt (B.kb BK469))); have n21_ := Aside0.mk (B.ngt hg (blk_lt (B.kb BK469))); have n22_ := Aside0.mk (B.nlt hg (blk_lt (B.kb BK479))); have n23_ := Aside0.mk (B.ngt hg (blk_lt (B.kb BK479))); clear HO_453003 HO_462003 HO_470003 HO477 HO485 BK452 BK453 BK461 BK469 BK479 HB; have HO_453003 := n0_; have HO_462003 := n1_; have HO_470003 := n2_; have HO477 := n3_; have HO485 := n4_; have BK452 := n5_; have BK453 := n6_; have BK461 := n7_; have BK469 := n8_; have BK479 := n9_; have HB := n10_; have BK487 := n11_; have GW487 := n12_; have GE487 := n13_; have NB452_487 := n14_; have NB487_452 := n15_; have NB453_487 := n16_; have NB487_453 := n17_; have NB461_487 := n18_; have NB487_461 := n19_; have NB469_487 := n20_; have NB487_469 := n21_; have NB479_487 := n22_; have NB487_479 := n23_; clear n0_ n1_ n2_ n3_ n4_ n5_ n6_ n7_ n8_ n9_ n10_ n11_ n12_ n13_ n14_ n15_ n16_ n17_ n18_ n19_ n20_ n21_ n22_ n23_; clear hb hbox hg; have hnb103 := NB487_452.out; have hnc103 := NB452_487.out; have hnb104 := NB487_453.out; have hnc104 := NB453_487.out; have hnb105 := NB487_461.out; have hnc105 := NB461_487.out; have hnb106 := NB487_469.out; have hnc106 := NB469_487.out; have hnb107 := NB487_479.out; have hnc107 := NB479_487.out; have hcz108_0 : w102.cell? ⟨gb487, 0, none⟩ = some (.int .i64 0) := B.bc BK487 0; have hcz108_1 : w102.cell? ⟨gb487, 1, none⟩ = some (.int .i64 0) := B.bc BK487 1; have hcz108_2 : w102.cell? ⟨gb487, 2, none⟩ = some (.int .i64 0) := B.bc BK487 2; have hcz108_3 : w102.cell? ⟨gb487, 3, none⟩ = some (.slice none 0 0) := B.bc BK487 3; have hfz108_0 := blk_frozen BK487.out 0; have hfz108_1 := blk_frozen BK487.out 1; have hfz108_2 := blk_frozen BK487.out 2; have hfz108_3 := blk_frozen BK487.out 3; obtain ⟨Ao109, co109, eo109⟩ := Kd.R_slice HO485.out; subst eo109; have hcz110_0 : w102.cell? ⟨gb479, 0, none⟩ = some (.int .i64 t472) := B.bc BK479 0; have hcz110_1 : w102.cell? ⟨gb479, 1, none⟩ = some (.int .i64 t473) := B.bc BK479 1; have hcz110_2 : w102.cell? ⟨gb479, 2, none⟩ = some (.int .i64 t474) := B.bc BK479 2; have hcz110_3 : w102.cell? ⟨gb479, 3, none⟩ = some (.slice Ao97 t475.length co97) := B.bc BK479 3; have hfz110_0 := blk_frozen BK479.out 0; have hfz110_1 := blk_frozen BK479.out 1; have hfz110_2 := blk_frozen BK479.out 2; have hfz110_3 := blk_frozen BK479.out 3) | (go_at_call 17; (with_reducible refine (laws_equalImage.calls kj5 t472 t473 t474 _ _ t475 t480 t481 t482 _ _ t483 t488 _ ?side1 ?side2 ?side3 ?side4 A82.out).mono ?_); (case side1 => refine (Kd.R_reads' (e := 3) (base := w.heap.size) (ok := fun k_ => ((((True ∧ some k_ ≠ (.slice Ao12 t445.length co12 : Value).ownBlock) ∧ some k_ ≠ (.slice Ao19 t457.length co19 : Value).ownBlock) ∧ some k_ ≠ (.slice Ao28 t465.length co28 : Value).ownBlock) ∧ some k_ ≠ (.slice Ao109 t483.length co109 : Value).ownBlock)) (n := t475.length) (c := co97) ?_).2.2; exact (B.kr0 (B.rs4 HO477 BK487))); (case side2 => exact (Kd.R_reads' HO477.out).2.1); (case side3 => refine (Kd.R_reads' (e := 3) (base := w.heap.size) (ok := fun k_ => ((((True ∧ some k_ ≠ (.slice Ao12 t445.length co12 : Value).ownBlock) ∧ some k_ ≠ (.slice Ao19 t457.length co19 : Value).ownBlock) ∧ some k_ ≠ (.slice Ao28 t465.length co28 : Value).ownBlock) ∧ some k_ ≠ (.slice Ao97 t475.length co97 : Value).ownBlock)) (n := t483.length) (c := co109) ?_).2.2; exact (B.kr0 (B.rs4 HO485 BK487))); (case side4 => exact (Kd.R_reads' HO485.out).2.1); rintro e w111 ⟨rfl, hb⟩; have n0_ := Aside0.mk (Kd.Q_below (by (with_reducible repeat (first | apply Kd.Q_alloc | apply Kd.Q_drewN | apply Kd.Q_drew)); exact (Kd.Q_mono (Kd.Q_far (p := ⟨gb487, 3, none⟩) (Kd.Q_far (p := ⟨gb487, 2, none⟩) (Kd.Q_far (p := ⟨gb487, 1, none⟩) (Kd.Q_far (p := ⟨gb487, 0, none⟩) (Kd.Q_types HO_453003.out BK487.out (by decide)) (fun _ hk => hk.2) (.int .i64 t480)) (fun _ hk => hk.2) (.int .i64 t481)) (fun _ hk => hk.2) (.int .i64 t482)) (fun _ hk => hk.2) (.slice Ao109 t483.length co109)) (fun _ h_ => h_.1))) hb); have n1_ := Aside0.mk (Kd.Q_below (by (with_reducible repeat (first | apply Kd.Q_alloc | apply Kd.Q_drewN | apply Kd.Q_drew)); exact (Kd.Q_mono (Kd.Q_far (p := ⟨gb487, 3, none⟩) (Kd.Q_far (p := ⟨gb487, 2, none⟩) (Kd.Q_far (p := ⟨gb487, 1, none⟩) (Kd.Q_far (p := ⟨gb487, 0, none⟩) (Kd.Q_types HO_462003.out BK487.out (by decide)) (fun _ hk => hk.2) (.int .i64 t480)) (fun _ hk => hk.2) (.int .i64 t481)) (fun _ hk => hk.2) (.int .i64 t482)) (fun _ hk => hk.2) (.slice Ao109 t483.length co109)) (fun _ h_ => h_.1))) hb); have n2_ := Aside0.mk (Kd.Q_below (by (with_reducible repeat (first | apply Kd.Q_alloc | apply Kd.Q_drewN | apply Kd.Q_drew)); exact (Kd.Q_mono (Kd.Q_far (p := ⟨gb487, 3, none⟩) (Kd.Q_far (p := ⟨gb487, 2, none⟩) (Kd.Q_far (p := ⟨gb487, 1, none⟩) (Kd.Q_far (p := ⟨gb487, 0, none⟩) (Kd.Q_types HO_470003.out BK487.out (by decide)) (fun _ hk => hk.2) (.int .i64 t480)) (fun _ hk => hk.2) (.int .i64 t481)) (fun _ hk => hk.2) (.int .i64 t482)) (fun _ hk => hk.2) (.slice Ao109 t483.length co109)) (fun _ h_ => h_.1))) hb); have n3_ := Aside0.mk (Kd.R_below (B.kr0 (B.rs4 HO477 BK487)) hb); have n4_ := Aside0.mk (Kd.R_below (B.kr0 (B.rs4 HO485 BK487)) hb); have n5_ := Aside0.mk (blk_below (B.kb0 (B.bf4 BK452 NB452_487)) hb); have n6_ := Aside0.mk (blk_below (B.kb0 (B.bf4 BK453 NB453_487)) hb); have n7_ := Aside0.mk (blk_below (B.kb0 (B.bf4 BK461 NB461_487)) hb); have n8_ := Aside0.mk (blk_below (B.kb0 (B.bf4 BK469 NB469_487)) hb); have n9_ := Aside0.mk (blk_below (B.kb0 (B.bf4 BK479 NB479_487)) hb); have n10_ := Aside0.mk (blk_below (g := gb487) (o := .cells #[.int .i64 t480, .int .i64 t481, .int .i64 t482, .slice Ao109 t483.length co109] 28 (0, 0)) (B.kb0 (B.bp4 BK487)) hb); have n11_ := Aside0.mk (below_step (B.bl HB) hb); clear HO_453003 HO_462003 HO_470003 HO477 HO485 BK452 BK453 BK461 BK469 BK479 BK487 HB; have HO_453003 := n0_; have HO_462003 := n1_; have HO_470003 := n2_; have HO477 := n3_; have HO485 := n4_; have BK452 := n5_; have BK453 := n6_; have BK461 := n7_; have BK469 := n8_; have BK479 := n9_; have BK487 := n10_; have HB := n11_; clear n0_ n1_ n2_ n3_ n4_ n5_ n6_ n7_ n8_ n9_ n10_ n11_; (try clear hb); (try clear hb2); (try clear hk); (try clear hi)))
          go_ret
          exact ⟨by first | rfl | (simp [errW_none, errW_some] <;> rfl) | (simp [*, errW_none, errW_some] <;> rfl), B.bl HB⟩
        replace c81 := Bool.eq_false_iff.mpr c81
        subst c81
        have H1 : (some false) = some r := by rw [if_neg (show ¬ (false = true) by decide)] at H; exact H
        clear H
        have H := H1
        clear H1
        obtain rfl := Option.some.inj H
        exact absurd ht_.out (by decide)
      replace c80 := Bool.eq_false_iff.mpr c80
      subst c80
      have H1 : (some false) = some r := by rw [if_neg (show ¬ (false = true) by decide)] at H; exact H
      clear H
      have H := H1
      clear H1
      obtain rfl := Option.some.inj H
      exact absurd ht_.out (by decide)

/-- THE ONE PURE STATEMENT of laws_FnCropImageTwice: yours. -/
def laws_FnCropImageTwice.Pure : Prop := ∀ (l0 : List Int), l0.length ≤ maxLen → l0.length * 1 ≤ 140737488351232 → (∀ x ∈ l0, (Lit.int .u8 x).wf = true) → ∃ k, laws_FnCropImageTwice.f k l0 = some true
theorem laws_FnCropImageTwice.walk (P : laws_FnCropImageTwice.Pure) (a0 : Option Addr) (len0 cap0 : Nat) (z0 : List Int) (w : World) (w0 : (a0 = none ∧ len0 = 0 ∧ cap0 = 0 ∧ z0 = []) ∨ ∃ x, a0 = some x ∧ len0 ≤ cap0 ∧ cap0 ≤ maxLen ∧ z0.length = cap0 ∧ (∀ i, i < z0.length → w.cell? (x.add i) = some (.int .u8 (z0.getD i 0))) ∧ ∀ n ∈ z0, (Lit.int .u8 n).wf = true) (y0 : len0 * 1 ≤ 140737488351232) :
    Calls Try.prog 5 #[.slice a0 len0 cap0] w fun e w' => e = .returned (.bool true) ∧ Below w.heap.size w w' := by
  obtain ⟨l0, rfl, hr0, hm0, hw0, hc0⟩ := ReadsInt.ofRowC w0
  obtain ⟨k, h⟩ := P l0 hm0 y0 hw0
  refine (laws_FnCropImageTwice.calls k _ _ l0 true w (Kd.C_of_reads (d := (0 : Int)) (h1 := fun _ => rfl) hr0) hc0 h ⟨rfl⟩).mono ?_
  rintro e w' ⟨rfl, hd⟩
  exact ⟨rfl, hd⟩

end Go.Proofs.Ytmljcnhecjlinaa.Q
