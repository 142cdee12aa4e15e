-- Written by a program of this session (the kit's printer, with hand-proved contracts for the functions that it does not take).
import Derived.Test.YtegicfkcdmhjgaaQ0
import Derived.Test.YtegicfkcdmhjgaaQ1
import Derived.Test.YtegicfkcdmhjgaaQ2
namespace Go.Proofs.Ytegicfkcdmhjgaa.Q
open Go.RowKit Go.Proofs.YtegicfkcdmhjgaaW.PrintWords Go.Proofs.YtegicfkcdmhjgaaW.PrintLast Go.Proofs.YtegicfkcdmhjgaaW.PrintMore
attribute [local go_sem] max2_int min2_int max_two min_two max_three min_three max_four min_four   -- for this text's walks alone
set_option linter.unusedVariables false
set_option linter.unusedSimpArgs false

/-! ### impl_copyImage: function 53 -/
def impl_copyImage.f (a0_0 : Int) (a0_1 : Int) (a0_2 : Int) (l0_3 : List Int) : Option (Int × Int × Int × List Int) := (some (([] : List Int) : List Int)).bind fun y447 => (if y447.length + l0_3.length < 17592186044416 then (some (a0_0, a0_1, a0_2, (y447 ++ l0_3))) else (none))
set_option maxHeartbeats 8000000 in
set_option maxRecDepth 100000 in
theorem impl_copyImage.calls (a0_0 : Int) (a0_1 : Int) (a0_2 : Int) (A0_3 : Option Addr) (c0_3 : Nat) (l0_3 : List Int) (r1 : Int) (r2 : Int) (r3 : Int) (r4 : List Int) (w : World) (hr0_3 : Kd.C (Kd.int .i64) w A0_3 l0_3.length l0_3) (hc0_3 : l0_3.length ≤ c0_3) (h : impl_copyImage.f a0_0 a0_1 a0_2 l0_3 = some (r1, r2, r3, r4)) :
    Calls Try.prog 53 #[.agg #[.int .i64 a0_0, .int .i64 a0_1, .int .i64 a0_2, .slice A0_3 l0_3.length c0_3]] w fun e w' => ∃ v3_ : Value, e = .returned (.agg #[.int .i64 r1, .int .i64 r2, .int .i64 r3, v3_]) ∧ Kd.R (Kd.int .i64) 3 w' w.heap.size (fun _ => True) v3_ r4 ∧ Below w.heap.size w w' := by
  have hu27 := Try.underlying27
  have HR0_3 := Aside0.mk hr0_3
  have HC0_3 := Aside0.mk hc0_3
  clear hr0_3 hc0_3
  have HB := Aside0.mk (Below.refl w.heap.size w)
  have H : ((some (([] : List Int) : List Int)).bind fun y447 => (if y447.length + l0_3.length < 17592186044416 then (some (a0_0, a0_1, a0_2, (y447 ++ l0_3))) else (none))) = some (r1, r2, r3, r4) := h
  clear h
  obtain ⟨y447, hy447⟩ : ∃ y_ : List Int, y_ = (([] : List Int)) := ⟨_, rfl⟩
  replace H : (if y447.length + l0_3.length < 17592186044416 then (some (a0_0, a0_1, a0_2, (y447 ++ l0_3))) else (none)) = some (r1, r2, r3, r4) := by first | (rw [hy447]; with_reducible exact H) | (have H2_ := (Option.bind_some _ _).symm.trans H; rw [hy447]; with_reducible exact H2_) | (have H2_ := (Option.bind_some _ _).symm.trans H; with_reducible exact H2_) | with_reducible exact H | (rw [hy447]; exact H) | exact H
  have Ny447 := Aside0.mk hy447
  clear hy447
  by_cases c2 : y447.length + l0_3.length < 17592186044416
  · rw [if_pos c2] at H
    have LMc2 := Aside0.mk c2
    clear c2
    obtain ⟨y450, hy450⟩ : ∃ y_ : List Int, y_ = (y447 ++ l0_3) := ⟨_, rfl⟩
    replace H : (some (a0_0, a0_1, a0_2, y450)) = some (r1, r2, r3, r4) := by first | (rw [hy450]; with_reducible exact H) | (have H2_ := (Option.bind_some _ _).symm.trans H; rw [hy450]; with_reducible exact H2_) | (have H2_ := (Option.bind_some _ _).symm.trans H; with_reducible exact H2_) | with_reducible exact H | (rw [hy450]; exact H) | exact H
    have Ny450 := Aside0.mk hy450
    clear hy450
    simp only [Option.some.injEq, Prod.mk.injEq] at H
    obtain ⟨rfl, rfl, rfl, rfl⟩ := H
    go_enter Try.func53, Try.ntmps53
    go_wp2_with (first | ((with_reducible refine gate_dst (N := 1) rfl ?_); refine box_event ?hg (N := 1) ?hd (cs := #[.int .i64 a0_0, .int .i64 a0_1, .int .i64 a0_2, .slice A0_3 l0_3.length c0_3]) (t := 27) ?hr ?_; (case hd => rfl); (case hg => rfl); (case hr => first | (go_simp; done) | (go_simp; rfl)); intro gb445 hg w3 hbox hb; have n0_ := Aside0.mk (below_step (B.bl HB) hb); have n1_ := Aside0.mk (hbox); have n2_ := Aside0.mk (B.nle hg (below_size (B.bl HB))); have n3_ := Aside0.mk (B.nle hg (below_size (B.bl HB))); clear HB; have HB := n0_; have BK445 := n1_; have GW445 := n2_; have GE445 := n3_; clear n0_ n1_ n2_ n3_; clear hb hbox hg) | ((with_reducible refine gate_dst (N := 2) rfl ?_); refine box_event ?hg (N := 2) ?hd (cs := #[.int .i64 0, .int .i64 0, .int .i64 0, .slice none 0 0]) (t := 27) ?hr ?_; (case hd => rfl); (case hg => rfl); (case hr => first | (go_simp; done) | (go_simp; rfl)); intro gb446 hg w4 hbox hb; have n0_ := Aside0.mk (blk_below (B.kb BK445) hb); have n1_ := Aside0.mk (below_step (B.bl HB) hb); have n2_ := Aside0.mk (hbox); have n3_ := Aside0.mk (B.nle hg (below_size (B.bl HB))); have n4_ := Aside0.mk (B.nle hg (below_size (B.bl HB))); have n5_ := Aside0.mk (B.nlt hg (blk_lt (B.kb BK445))); have n6_ := Aside0.mk (B.ngt hg (blk_lt (B.kb BK445))); clear BK445 HB; have BK445 := n0_; have HB := n1_; have BK446 := n2_; have GW446 := n3_; have GE446 := n4_; have NB445_446 := n5_; have NB446_445 := n6_; clear n0_ n1_ n2_ n3_ n4_ n5_ n6_; clear hb hbox hg) | ((with_reducible refine gate_dst (N := 3) rfl ?_); refine Kd.R_lit (Kd.int .i64) _ 3 ?hg (N := 3) ?hd (xs := ([] : List Int)) (inner := []) (ok := fun _ => True) (okp := fun _ => True) ?hr ?hp (fun _ hk => hk) trivial (Below.refl _ _) (Nat.le_refl _) (by simp) ?_; (case hd => rfl); (case hg => rfl); (case hr => first | (go_simp; done) | (go_simp; rfl)); (case hp => exact (Reps.none _ _)); intro v448 w5 ho6 hb hg_ hnew_; clear hg_ hnew_; (first | rw [← Ny447.out] at ho6 | (simp only [Int.reduceToNat] at ho6; rw [← Ny447.out] at ho6)); have n0_ := Aside0.mk (Kd.R_lower ho6 (below_size (B.bl HB))); have n1_ := Aside0.mk (blk_below (B.kb BK445) hb); have n2_ := Aside0.mk (blk_below (B.kb BK446) hb); have n3_ := Aside0.mk (below_step (B.bl HB) hb); clear BK445 BK446 HB; have HO449 := n0_; have BK445 := n1_; have BK446 := n2_; have HB := n3_; clear n0_ n1_ n2_ n3_; clear hb ho6; have hnb7 := NB445_446.out; have hnc7 := NB446_445.out; have hcz8_0 : w5.cell? ⟨gb445, 0, none⟩ = some (.int .i64 a0_0) := B.bc BK445 0; have hcz8_1 : w5.cell? ⟨gb445, 1, none⟩ = some (.int .i64 a0_1) := B.bc BK445 1; have hcz8_2 : w5.cell? ⟨gb445, 2, none⟩ = some (.int .i64 a0_2) := B.bc BK445 2; have hcz8_3 : w5.cell? ⟨gb445, 3, none⟩ = some (.slice A0_3 l0_3.length c0_3) := B.bc BK445 3; have hfz8_0 := blk_frozen BK445.out 0; have hfz8_1 := blk_frozen BK445.out 1; have hfz8_2 := blk_frozen BK445.out 2; have hfz8_3 := blk_frozen BK445.out 3) | ((with_reducible refine gate_builtin (b := .append) (xs := #[.tmp 3, .tmp 5]) rfl ?_); at_builtin; refine Kd.R_append_rows (Kd.int .i64) (w0 := w) w.heap.size rfl (.tmp 3) (.tmp 5) 22 3 (.int .i64 0) 8 rfl Try.underlying22 info3 rfl (by decide) (by omega) v448 y447 l0_3 _ _ _ (fun _ => True) (fun _ => False) rfl rfl ?aO ?aR (fun _ _ h => h) (fun _ h => h.elim) ?aF ?aB ?aS ?aL ?_; (case aR => exact B.kc (Kd.C_below HR0_3.out HB.out)); (case aB => exact (B.bl HB)); (case aF => exact (fun _ _ => trivial)); (case aO => exact (B.kr HO449)); (case aS => exact (below_size (B.bl HB))); (case aL => have := LMc2.out; omega); intro v451 w9 ho hb hg hat; rw [← Ny450.out] at ho; have n0_ := Aside0.mk (blk_grown (g := gb445) (o := .cells #[.int .i64 a0_0, .int .i64 a0_1, .int .i64 a0_2, .slice A0_3 l0_3.length c0_3] 27 (0, 0)) (B.kb BK445) hg (Kd.R_ne HO449.out BK445.out (by decide))); have n1_ := Aside0.mk (blk_grown (g := gb446) (o := .cells #[.int .i64 0, .int .i64 0, .int .i64 0, .slice none 0 0] 27 (0, 0)) (B.kb BK446) hg (Kd.R_ne HO449.out BK446.out (by decide))); have n2_ := Aside0.mk (hb); have n3_ := Aside0.mk (ho); clear BK445 BK446 HB HO449; have BK445 := n0_; have BK446 := n1_; have HB := n2_; have HO452 := n3_; clear n0_ n1_ n2_ n3_; clear ho hb hg hat; obtain ⟨Ao10, co10, eo10⟩ := Kd.R_slice HO452.out; subst eo10; have hcz11_0 : w9.cell? ⟨gb445, 0, none⟩ = some (.int .i64 a0_0) := B.bc BK445 0; have hcz11_1 : w9.cell? ⟨gb445, 1, none⟩ = some (.int .i64 a0_1) := B.bc BK445 1; have hcz11_2 : w9.cell? ⟨gb445, 2, none⟩ = some (.int .i64 a0_2) := B.bc BK445 2; have hcz11_3 : w9.cell? ⟨gb445, 3, none⟩ = some (.slice A0_3 l0_3.length c0_3) := B.bc BK445 3; have hfz11_0 := blk_frozen BK445.out 0; have hfz11_1 := blk_frozen BK445.out 1; have hfz11_2 := blk_frozen BK445.out 2; have hfz11_3 := blk_frozen BK445.out 3; have hcz12_0 : w9.cell? ⟨gb446, 0, none⟩ = some (.int .i64 0) := B.bc BK446 0; have hcz12_1 : w9.cell? ⟨gb446, 1, none⟩ = some (.int .i64 0) := B.bc BK446 1; have hcz12_2 : w9.cell? ⟨gb446, 2, none⟩ = some (.int .i64 0) := B.bc BK446 2; have hcz12_3 : w9.cell? ⟨gb446, 3, none⟩ = some (.slice none 0 0) := B.bc BK446 3; have hfz12_0 := blk_frozen BK446.out 0; have hfz12_1 := blk_frozen BK446.out 1; have hfz12_2 := blk_frozen BK446.out 2; have hfz12_3 := blk_frozen BK446.out 3))
    refine bodyPost_ret (results_cell_row rfl _ _ gb446 27 #[.int .i64 a0_0, .int .i64 a0_1, .int .i64 a0_2, .slice Ao10 y450.length co10] (0, 0) _ rfl (by (with_reducible repeat (first | refine blk_drewN ?_ _ | refine blk_drew ?_ | refine blk_alloc ?_ _)); refine blk_put (cs := #[.int .i64 a0_0, .int .i64 a0_1, .int .i64 a0_2, .slice none 0 0]) ?_ 3 _ rfl; (with_reducible repeat (first | refine blk_drewN ?_ _ | refine blk_drew ?_ | refine blk_alloc ?_ _)); refine blk_put (cs := #[.int .i64 a0_0, .int .i64 a0_1, .int .i64 0, .slice none 0 0]) ?_ 2 _ rfl; (with_reducible repeat (first | refine blk_drewN ?_ _ | refine blk_drew ?_ | refine blk_alloc ?_ _)); refine blk_put (cs := #[.int .i64 a0_0, .int .i64 0, .int .i64 0, .slice none 0 0]) ?_ 1 _ rfl; (with_reducible repeat (first | refine blk_drewN ?_ _ | refine blk_drew ?_ | refine blk_alloc ?_ _)); refine blk_put (cs := #[.int .i64 0, .int .i64 0, .int .i64 0, .slice none 0 0]) ?_ 0 _ rfl; (with_reducible repeat (first | refine blk_drewN ?_ _ | refine blk_drew ?_ | refine blk_alloc ?_ _)); refine blk_far ?_ NB446_445.out _; (with_reducible repeat (first | refine blk_drewN ?_ _ | refine blk_drew ?_ | refine blk_alloc ?_ _)); exact BK446.out) Try.underlying27 rfl (by kernel_rfl)) rfl ?_
    exact ⟨_, by first | rfl | (simp [errW_none, errW_some] <;> rfl) | (simp [*, errW_none, errW_some] <;> rfl), by (with_reducible repeat (first | apply Kd.R_alloc | apply Kd.R_drewN | apply Kd.R_drew)); exact Kd.R_mono (Kd.R_far (p := ⟨gb446, 3, none⟩) (Kd.R_far (p := ⟨gb446, 2, none⟩) (Kd.R_far (p := ⟨gb446, 1, none⟩) (Kd.R_far (p := ⟨gb446, 0, none⟩) (Kd.R_far (p := ⟨gb445, 3, none⟩) (Kd.R_types (Kd.R_types HO452.out BK445.out (by decide)) BK446.out (by decide)) (fun _ hk => hk.1.2) (.slice Ao10 y450.length co10)) (fun _ hk => hk.2) (.int .i64 a0_0)) (fun _ hk => hk.2) (.int .i64 a0_1)) (fun _ hk => hk.2) (.int .i64 a0_2)) (fun _ hk => hk.2) (.slice Ao10 y450.length co10)) (fun _ hk => trivial), B.bl HB⟩
  rw [if_neg c2] at H
  exact absurd H (by simp)

/-! ### beside impl_copyImage (by hand) -/
-- GIVEN loop.example/pixelworks/impl.copyImage
-- BESIDE yes
theorem copyImage_ok (a b c : Int) (D : List Int) (h : D.length < 17592186044416) : impl_copyImage.f a b c D = some (a, b, c, D) := by
  unfold impl_copyImage.f
  simp only [Option.bind_some, List.length_nil, List.nil_append, Nat.zero_add]
  rw [if_pos h]

/-! ### impl_InvertImage: function 29 (by hand) -/
-- GIVEN loop.example/pixelworks/impl.InvertImage
-- ROUNDS no
-- MAKING yes
def inv (n : Int) : Int := wrap64 (255 - n)
/-- A list whose first numbers are inverted. -/
def invL (i : Nat) (l : List Int) : List Int := (l.take i).map inv ++ l.drop i
theorem invL_zero (l : List Int) : invL 0 l = l := by simp [invL]
theorem invL_all (l : List Int) : invL l.length l = l.map inv := by simp [invL]
theorem invL_len (i : Nat) (l : List Int) : (invL i l).length = l.length := by
  unfold invL
  rw [List.length_append, List.length_map, List.length_take, List.length_drop]
  omega
theorem invL_rd (x : Int) (l : List Int) (h0 : 0 ≤ x) (h1 : x < (l.length : Int)) : rd (invL x.toNat l) x = rd l x := by
  have h2 : x.toNat < l.length := by omega
  unfold rd invL
  rw [List.getD_eq_getElem?_getD, List.getD_eq_getElem?_getD, List.getElem?_append_right (by rw [List.length_map, List.length_take]; omega), List.length_map, List.length_take, List.getElem?_drop]
  congr 2
  omega
theorem invL_set (x : Int) (l : List Int) (h0 : 0 ≤ x) (h1 : x < (l.length : Int)) : (invL x.toNat l).set x.toNat (inv (rd l x)) = invL (x + 1).toNat l := by
  have h2 : x.toNat < l.length := by omega
  have e : (x + 1).toNat = x.toNat + 1 := by omega
  rw [e]
  have hr : rd l x = l[x.toNat] := by unfold rd; simp [h2]
  rw [hr]
  unfold invL
  rw [List.set_append_right _ _ (by rw [List.length_map, List.length_take]; omega), List.length_map, List.length_take, Nat.min_eq_left (by omega), Nat.sub_self, List.drop_eq_getElem_cons h2, List.set_cons_zero, List.take_succ_eq_append_getElem h2, List.map_append]
  simp
theorem okImg_len {w h p : Int} {D : List Int} (o : B.okImg w h p D = true) : D.length ≤ 1024 := by
  have hI := (B.okImg_img o).1
  rw [hI.nat]
  obtain ⟨a1, a2, a3, a4, a5, a6, _⟩ := hI
  have e1 : h.toNat * w.toNat ≤ 16 * 16 := Nat.mul_le_mul (by omega) (by omega)
  have e2 : h.toNat * w.toNat * p.toNat ≤ 16 * 16 * 4 := Nat.mul_le_mul e1 (by omega)
  omega
def impl_InvertImage.f (a0_0 : Int) (a0_1 : Int) (a0_2 : Int) (l0_3 : List Int) : Option (Int × Int × Int × List Int) :=
  if B.okImg a0_0 a0_1 a0_2 l0_3 = true then some (a0_0, a0_1, a0_2, l0_3.map inv) else some (0, 0, 0, [])
theorem inv_fn (n : Int) (w : World) : Calls Try.prog 50 #[.int .i64 n] w fun e w' => e = .returned (.int .i64 (inv n)) ∧ ∃ q, w' = w.drewN q := by
  unfold inv
  go_enter Try.func50, Try.ntmps50
  go_wp2
  go_ret
  exact ⟨by first | rfl | simp [i64_w], 0, rfl⟩
set_option maxHeartbeats 8000000 in
set_option maxRecDepth 100000 in
theorem mapInv_calls (a0_0 : Int) (a0_1 : Int) (a0_2 : Int) (A0_3 : Option Addr) (c0_3 : Nat) (l0_3 : List Int) (w : World) (hr0_3 : Kd.C (Kd.int .i64) w A0_3 l0_3.length l0_3) (hc0_3 : l0_3.length ≤ c0_3) (hl : l0_3.length ≤ 1024) :
    Calls Try.prog 49 #[.agg #[.int .i64 a0_0, .int .i64 a0_1, .int .i64 a0_2, .slice A0_3 l0_3.length c0_3], .func (.func 50) #[] #[]] w fun e w' => ∃ v3_ : Value, e = .returned (.agg #[.int .i64 a0_0, .int .i64 a0_1, .int .i64 a0_2, v3_]) ∧ Kd.R (Kd.int .i64) 3 w' w.heap.size (fun _ => True) v3_ (l0_3.map inv) ∧ Below w.heap.size w w' := by
  have hu28 := Try.underlying27
  have HB := Aside0.mk (Below.refl w.heap.size w)
  have HL := Aside0.mk hl
  have H2 := Aside0.mk (fun (W : World) (hW : Below w.heap.size w W) => impl_copyImage.calls a0_0 a0_1 a0_2 A0_3 c0_3 l0_3 a0_0 a0_1 a0_2 l0_3 W (Kd.C_below hr0_3 hW) hc0_3 (copyImage_ok a0_0 a0_1 a0_2 l0_3 (by omega)))
  clear hl hr0_3 hc0_3
  go_enter Try.func49, Try.ntmps49
  go_wp2_with (first | ((with_reducible refine gate_dst (N := 2) rfl ?_); refine box_event ?hg (N := 2) ?hd (cs := #[.int .i64 a0_0, .int .i64 a0_1, .int .i64 a0_2, .slice A0_3 l0_3.length c0_3]) (t := 27) ?hr ?_; (case hd => rfl); (case hg => rfl); (case hr => first | (go_simp; done) | (go_simp; rfl)); intro gm hg w5 hbox hb; have n0_ := Aside0.mk (below_step (B.bl HB) hb); have n1_ := Aside0.mk (hbox); have n2_ := Aside0.mk (B.nle hg (below_size (B.bl HB))); clear HB; have HB := n0_; have BM := n1_; have GM := n2_; clear n0_ n1_ n2_; clear hb hbox hg) | ((with_reducible refine gate_dst (N := 4) rfl ?_); refine box_event ?hg (N := 4) ?hd (cs := #[.int .i64 0, .int .i64 0, .int .i64 0, .slice none 0 0]) (t := 27) ?hr ?_; (case hd => rfl); (case hg => rfl); (case hr => first | (go_simp; done) | (go_simp; rfl)); intro gr hg w6 hbox hb; have n0_ := Aside0.mk (blk_below (B.kb BM) hb); have n1_ := Aside0.mk (below_step (B.bl HB) hb); have n2_ := Aside0.mk (hbox); have n3_ := Aside0.mk (B.nle hg (below_size (B.bl HB))); have n4_ := Aside0.mk (B.nlt hg (blk_lt (B.kb BM))); have n5_ := Aside0.mk (B.ngt hg (blk_lt (B.kb BM))); clear BM HB; have BM := n0_; have HB := n1_; have BR := n2_; have GR := n3_; have NMR := n4_; have NRM := n5_; clear n0_ n1_ n2_ n3_ n4_ n5_; clear hb hbox hg; have hm0 : w6.cell? ⟨gm, 0, none⟩ = some (.int .i64 a0_0) := B.bc BM 0; have hm1 : w6.cell? ⟨gm, 1, none⟩ = some (.int .i64 a0_1) := B.bc BM 1; have hm2 : w6.cell? ⟨gm, 2, none⟩ = some (.int .i64 a0_2) := B.bc BM 2; have hm3 : w6.cell? ⟨gm, 3, none⟩ = some (.slice A0_3 l0_3.length c0_3) := B.bc BM 3) | ((with_reducible refine gate_callee (f := 53) rfl ?_); refine goesL_ (some 9) rfl rfl Try.func53 (by kernel_rfl) rfl #[.agg #[.int .i64 a0_0, .int .i64 a0_1, .int .i64 a0_2, .slice A0_3 l0_3.length c0_3]] rfl B.am ?_; (with_reducible refine (H2.out _ (B.bl HB)).mono ?_); rintro e w11 ⟨v, rfl, ho0, hb⟩; refine ⟨_, rfl, ?_⟩; have n0_ := Aside0.mk (Kd.R_lower ho0 (below_size (B.bl HB))); have n1_ := Aside0.mk (blk_below (B.kb BM) hb); have n2_ := Aside0.mk (blk_below (B.kb BR) hb); have n3_ := Aside0.mk (below_step (B.bl HB) hb); clear BM BR HB; have HO := n0_; have BM := n1_; have BR := n2_; have HB := n3_; clear n0_ n1_ n2_ n3_; clear hb ho0 hm0 hm1 hm2 hm3; clear H2) | ((with_reducible refine gate_dst (N := 5) rfl ?_); refine box_event ?hg (N := 5) ?hd (cs := #[.int .i64 0, .int .i64 0, .int .i64 0, .slice none 0 0]) (t := 27) ?hr ?_; (case hd => rfl); (case hg => rfl); (case hr => first | (go_simp; done) | (go_simp; rfl)); intro go hg w12 hbox hb; have n0_ := Aside0.mk (Kd.R_below (B.kr HO) hb); have n1_ := Aside0.mk (blk_below (B.kb BM) hb); have n2_ := Aside0.mk (blk_below (B.kb BR) hb); have n3_ := Aside0.mk (below_step (B.bl HB) hb); have n4_ := Aside0.mk (hbox); have n5_ := Aside0.mk (B.nle hg (below_size (B.bl HB))); have n6_ := Aside0.mk (B.nlt hg (blk_lt (B.kb BM))); have n7_ := Aside0.mk (B.nlt hg (blk_lt (B.kb BR))); clear HO BM BR HB; have HO := n0_; have BM := n1_; have BR := n2_; have HB := n3_; have BO := n4_; have GO := n5_; have NMO := n6_; have NRO := n7_; clear n0_ n1_ n2_ n3_ n4_ n5_ n6_ n7_; clear hb hbox hg; have ho0 : w12.cell? ⟨go, 0, none⟩ = some (.int .i64 0) := B.bc BO 0; have ho1 : w12.cell? ⟨go, 1, none⟩ = some (.int .i64 0) := B.bc BO 1; have ho2 : w12.cell? ⟨go, 2, none⟩ = some (.int .i64 0) := B.bc BO 2; have ho3 : w12.cell? ⟨go, 3, none⟩ = some (.slice none 0 0) := B.bc BO 3; have hf0 := blk_frozen BO.out 0; have hf1 := blk_frozen BO.out 1; have hf2 := blk_frozen BO.out 2; have hf3 := blk_frozen BO.out 3; obtain ⟨Ao, co, eo⟩ := Kd.R_slice HO.out; subst eo))
  go_loopg [13] l0_3.length (fun gg v13 wr => ∃ (x : Int), v13 = .int .i64 x ∧ Aside0 (0 ≤ x ∧ x ≤ (l0_3.length : Int) ∧ l0_3.length - x.toNat ≤ gg) ∧ Aside0 (Kd.R (Kd.int .i64) 3 wr w.heap.size (fun _ => True) (.slice Ao l0_3.length co) (invL x.toNat l0_3)) ∧ Aside0 (wr.heap[gm]? = some (.cells #[.int .i64 a0_0, .int .i64 a0_1, .int .i64 a0_2, .slice A0_3 l0_3.length c0_3] 27 (0, 0))) ∧ Aside0 (wr.heap[gr]? = some (.cells #[.int .i64 0, .int .i64 0, .int .i64 0, .slice none 0 0] 27 (0, 0))) ∧ Aside0 (wr.heap[go]? = some (.cells #[.int .i64 a0_0, .int .i64 a0_1, .int .i64 a0_2, .slice Ao l0_3.length co] 27 (0, 0))) ∧ Aside0 (Below w.heap.size w wr))
  case atStart => exact ⟨0, rfl, ⟨by omega⟩, ⟨by rw [show (0 : Int).toNat = 0 from rfl, invL_zero]; exact B.kr0 (Kd.R_mono (B.rf4 HO BO) (fun _ hk => trivial))⟩, ⟨B.kb0 (B.bf4 BM NMO)⟩, ⟨B.kb0 (B.bf4 BR NRO)⟩, ⟨B.kb0 (B.bp4 BO)⟩, ⟨B.bl HB⟩⟩
  case round =>
    clear HO BM BR BO HB ho0 ho1 ho2 ho3 hf0 hf1 hf2 hf3
    obtain ⟨x, rfl, HX, HO, BM, BR, BO, HB⟩ := hrel
    by_cases cx : x < (l0_3.length : Int)
    · have cxb : decide (x < (l0_3.length : Int)) = true := decide_eq_true cx
      have HCX := Aside0.mk cx
      have p1 : 0 ≤ x := HX.out.1
      have q1 : x < (l0_3.length : Int) := cx
      clear cx
      obtain ⟨g1, c1, eo, gb, gl, HG1⟩ := Kd.R_form HO.out (by rw [invL_len]; have := HX.out; omega)
      injection eo with ea_ en_ ec_
      subst ea_
      subst ec_
      clear en_ gb gl HG1
      obtain ⟨hx0, hf0⟩ := Kd.R_celln 0 HO.out x p1 q1
      replace hx0 := hx0.trans (congrArg (fun z => some (Value.int .i64 z)) (show rdOf (0 : Int) (invL x.toNat l0_3) x = rd l0_3 x from invL_rd x l0_3 p1 q1))
      have HW : Aside0 (wrap64 (x + 1) = x + 1) := ⟨B.w64 (by omega) (by have := HL.out; omega)⟩
      replace p1 := eq_true p1
      replace q1 := eq_true q1
      generalize hz : rd l0_3 x = z at hx0
      have HZ := Aside0.mk hz
      clear hz
      go_wp2
      clear hx0 hf0
      have n0_ := Aside0.mk (Kd.R_drew HO.out)
      have n1_ := Aside0.mk (blk_drew BM.out)
      have n2_ := Aside0.mk (blk_drew BR.out)
      have n3_ := Aside0.mk (blk_drew BO.out)
      have n4_ := Aside0.mk (below_drew1 HB.out)
      clear HO BM BR BO HB
      have HO := n0_
      have BM := n1_
      have BR := n2_
      have BO := n3_
      have HB := n4_
      clear n0_ n1_ n2_ n3_ n4_
      refine start_ (n := 8) (S := fun w' => w'.cell? ⟨go, 3, none⟩ = some (.slice (some ⟨g1, 0, none⟩) l0_3.length co)) (ds := [7]) #[false, false, false, false, false, false, false, false] (by kernel_rfl) rfl rfl ((blk_cell BO.out 3).trans rfl) (fun hHeld => ?_)
      generalize wr.drew = w1 at BR BM BO HO HB hHeld ⊢
      refine pure_ (i := 0) (N := some 18) (v := ?_) (a' := ?_) #[true, false, false, false, false, false, false, false] rfl rfl (by kernel_rfl) (fun _ _ _ h => h) (Or.inl ⟨by rfl, ?_⟩) ?_ ?_
      rotate_left
      · intro w'
        go_simp
        with_reducible rfl
      rotate_left
      · simp only [Act.put, List.setIfInBounds_toArray, List.set_cons_zero, List.set_cons_succ, i64_w, i32_w]
        rfl
      refine pure_ (i := 2) (N := some 20) (v := ?_) (a' := ?_) #[true, false, true, false, false, false, false, false] rfl rfl (by kernel_rfl) (fun _ _ _ h => h) (Or.inl ⟨by rfl, ?_⟩) ?_ ?_
      rotate_left
      · intro w'
        go_simp
        with_reducible rfl
      rotate_left
      · simp only [Act.put, List.setIfInBounds_toArray, List.set_cons_zero, List.set_cons_succ, i64_w, i32_w]
        rfl
      refine pure_ (i := 3) (N := some 21) (v := ?_) (a' := ?_) #[true, false, true, true, false, false, false, false] rfl rfl (by kernel_rfl) (fun _ _ _ h => h) (Or.inl ⟨by rfl, ?_⟩) ?_ ?_
      rotate_left
      · intro w'
        go_simp
        with_reducible rfl
      rotate_left
      · simp only [Act.put, List.setIfInBounds_toArray, List.set_cons_zero, List.set_cons_succ, i64_w, i32_w]
        rfl
      refine pure_ (i := 4) (N := some 22) (v := ?_) (a' := ?_) #[true, false, true, true, true, false, false, false] rfl rfl (by kernel_rfl) (fun _ _ _ h => h) (Or.inl ⟨by rfl, ?_⟩) ?_ ?_
      rotate_left
      · intro w'
        go_simp
        with_reducible rfl
      rotate_left
      · simp only [Act.put, List.setIfInBounds_toArray, List.set_cons_zero, List.set_cons_succ, i64_w, i32_w]
        rfl
      refine take_ (i := 1) (N := some 19) (v := ?_) (a' := ?_) #[true, true, true, true, true, false, false, false] rfl rfl (by kernel_rfl) (fun _ _ _ h => h) (Or.inl ⟨by rfl, ?_⟩) hHeld ?_ ?_
      rotate_left
      · rintro w' s0
        go_simp
        with_reducible rfl
      rotate_left
      · simp only [Act.put, List.setIfInBounds_toArray, List.set_cons_zero, List.set_cons_succ, i64_w, i32_w]
        rfl
      refine one_ (i := 5) (N := some 23) #[true, true, true, true, true, true, false, false] rfl rfl (by kernel_rfl) (by decide) (fun K hK => ?_)
      refine call_ 50 #[.int .i64 z] (by rfl) rfl ?hrun ?_
      case hrun =>
        have eg := call_enters Try.func50 (by kernel_rfl) rfl
        unfold execOp
        simp [resolve, Deferred.ofValue, invoke, Act.eval, eg]
      refine (inv_fn z w1).mono ?_
      rintro e w2 ⟨rfl, q, rfl⟩
      refine ⟨_, rfl, ?_⟩
      have n0_ := Aside0.mk (Kd.R_drewN HO.out q)
      have n1_ := Aside0.mk (blk_drewN BM.out q)
      have n2_ := Aside0.mk (blk_drewN BR.out q)
      have n3_ := Aside0.mk (blk_drewN BO.out q)
      have n4_ := Aside0.mk (pw_below_drewN HB.out q)
      clear HO BM BR BO HB
      have HO := n0_
      have BM := n1_
      have BR := n2_
      have BO := n3_
      have HB := n4_
      clear n0_ n1_ n2_ n3_ n4_
      generalize w1.drewN q = w2 at BR BM BO HO HB ⊢
      refine hK.out _ _ ((blk_cell BO.out 3).trans rfl) (fun hHeld => ?_)
      clear hK K
      refine norm_ (a' := ?_) ?_ ?_
      rotate_left
      · show Act.put _ (some 23) _ = _
        simp only [Act.put, List.setIfInBounds_toArray, List.set_cons_zero, List.set_cons_succ, i64_w, i32_w]
        rfl
      have p3 : 0 ≤ x := HX.out.1
      have q3 := eq_true HCX.out
      replace p3 := eq_true p3
      refine pure_ (i := 6) (N := some 24) (v := ?_) (a' := ?_) #[true, true, true, true, true, true, true, false] rfl rfl (by kernel_rfl) (fun _ _ _ h => h) (Or.inl ⟨by rfl, ?_⟩) ?_ ?_
      rotate_left
      · intro w'
        go_simp
        with_reducible rfl
      rotate_left
      · simp only [Act.put, List.setIfInBounds_toArray, List.set_cons_zero, List.set_cons_succ, i64_w, i32_w]
        rfl
      clear p3 q3
      refine last_ (i := 7) (N := none) #[true, true, true, true, true, true, true, true] rfl rfl (by kernel_rfl) (by decide) (fun K hK => ?_)
      have p2 : 0 ≤ x := HX.out.1
      obtain ⟨hx0, hf0⟩ := Kd.R_celln 0 HO.out x p2 HCX.out
      have HP := Aside0.mk (Kd.R_putn HO.out x (inv z))
      refine skip_ (w1 := ?_) (by rfl) rfl ?_ ?_
      rotate_left
      · go_simp
        rfl
      refine hK.out _ _ ?_
      clear hK K
      refine done_ (by kernel_rfl) ?_
      have n0_ : Aside0 ((w2.setCell ⟨g1, x.toNat, none⟩ (.int .i64 (inv z))).heap[gm]? = some (.cells #[.int .i64 a0_0, .int .i64 a0_1, .int .i64 a0_2, .slice A0_3 l0_3.length c0_3] 27 (0, 0))) := ⟨blk_far BM.out (by have h_ := Kd.R_ne HO.out BM.out (by decide); intro e_; exact h_ (by rw [e_]; rfl)) (.int .i64 (inv z))⟩
      have n1_ : Aside0 ((w2.setCell ⟨g1, x.toNat, none⟩ (.int .i64 (inv z))).heap[gr]? = some (.cells #[.int .i64 0, .int .i64 0, .int .i64 0, .slice none 0 0] 27 (0, 0))) := ⟨blk_far BR.out (by have h_ := Kd.R_ne HO.out BR.out (by decide); intro e_; exact h_ (by rw [e_]; rfl)) (.int .i64 (inv z))⟩
      have n2_ : Aside0 ((w2.setCell ⟨g1, x.toNat, none⟩ (.int .i64 (inv z))).heap[go]? = some (.cells #[.int .i64 a0_0, .int .i64 a0_1, .int .i64 a0_2, .slice (some ⟨g1, 0, none⟩) l0_3.length co] 27 (0, 0))) := ⟨blk_far BO.out (by have h_ := Kd.R_ne HO.out BO.out (by decide); intro e_; exact h_ (by rw [e_]; rfl)) (.int .i64 (inv z))⟩
      have n3_ : Aside0 (Kd.R (Kd.int .i64) 3 (w2.setCell ⟨g1, x.toNat, none⟩ (.int .i64 (inv z))) w.heap.size (fun _ => True) (.slice (some ⟨g1, 0, none⟩) l0_3.length co) (invL (x + 1).toNat l0_3)) := ⟨by
        have h_ := HP.out
        rw [← HZ.out, invL_set x l0_3 p2 HCX.out, HZ.out] at h_
        exact h_⟩
      have n4_ : Aside0 (Below w.heap.size w (w2.setCell ⟨g1, x.toNat, none⟩ (.int .i64 (inv z)))) := ⟨below_set HB.out (Kd.R_base HO.out _ rfl)⟩
      clear BR BM BO HO HB hx0 hf0 hHeld HP p2
      have BM := n0_
      have BR := n1_
      have BO := n2_
      have HO := n3_
      have HB := n4_
      clear n0_ n1_ n2_ n3_ n4_
      generalize (w2.setCell ⟨g1, x.toNat, none⟩ (.int .i64 (inv z))) = w4 at BR BM BO HO HB ⊢
      go_wp2
      go_roundg (l0_3.length - (x + 1).toNat)
      case measure => have := HX.out; have := HCX.out; omega
      case rel =>
        refine ⟨wrap64 (x + 1), rfl, ⟨?_⟩, ⟨?_⟩, BM, BR, BO, HB⟩
        · rw [HW.out]; have := HX.out; have := HCX.out; omega
        · rw [HW.out]; exact HO.out
    · have cxb : decide (x < (l0_3.length : Int)) = false := decide_eq_false cx
      have ex : x.toNat = l0_3.length := by have := HX.out; omega
      rw [ex, invL_all] at HO
      clear ex cx
      have ho0 : wr.cell? ⟨go, 0, none⟩ = some (.int .i64 a0_0) := B.bc BO 0
      have ho1 : wr.cell? ⟨go, 1, none⟩ = some (.int .i64 a0_1) := B.bc BO 1
      have ho2 : wr.cell? ⟨go, 2, none⟩ = some (.int .i64 a0_2) := B.bc BO 2
      have ho3 : wr.cell? ⟨go, 3, none⟩ = some (.slice Ao l0_3.length co) := B.bc BO 3
      have hr0 : wr.cell? ⟨gr, 0, none⟩ = some (.int .i64 0) := B.bc BR 0
      have hr1 : wr.cell? ⟨gr, 1, none⟩ = some (.int .i64 0) := B.bc BR 1
      have hr2 : wr.cell? ⟨gr, 2, none⟩ = some (.int .i64 0) := B.bc BR 2
      have hr3 : wr.cell? ⟨gr, 3, none⟩ = some (.slice none 0 0) := B.bc BR 3
      have hf0 := blk_frozen BR.out 0
      have hf1 := blk_frozen BR.out 1
      have hf2 := blk_frozen BR.out 2
      have hf3 := blk_frozen BR.out 3
      go_wp2
      refine bodyPost_ret (results_cell_row rfl _ _ gr 27 #[.int .i64 a0_0, .int .i64 a0_1, .int .i64 a0_2, .slice Ao l0_3.length co] (0, 0) _ rfl (B.kb0 (B.bp4 BR)) Try.underlying27 rfl (by kernel_rfl)) rfl ?_
      exact ⟨_, by first | rfl | (simp; done), Kd.R_mono (B.rf4 HO BR) (fun _ hk => trivial), B.bl HB⟩
set_option maxHeartbeats 4000000 in
theorem invert_no (a0_0 : Int) (a0_1 : Int) (a0_2 : Int) (A0_3 : Option Addr) (c0_3 : Nat) (l0_3 : List Int) (w : World) (hr0_3 : Kd.C (Kd.int .i64) w A0_3 l0_3.length l0_3) (hc0_3 : l0_3.length ≤ c0_3) (hv : B.okImg a0_0 a0_1 a0_2 l0_3 = false) :
    Calls Try.prog 29 #[.agg #[.int .i64 a0_0, .int .i64 a0_1, .int .i64 a0_2, .slice A0_3 l0_3.length c0_3]] w fun e w' => ∃ v3_ : Value, e = .returned (.agg #[.int .i64 0, .int .i64 0, .int .i64 0, v3_]) ∧ Kd.R (Kd.int .i64) 3 w' w.heap.size (fun _ => True) v3_ [] ∧ Below w.heap.size w w' := by
  have hu28 := Try.underlying27
  have H1 := Aside0.mk (fun (W : World) (hW : Below w.heap.size w W) => impl_isImage.calls a0_0 a0_1 a0_2 A0_3 c0_3 l0_3 false W (Kd.C_below hr0_3 hW) hc0_3 (by rw [isImage_ok, hv]))
  have BM : Aside0 (((w.alloc (.cells #[.int .i64 a0_0, .int .i64 a0_1, .int .i64 a0_2, .slice A0_3 l0_3.length c0_3] 27)).alloc (.cells #[.int .i64 0, .int .i64 0, .int .i64 0, .slice none 0 0] 27)).heap[w.heap.size]? = some (.cells #[.int .i64 a0_0, .int .i64 a0_1, .int .i64 a0_2, .slice A0_3 l0_3.length c0_3] 27 (0, 0))) := ⟨(blk_alloc (heap_alloc_new w (.cells #[.int .i64 a0_0, .int .i64 a0_1, .int .i64 a0_2, .slice A0_3 l0_3.length c0_3] 27)) _)⟩
  have BZ : Aside0 (((w.alloc (.cells #[.int .i64 a0_0, .int .i64 a0_1, .int .i64 a0_2, .slice A0_3 l0_3.length c0_3] 27)).alloc (.cells #[.int .i64 0, .int .i64 0, .int .i64 0, .slice none 0 0] 27)).heap[w.heap.size + 1]? = some (.cells #[.int .i64 0, .int .i64 0, .int .i64 0, .slice none 0 0] 27 (0, 0))) := ⟨(by simpa using heap_alloc_new (w.alloc (.cells #[.int .i64 a0_0, .int .i64 a0_1, .int .i64 a0_2, .slice A0_3 l0_3.length c0_3] 27)) (.cells #[.int .i64 0, .int .i64 0, .int .i64 0, .slice none 0 0] 27))⟩
  have HB : Aside0 (Below w.heap.size w ((w.alloc (.cells #[.int .i64 a0_0, .int .i64 a0_1, .int .i64 a0_2, .slice A0_3 l0_3.length c0_3] 27)).alloc (.cells #[.int .i64 0, .int .i64 0, .int .i64 0, .slice none 0 0] 27))) := ⟨(below_alloc (below_alloc (Below.refl _ _) _) _)⟩
  clear hv hr0_3 hc0_3
  go_enter Try.func29, Try.ntmps29
  go_wp2_with fail
  refine (H1.out _ HB.out).mono ?_
  rintro e w1 ⟨rfl, hb1⟩
  have n0_ := Aside0.mk (blk_below BM.out hb1)
  have n1_ := Aside0.mk (blk_below BZ.out hb1)
  have nb_ := Aside0.mk (below_step HB.out hb1)
  clear BM BZ HB hb1
  have BM := n0_
  have BZ := n1_
  have HB := nb_
  clear n0_ n1_ nb_
  have hcBM0 := B.bc BM 0
  have hcBM1 := B.bc BM 1
  have hcBM2 := B.bc BM 2
  have hcBM3 := B.bc BM 3
  have hcBZ0 := B.bc BZ 0
  have hcBZ1 := B.bc BZ 1
  have hcBZ2 := B.bc BZ 2
  have hcBZ3 := B.bc BZ 3
  have hfBZ0 := blk_frozen BZ.out 0
  have hfBZ1 := blk_frozen BZ.out 1
  have hfBZ2 := blk_frozen BZ.out 2
  have hfBZ3 := blk_frozen BZ.out 3
  go_wp2
  refine bodyPost_ret (results_cell_row rfl _ _ (w.heap.size + 1) 27 #[.int .i64 0, .int .i64 0, .int .i64 0, .slice none 0 0] (0, 0) _ rfl (by first | exact BZ.out | (refine blk_put (cs := #[.int .i64 0, .int .i64 0, .int .i64 0, .slice none 0 0]) ?_ 3 _ rfl; refine blk_put (cs := #[.int .i64 0, .int .i64 0, .int .i64 0, .slice none 0 0]) ?_ 2 _ rfl; refine blk_put (cs := #[.int .i64 0, .int .i64 0, .int .i64 0, .slice none 0 0]) ?_ 1 _ rfl; refine blk_put (cs := #[.int .i64 0, .int .i64 0, .int .i64 0, .slice none 0 0]) ?_ 0 _ rfl; exact BZ.out)) Try.underlying27 rfl (by kernel_rfl)) rfl ?_
  exact ⟨_, by first | rfl | (simp; done), Kd.R_nil _ _ _ _ _, by first | exact HB.out | exact (below_set (below_set (below_set (below_set HB.out (by omega)) (by omega)) (by omega)) (by omega))⟩
set_option maxHeartbeats 4000000 in
theorem invert_yes (a0_0 : Int) (a0_1 : Int) (a0_2 : Int) (A0_3 : Option Addr) (c0_3 : Nat) (l0_3 : List Int) (w : World) (hr0_3 : Kd.C (Kd.int .i64) w A0_3 l0_3.length l0_3) (hc0_3 : l0_3.length ≤ c0_3) (hv : B.okImg a0_0 a0_1 a0_2 l0_3 = true) :
    Calls Try.prog 29 #[.agg #[.int .i64 a0_0, .int .i64 a0_1, .int .i64 a0_2, .slice A0_3 l0_3.length c0_3]] w fun e w' => ∃ v3_ : Value, e = .returned (.agg #[.int .i64 a0_0, .int .i64 a0_1, .int .i64 a0_2, v3_]) ∧ Kd.R (Kd.int .i64) 3 w' w.heap.size (fun _ => True) v3_ (l0_3.map inv) ∧ Below w.heap.size w w' := by
  have hu28 := Try.underlying27
  have H1 := Aside0.mk (fun (W : World) (hW : Below w.heap.size w W) => impl_isImage.calls a0_0 a0_1 a0_2 A0_3 c0_3 l0_3 true W (Kd.C_below hr0_3 hW) hc0_3 (by rw [isImage_ok, hv]))
  have ho := (B.okImg_img hv).1
  have hl : l0_3.length ≤ 1024 := okImg_len hv
  have H3 := Aside0.mk (fun (W : World) (hW : Below w.heap.size w W) => mapInv_calls a0_0 a0_1 a0_2 A0_3 c0_3 l0_3 W (Kd.C_below hr0_3 hW) hc0_3 hl)
  generalize htb : l0_3.map inv = tb at H3 ⊢
  clear ho hl htb
  have BM : Aside0 (((w.alloc (.cells #[.int .i64 a0_0, .int .i64 a0_1, .int .i64 a0_2, .slice A0_3 l0_3.length c0_3] 27)).alloc (.cells #[.int .i64 0, .int .i64 0, .int .i64 0, .slice none 0 0] 27)).heap[w.heap.size]? = some (.cells #[.int .i64 a0_0, .int .i64 a0_1, .int .i64 a0_2, .slice A0_3 l0_3.length c0_3] 27 (0, 0))) := ⟨(blk_alloc (heap_alloc_new w (.cells #[.int .i64 a0_0, .int .i64 a0_1, .int .i64 a0_2, .slice A0_3 l0_3.length c0_3] 27)) _)⟩
  have BZ : Aside0 (((w.alloc (.cells #[.int .i64 a0_0, .int .i64 a0_1, .int .i64 a0_2, .slice A0_3 l0_3.length c0_3] 27)).alloc (.cells #[.int .i64 0, .int .i64 0, .int .i64 0, .slice none 0 0] 27)).heap[w.heap.size + 1]? = some (.cells #[.int .i64 0, .int .i64 0, .int .i64 0, .slice none 0 0] 27 (0, 0))) := ⟨(by simpa using heap_alloc_new (w.alloc (.cells #[.int .i64 a0_0, .int .i64 a0_1, .int .i64 a0_2, .slice A0_3 l0_3.length c0_3] 27)) (.cells #[.int .i64 0, .int .i64 0, .int .i64 0, .slice none 0 0] 27))⟩
  have HB : Aside0 (Below w.heap.size w ((w.alloc (.cells #[.int .i64 a0_0, .int .i64 a0_1, .int .i64 a0_2, .slice A0_3 l0_3.length c0_3] 27)).alloc (.cells #[.int .i64 0, .int .i64 0, .int .i64 0, .slice none 0 0] 27))) := ⟨(below_alloc (below_alloc (Below.refl _ _) _) _)⟩
  clear hv hr0_3 hc0_3
  go_enter Try.func29, Try.ntmps29
  go_wp2_with fail
  refine (H1.out _ HB.out).mono ?_
  rintro e w1 ⟨rfl, hb1⟩
  have n0_ := Aside0.mk (blk_below BM.out hb1)
  have n1_ := Aside0.mk (blk_below BZ.out hb1)
  have nb_ := Aside0.mk (below_step HB.out hb1)
  clear BM BZ HB hb1
  have BM := n0_
  have BZ := n1_
  have HB := nb_
  clear n0_ n1_ nb_
  have hcBM0 := B.bc BM 0
  have hcBM1 := B.bc BM 1
  have hcBM2 := B.bc BM 2
  have hcBM3 := B.bc BM 3
  go_wp2_with fail
  refine (H3.out _ HB.out).mono ?_
  rintro e w3 ⟨v, rfl, hrow, hb3⟩
  clear hcBM0 hcBM1 hcBM2 hcBM3
  have HO := Aside0.mk (Kd.R_lower hrow HB.out.size)
  clear hrow
  have n0_ := Aside0.mk (blk_below BM.out hb3)
  have n1_ := Aside0.mk (blk_below BZ.out hb3)
  have nb_ := Aside0.mk (below_step HB.out hb3)
  clear BM BZ HB hb3
  have BM := n0_
  have BZ := n1_
  have HB := nb_
  clear n0_ n1_ nb_
  obtain ⟨Av, cv, ev⟩ := Kd.R_slice HO.out
  subst ev
  have hcBZ0 := B.bc BZ 0
  have hcBZ1 := B.bc BZ 1
  have hcBZ2 := B.bc BZ 2
  have hcBZ3 := B.bc BZ 3
  have hfBZ0 := blk_frozen BZ.out 0
  have hfBZ1 := blk_frozen BZ.out 1
  have hfBZ2 := blk_frozen BZ.out 2
  have hfBZ3 := blk_frozen BZ.out 3
  go_wp2
  refine bodyPost_ret (results_cell_row rfl _ _ (w.heap.size + 1) 27 #[.int .i64 a0_0, .int .i64 a0_1, .int .i64 a0_2, .slice Av tb.length cv] (0, 0) _ rfl (by first | exact BZ.out | (refine blk_put (cs := #[.int .i64 a0_0, .int .i64 a0_1, .int .i64 a0_2, .slice none 0 0]) ?_ 3 _ rfl; refine blk_put (cs := #[.int .i64 a0_0, .int .i64 a0_1, .int .i64 0, .slice none 0 0]) ?_ 2 _ rfl; refine blk_put (cs := #[.int .i64 a0_0, .int .i64 0, .int .i64 0, .slice none 0 0]) ?_ 1 _ rfl; refine blk_put (cs := #[.int .i64 0, .int .i64 0, .int .i64 0, .slice none 0 0]) ?_ 0 _ rfl; exact BZ.out)) Try.underlying27 rfl (by kernel_rfl)) rfl ?_
  exact ⟨_, by first | rfl | (simp; done), Kd.R_mono (Kd.R_far (p := ⟨w.heap.size + 1, 3, none⟩) (Kd.R_far (p := ⟨w.heap.size + 1, 2, none⟩) (Kd.R_far (p := ⟨w.heap.size + 1, 1, none⟩) (Kd.R_far (p := ⟨w.heap.size + 1, 0, none⟩) (Kd.R_types HO.out BZ.out (by decide)) (fun _ hk => hk.2) (.int .i64 a0_0)) (fun _ hk => hk.2) (.int .i64 a0_1)) (fun _ hk => hk.2) (.int .i64 a0_2)) (fun _ hk => hk.2) (.slice Av tb.length cv)) (fun _ _ => trivial), by first | exact HB.out | exact (below_set (below_set (below_set (below_set HB.out (by omega)) (by omega)) (by omega)) (by omega))⟩
theorem impl_InvertImage.calls (a0_0 : Int) (a0_1 : Int) (a0_2 : Int) (A0_3 : Option Addr) (c0_3 : Nat) (l0_3 : List Int) (r1 : Int) (r2 : Int) (r3 : Int) (r4 : List Int) (w : World) (hr0_3 : Kd.C (Kd.int .i64) w A0_3 l0_3.length l0_3) (hc0_3 : l0_3.length ≤ c0_3) (h : impl_InvertImage.f a0_0 a0_1 a0_2 l0_3 = some (r1, r2, r3, r4)) :
    Calls Try.prog 29 #[.agg #[.int .i64 a0_0, .int .i64 a0_1, .int .i64 a0_2, .slice A0_3 l0_3.length c0_3]] w fun e w' => ∃ v3_ : Value, e = .returned (.agg #[.int .i64 r1, .int .i64 r2, .int .i64 r3, v3_]) ∧ Kd.R (Kd.int .i64) 3 w' w.heap.size (fun _ => True) v3_ r4 ∧ Below w.heap.size w w' := by
  unfold impl_InvertImage.f at h
  by_cases hv : B.okImg a0_0 a0_1 a0_2 l0_3 = true
  · rw [if_pos hv] at h
    simp only [Option.some.injEq, Prod.mk.injEq] at h
    obtain ⟨rfl, rfl, rfl, rfl⟩ := h
    exact invert_yes a0_0 a0_1 a0_2 A0_3 c0_3 l0_3 w hr0_3 hc0_3 hv
  · rw [if_neg hv] at h
    simp only [Option.some.injEq, Prod.mk.injEq] at h
    obtain ⟨rfl, rfl, rfl, rfl⟩ := h
    exact invert_no a0_0 a0_1 a0_2 A0_3 c0_3 l0_3 w hr0_3 hc0_3 (Bool.eq_false_iff.2 hv)

/-! ### spec_copyImage: function 51 -/
def spec_copyImage.f (a0_0 : Int) (a0_1 : Int) (a0_2 : Int) (l0_3 : List Int) : Option (Int × Int × Int × List Int) := (spec_copyInts.f l0_3).bind fun t458 => (some (a0_0, a0_1, a0_2, t458))
def spec_copyImage.T1 : Bool × List (List Nat × List Nat) := (true, [([], []), ([0], [0]), ([], []), ([2], [2]), ([], []), ([4], [4]), ([], []), ([6], [6]), ([7], [7]), ([1, 3, 5, 8], [1, 3, 5, 8]), ([9, 8, 0, 1, 2, 3, 4, 5, 6, 7, 8, 9], [9])])
def spec_copyImage.B1 : List Nat := [0, 1, 0, 4, 0, 16, 0, 64, 192, 511, 1023]
theorem spec_copyImage.tab1 : rtab .any (opsOf Try.f51 1) = spec_copyImage.T1 := by kernel_rfl
theorem spec_copyImage.bits1 : waitsOk spec_copyImage.T1.2 spec_copyImage.B1 = true := by kernel_rfl
set_option maxHeartbeats 8000000 in
set_option maxRecDepth 100000 in
theorem spec_copyImage.calls (a0_0 : Int) (a0_1 : Int) (a0_2 : Int) (A0_3 : Option Addr) (c0_3 : Nat) (l0_3 : List Int) (r1 : Int) (r2 : Int) (r3 : Int) (r4 : List Int) (w : World) (hr0_3 : Kd.C (Kd.int .i64) w A0_3 l0_3.length l0_3) (hc0_3 : l0_3.length ≤ c0_3) (h : spec_copyImage.f a0_0 a0_1 a0_2 l0_3 = some (r1, r2, r3, r4)) :
    Calls Try.prog 51 #[.agg #[.int .i64 a0_0, .int .i64 a0_1, .int .i64 a0_2, .slice A0_3 l0_3.length c0_3]] w fun e w' => ∃ v3_ : Value, e = .returned (.agg #[.int .i64 r1, .int .i64 r2, .int .i64 r3, v3_]) ∧ Kd.R (Kd.int .i64) 3 w' w.heap.size (fun _ => True) v3_ r4 ∧ Below w.heap.size w w' := by
  have hu27 := Try.underlying27
  have HR0_3 := Aside0.mk hr0_3
  have HC0_3 := Aside0.mk hc0_3
  clear hr0_3 hc0_3
  have HB := Aside0.mk (Below.refl w.heap.size w)
  have H : ((spec_copyInts.f l0_3).bind fun t458 => (some (a0_0, a0_1, a0_2, t458))) = some (r1, r2, r3, r4) := h
  clear h
  replace H := Option.bind_eq_some_iff.mp H
  obtain ⟨t458, A20, H⟩ := H
  replace H : (some (a0_0, a0_1, a0_2, t458)) = some (r1, r2, r3, r4) := H
  have A2 := Aside0.mk A20
  clear A20
  simp only [Option.some.injEq, Prod.mk.injEq] at H
  obtain ⟨rfl, rfl, rfl, rfl⟩ := H
  go_enter Try.func51, Try.ntmps51
  try go_wp2_with (first | ((with_reducible refine gate_dst (N := 1) rfl ?_); refine box_event ?hg (N := 1) ?hd (cs := #[.int .i64 a0_0, .int .i64 a0_1, .int .i64 a0_2, .slice A0_3 l0_3.length c0_3]) (t := 27) ?hr ?_; (case hd => rfl); (case hg => rfl); (case hr => first | (go_simp; done) | (go_simp; rfl)); intro gb456 hg w3 hbox hb; have n0_ := Aside0.mk (below_step (B.bl HB) hb); have n1_ := Aside0.mk (hbox); have n2_ := Aside0.mk (B.nle hg (below_size (B.bl HB))); have n3_ := Aside0.mk (B.nle hg (below_size (B.bl HB))); clear HB; have HB := n0_; have BK456 := n1_; have GW456 := n2_; have GE456 := n3_; clear n0_ n1_ n2_ n3_; clear hb hbox hg) | ((with_reducible refine gate_dst (N := 2) rfl ?_); refine box_event ?hg (N := 2) ?hd (cs := #[.int .i64 0, .int .i64 0, .int .i64 0, .slice none 0 0]) (t := 27) ?hr ?_; (case hd => rfl); (case hg => rfl); (case hr => first | (go_simp; done) | (go_simp; rfl)); intro gb457 hg w4 hbox hb; have n0_ := Aside0.mk (blk_below (B.kb BK456) hb); have n1_ := Aside0.mk (below_step (B.bl HB) hb); have n2_ := Aside0.mk (hbox); have n3_ := Aside0.mk (B.nle hg (below_size (B.bl HB))); have n4_ := Aside0.mk (B.nle hg (below_size (B.bl HB))); have n5_ := Aside0.mk (B.nlt hg (blk_lt (B.kb BK456))); have n6_ := Aside0.mk (B.ngt hg (blk_lt (B.kb BK456))); clear BK456 HB; have BK456 := n0_; have HB := n1_; have BK457 := n2_; have GW457 := n3_; have GE457 := n4_; have NB456_457 := n5_; have NB457_456 := n6_; clear n0_ n1_ n2_ n3_ n4_ n5_ n6_; clear hb hbox hg))
  have n0_ := Aside0.mk (blk_drew BK456.out)
  have n1_ := Aside0.mk (blk_drew BK457.out)
  have n2_ := Aside0.mk (below_drew1 HB.out)
  clear BK456 BK457 HB
  have BK456 := n0_
  have BK457 := n1_
  have HB := n2_
  clear n0_ n1_ n2_
  refine start_ (n := 11) (S := fun w' => w'.cell? ⟨gb456, 0, none⟩ = some (.int .i64 a0_0) ∧ w'.cell? ⟨gb456, 1, none⟩ = some (.int .i64 a0_1) ∧ w'.cell? ⟨gb456, 2, none⟩ = some (.int .i64 a0_2) ∧ w'.cell? ⟨gb456, 3, none⟩ = some (.slice A0_3 l0_3.length c0_3)) (ds := []) #[false, false, false, false, false, false, false, false, false, false, false] (by kernel_rfl) rfl rfl ⟨B.bc BK456 0, B.bc BK456 1, B.bc BK456 2, B.bc BK456 3⟩ (fun hHeld => ?_); refine with_tabW spec_copyImage.tab1 spec_copyImage.bits1 (fun HT_ HW_ => ?_)
  generalize w4.drew = w5 at BK456 BK457 HB hHeld ⊢
  refine pure_ (i := 0) (N := some 3) (v := ?_) (a' := ?_) #[true, false, false, false, false, false, false, false, false, false, false] rfl rfl (any_of HT_.out (by kernel_rfl)) (fun _ _ _ h => h) (Or.inl ⟨by rfl, ?_⟩) ?_ ?_
  rotate_left
  · intro w'
    go_simp
    with_reducible rfl
  rotate_left
  · simp only [Act.put, List.setIfInBounds_toArray, List.set_cons_zero, List.set_cons_succ, i64_w, i32_w]
    rfl
  refine pure_ (i := 2) (N := some 5) (v := ?_) (a' := ?_) #[true, false, true, false, false, false, false, false, false, false, false] rfl rfl (any_of HT_.out (by kernel_rfl)) (fun _ _ _ h => h) (Or.inl ⟨by rfl, ?_⟩) ?_ ?_
  rotate_left
  · intro w'
    go_simp
    with_reducible rfl
  rotate_left
  · simp only [Act.put, List.setIfInBounds_toArray, List.set_cons_zero, List.set_cons_succ, i64_w, i32_w]
    rfl
  refine pure_ (i := 4) (N := some 7) (v := ?_) (a' := ?_) #[true, false, true, false, true, false, false, false, false, false, false] rfl rfl (any_of HT_.out (by kernel_rfl)) (fun _ _ _ h => h) (Or.inl ⟨by rfl, ?_⟩) ?_ ?_
  rotate_left
  · intro w'
    go_simp
    with_reducible rfl
  rotate_left
  · simp only [Act.put, List.setIfInBounds_toArray, List.set_cons_zero, List.set_cons_succ, i64_w, i32_w]
    rfl
  refine pure_ (i := 6) (N := some 9) (v := ?_) (a' := ?_) #[true, false, true, false, true, false, true, false, false, false, false] rfl rfl (any_of HT_.out (by kernel_rfl)) (fun _ _ _ h => h) (Or.inl ⟨by rfl, ?_⟩) ?_ ?_
  rotate_left
  · intro w'
    go_simp
    with_reducible rfl
  rotate_left
  · simp only [Act.put, List.setIfInBounds_toArray, List.set_cons_zero, List.set_cons_succ, i64_w, i32_w]
    rfl
  refine take_ (i := 1) (N := some 4) (v := ?_) (a' := ?_) #[true, true, true, false, true, false, true, false, false, false, false] rfl rfl (take_ofW HT_.out HW_.out (by kernel_rfl)) (fun _ _ _ h => h) (Or.inl ⟨by rfl, ?_⟩) hHeld ?_ ?_
  rotate_left
  · rintro w' ⟨s0, s1, s2, s3⟩
    go_simp
    with_reducible rfl
  rotate_left
  · simp only [Act.put, List.setIfInBounds_toArray, List.set_cons_zero, List.set_cons_succ, i64_w, i32_w]
    rfl
  refine take_ (i := 3) (N := some 6) (v := ?_) (a' := ?_) #[true, true, true, true, true, false, true, false, false, false, false] rfl rfl (take_ofW HT_.out HW_.out (by kernel_rfl)) (fun _ _ _ h => h) (Or.inl ⟨by rfl, ?_⟩) hHeld ?_ ?_
  rotate_left
  · rintro w' ⟨s0, s1, s2, s3⟩
    go_simp
    with_reducible rfl
  rotate_left
  · simp only [Act.put, List.setIfInBounds_toArray, List.set_cons_zero, List.set_cons_succ, i64_w, i32_w]
    rfl
  refine take_ (i := 5) (N := some 8) (v := ?_) (a' := ?_) #[true, true, true, true, true, true, true, false, false, false, false] rfl rfl (take_ofW HT_.out HW_.out (by kernel_rfl)) (fun _ _ _ h => h) (Or.inl ⟨by rfl, ?_⟩) hHeld ?_ ?_
  rotate_left
  · rintro w' ⟨s0, s1, s2, s3⟩
    go_simp
    with_reducible rfl
  rotate_left
  · simp only [Act.put, List.setIfInBounds_toArray, List.set_cons_zero, List.set_cons_succ, i64_w, i32_w]
    rfl
  refine take_ (i := 7) (N := some 10) (v := ?_) (a' := ?_) #[true, true, true, true, true, true, true, true, false, false, false] rfl rfl (take_ofW HT_.out HW_.out (by kernel_rfl)) (fun _ _ _ h => h) (Or.inl ⟨by rfl, ?_⟩) hHeld ?_ ?_
  rotate_left
  · rintro w' ⟨s0, s1, s2, s3⟩
    go_simp
    with_reducible rfl
  rotate_left
  · simp only [Act.put, List.setIfInBounds_toArray, List.set_cons_zero, List.set_cons_succ, i64_w, i32_w]
    rfl
  refine one_ (i := 8) (N := some 11) #[true, true, true, true, true, true, true, true, true, false, false] rfl rfl (one_of HT_.out (by kernel_rfl)) (by decide) (fun K hK => ?_)
  refine goes_ Try.func60 (by kernel_rfl) rfl #[.slice A0_3 l0_3.length c0_3] (by rfl) rfl rfl B.am ?_
  with_reducible refine (spec_copyInts.calls _ _ l0_3 t458 _ ?side1 ?side2 A2.out).mono ?_
  (case side1 => exact B.kc (Kd.C_below HR0_3.out HB.out))
  (case side2 => exact HC0_3.out)
  rintro e w6 ⟨v459, rfl, ho0, hb⟩
  refine ⟨_, rfl, ?_⟩
  have n0_ := Aside0.mk (Kd.R_lower ho0 (below_size (B.bl HB)))
  have n1_ := Aside0.mk (blk_below (B.kb BK456) hb)
  have n2_ := Aside0.mk (blk_below (B.kb BK457) hb)
  have n3_ := Aside0.mk (below_step (B.bl HB) hb)
  clear BK456 BK457 HB
  have HO460 := n0_
  have BK456 := n1_
  have BK457 := n2_
  have HB := n3_
  clear n0_ n1_ n2_ n3_
  (try clear hb)
  (try clear hb2)
  (try clear hk)
  (try clear hi)
  (try clear ho0)
  obtain ⟨Ao7, co7, eo7⟩ := Kd.R_slice HO460.out
  (first | subst eo7 | (injection eo7 with f1_ f2_ f3_; have f4_ := f1_.symm; have f5_ := f3_.symm; clear f1_ f2_ f3_; subst f4_; subst f5_))
  refine hK.out _ _ ⟨B.bc BK456 0, B.bc BK456 1, B.bc BK456 2, B.bc BK456 3⟩ (fun hHeld => ?_)
  clear hK K
  refine norm_ (a' := ?_) ?_ ?_
  rotate_left
  · show Act.put _ (some 11) _ = _
    simp only [Act.put, List.setIfInBounds_toArray, List.set_cons_zero, List.set_cons_succ, i64_w, i32_w]
    rfl
  refine pure_ (i := 9) (N := some 12) (v := ?_) (a' := ?_) #[true, true, true, true, true, true, true, true, true, true, false] rfl rfl (any_of HT_.out (by kernel_rfl)) (fun _ _ _ h => h) (Or.inl ⟨by rfl, ?_⟩) ?_ ?_
  rotate_left
  · intro w'
    go_simp
    with_reducible rfl
  rotate_left
  · simp only [Act.put, List.setIfInBounds_toArray, List.set_cons_zero, List.set_cons_succ, i64_w, i32_w]
    rfl
  refine one_ (i := 10) (N := none) #[true, true, true, true, true, true, true, true, true, true, true] rfl rfl (one_of HT_.out (by kernel_rfl)) (by decide) (fun K hK => ?_)
  have hs8 : w6.cell? ⟨gb457, 0, none⟩ = some (.int .i64 0) := B.bc BK457 0
  have hfs8 := blk_frozen BK457.out 0
  have hns8_0 := NB456_457.out
  have hms8_0 := NB457_456.out
  have hs9 : w6.cell? ⟨gb457, 1, none⟩ = some (.int .i64 0) := B.bc BK457 1
  have hfs9 := blk_frozen BK457.out 1
  have hns9_0 := NB456_457.out
  have hms9_0 := NB457_456.out
  have hs10 : w6.cell? ⟨gb457, 2, none⟩ = some (.int .i64 0) := B.bc BK457 2
  have hfs10 := blk_frozen BK457.out 2
  have hns10_0 := NB456_457.out
  have hms10_0 := NB457_456.out
  have hs11 : w6.cell? ⟨gb457, 3, none⟩ = some (.slice none 0 0) := B.bc BK457 3
  have hfs11 := blk_frozen BK457.out 3
  have hns11_0 := NB456_457.out
  have hms11_0 := NB457_456.out
  refine skip_ (w1 := ?_) (by rfl) rfl ?_ ?_
  rotate_left
  · go_simp
    rfl
  refine hK.out _ _ ⟨(B.cf4 NB456_457 hHeld.1), (B.cf4 NB456_457 hHeld.2.1), (B.cf4 NB456_457 hHeld.2.2.1), (B.cf4 NB456_457 hHeld.2.2.2)⟩ (fun hHeld => ?_)
  clear hK K
  refine done_ (done_of HT_.out (by kernel_rfl)) ?_
  try go_wp2
  refine bodyPost_ret (results_cell_row rfl _ _ gb457 27 #[.int .i64 a0_0, .int .i64 a0_1, .int .i64 a0_2, .slice Ao7 t458.length co7] (0, 0) _ rfl (B.kb0 (B.bp4 BK457)) Try.underlying27 rfl (by kernel_rfl)) rfl ?_
  exact ⟨_, by first | rfl | (simp [errW_none, errW_some] <;> rfl) | (simp [*, errW_none, errW_some] <;> rfl), by (with_reducible repeat (first | apply Kd.R_alloc | apply Kd.R_drewN | apply Kd.R_drew)); exact Kd.R_mono (B.rf4 HO460 BK457) (fun _ hk => trivial), B.bl HB⟩

/-! ### spec_InvertImage: function 31 -/
def spec_InvertImage.l0 : Nat → Int → Int → Int → Int → List Int → Int → Int → Int → List Int → Option (Int × Int × Int × List Int)
  | 0, _, _, _, _, _, _, _, _, _ => none
  | k + 1, x4, x462000, x462001, x462002, x462003, x471000, x471001, x471002, x471003 => if x4 < (x471003.length : Int) then (if 0 ≤ x4 then (if x4 < (x462003.length : Int) then (spec_InvertImage.l0 k (wrap64 (x4 + 1)) x462000 x462001 x462002 x462003 x471000 x471001 x471002 (x471003.set (x4 : Int).toNat (wrap64 (255 - (rd x462003 x4))))) else (none)) else (none)) else (some (x471000, x471001, x471002, x471003))
def spec_InvertImage.f (k : Nat) (a0_0 : Int) (a0_1 : Int) (a0_2 : Int) (l0_3 : List Int) : Option (Int × Int × Int × List Int) := (spec_validImage.f k a0_0 a0_1 a0_2 l0_3).bind fun t463 => (if t463 = true then ((spec_copyImage.f a0_0 a0_1 a0_2 l0_3).bind fun bt464 => (spec_InvertImage.l0 k 0 a0_0 a0_1 a0_2 l0_3 bt464.1 bt464.2.1 bt464.2.2.1 bt464.2.2.2)) else (some (0, 0, 0, ([] : List Int))))
theorem spec_InvertImage.mono_l : ∀ k, (∀ y0 y1 y2 y3 y4 y5 y6 y7 y8, LeO (spec_InvertImage.l0 k y0 y1 y2 y3 y4 y5 y6 y7 y8) (spec_InvertImage.l0 (k + 1) y0 y1 y2 y3 y4 y5 y6 y7 y8))
  | 0 => fun _ _ _ _ _ _ _ _ _ r h => by simp [spec_InvertImage.l0] at h
  | k + 1 => by
    have ih0 := spec_InvertImage.mono_l k
    · intro y0 y1 y2 y3 y4 y5 y6 y7 y8
      unfold spec_InvertImage.l0
      repeat' first
      | (with_reducible exact ih0 _ _ _ _ _ _ _ _ _)
      | (with_reducible exact spec_validImage.mono _ _ _ _ _)
      | (with_reducible exact LeO.refl _)
      | (with_reducible exact LeO.none _)
      | (with_reducible refine LeO.ite ?_ ?_)
      | (with_reducible refine LeO.bind ?_ (fun _ => ?_))
      | exact ih0 _ _ _ _ _ _ _ _ _
      | exact spec_validImage.mono _ _ _ _ _
      | exact LeO.none _
      | refine LeO.ite ?_ ?_
      | refine LeO.bind ?_ (fun _ => ?_)
theorem spec_InvertImage.mono : ∀ a0 a1 a2 a3 k, LeO (spec_InvertImage.f k a0 a1 a2 a3) (spec_InvertImage.f (k + 1) a0 a1 a2 a3) := by
  intro a0 a1 a2 a3 k
  have ih0 := spec_InvertImage.mono_l k
  unfold spec_InvertImage.f
  repeat' first
      | (with_reducible exact ih0 _ _ _ _ _ _ _ _ _)
      | (with_reducible exact spec_validImage.mono _ _ _ _ _)
      | (with_reducible exact LeO.refl _)
      | (with_reducible exact LeO.none _)
      | (with_reducible refine LeO.ite ?_ ?_)
      | (with_reducible refine LeO.bind ?_ (fun _ => ?_))
      | exact ih0 _ _ _ _ _ _ _ _ _
      | exact spec_validImage.mono _ _ _ _ _
      | exact LeO.none _
      | refine LeO.ite ?_ ?_
      | refine LeO.bind ?_ (fun _ => ?_)
def spec_InvertImage.T7 : Bool × List (List Nat × List Nat) := (true, [([], []), ([0], [0]), ([], []), ([], []), ([3], [3]), ([], []), ([4, 5], [4, 5]), ([6], [6]), ([7], [7]), ([1, 2, 0, 1, 2, 3, 4, 5, 6, 7, 8], [1, 2]), ([9, 8, 0, 1, 2, 3, 4, 5, 6, 7, 8], [8, 9])])
def spec_InvertImage.B7 : List Nat := [0, 1, 0, 0, 8, 0, 56, 120, 248, 511, 1023]
theorem spec_InvertImage.tab7 : rtab .any (opsOf Try.f31 7) = spec_InvertImage.T7 := by kernel_rfl
theorem spec_InvertImage.bits7 : waitsOk spec_InvertImage.T7.2 spec_InvertImage.B7 = true := by kernel_rfl
set_option maxHeartbeats 8000000 in
set_option maxRecDepth 100000 in
theorem spec_InvertImage.calls (k : Nat) (a0_0 : Int) (a0_1 : Int) (a0_2 : Int) (A0_3 : Option Addr) (c0_3 : Nat) (l0_3 : List Int) (r1 : Int) (r2 : Int) (r3 : Int) (r4 : List Int) (w : World) (hr0_3 : Kd.C (Kd.int .i64) w A0_3 l0_3.length l0_3) (hc0_3 : l0_3.length ≤ c0_3) (h : spec_InvertImage.f k a0_0 a0_1 a0_2 l0_3 = some (r1, r2, r3, r4)) :
    Calls Try.prog 31 #[.agg #[.int .i64 a0_0, .int .i64 a0_1, .int .i64 a0_2, .slice A0_3 l0_3.length c0_3]] w fun e w' => ∃ v3_ : Value, e = .returned (.agg #[.int .i64 r1, .int .i64 r2, .int .i64 r3, v3_]) ∧ Kd.R (Kd.int .i64) 3 w' w.heap.size (fun _ => True) v3_ r4 ∧ Below w.heap.size w w' := by
  have hu27 := Try.underlying27
  have HR0_3 := Aside0.mk hr0_3
  have HC0_3 := Aside0.mk hc0_3
  clear hr0_3 hc0_3
  have HB := Aside0.mk (Below.refl w.heap.size w)
  have H : ((spec_validImage.f k a0_0 a0_1 a0_2 l0_3).bind fun t463 => (if t463 = true then ((spec_copyImage.f a0_0 a0_1 a0_2 l0_3).bind fun bt464 => (spec_InvertImage.l0 k 0 a0_0 a0_1 a0_2 l0_3 bt464.1 bt464.2.1 bt464.2.2.1 bt464.2.2.2)) else (some (0, 0, 0, ([] : List Int))))) = some (r1, r2, r3, r4) := h
  clear h
  replace H := Option.bind_eq_some_iff.mp H
  obtain ⟨t463, A20, H⟩ := H
  replace H : (if t463 = true then ((spec_copyImage.f a0_0 a0_1 a0_2 l0_3).bind fun bt464 => (spec_InvertImage.l0 k 0 a0_0 a0_1 a0_2 l0_3 bt464.1 bt464.2.1 bt464.2.2.1 bt464.2.2.2)) else (some (0, 0, 0, ([] : List Int)))) = some (r1, r2, r3, r4) := H
  have A2 := Aside0.mk A20
  clear A20
  by_cases c3 : t463 = true
  · subst c3
    have H1 : ((spec_copyImage.f a0_0 a0_1 a0_2 l0_3).bind fun bt464 => (spec_InvertImage.l0 k 0 a0_0 a0_1 a0_2 l0_3 bt464.1 bt464.2.1 bt464.2.2.1 bt464.2.2.2)) = some (r1, r2, r3, r4) := by rw [if_pos rfl] at H; exact H
    clear H
    have H := H1
    clear H1
    replace H := Option.bind_eq_some_iff.mp H
    obtain ⟨⟨t464, t465, t466, t467⟩, A40, H⟩ := H
    replace H : (spec_InvertImage.l0 k 0 a0_0 a0_1 a0_2 l0_3 t464 t465 t466 t467) = some (r1, r2, r3, r4) := H
    have A4 := Aside0.mk A40
    clear A40
    have H' := Aside0.mk H
    clear H
    go_enter Try.func31, Try.ntmps31
    go_wp2_with (first | ((with_reducible refine gate_dst (N := 1) rfl ?_); refine box_event ?hg (N := 1) ?hd (cs := #[.int .i64 a0_0, .int .i64 a0_1, .int .i64 a0_2, .slice A0_3 l0_3.length c0_3]) (t := 27) ?hr ?_; (case hd => rfl); (case hg => rfl); (case hr => first | (go_simp; done) | (go_simp; rfl)); intro gb461 hg w5 hbox hb; have n0_ := Aside0.mk (below_step (B.bl HB) hb); have n1_ := Aside0.mk (hbox); have n2_ := Aside0.mk (B.nle hg (below_size (B.bl HB))); have n3_ := Aside0.mk (B.nle hg (below_size (B.bl HB))); clear HB; have HB := n0_; have BK461 := n1_; have GW461 := n2_; have GE461 := n3_; clear n0_ n1_ n2_ n3_; clear hb hbox hg) | ((with_reducible refine gate_dst (N := 2) rfl ?_); refine box_event ?hg (N := 2) ?hd (cs := #[.int .i64 0, .int .i64 0, .int .i64 0, .slice none 0 0]) (t := 27) ?hr ?_; (case hd => rfl); (case hg => rfl); (case hr => first | (go_simp; done) | (go_simp; rfl)); intro gb462 hg w6 hbox hb; have n0_ := Aside0.mk (blk_below (B.kb BK461) hb); have n1_ := Aside0.mk (below_step (B.bl HB) hb); have n2_ := Aside0.mk (hbox); have n3_ := Aside0.mk (B.nle hg (below_size (B.bl HB))); have n4_ := Aside0.mk (B.nle hg (below_size (B.bl HB))); have n5_ := Aside0.mk (B.nlt hg (blk_lt (B.kb BK461))); have n6_ := Aside0.mk (B.ngt hg (blk_lt (B.kb BK461))); clear BK461 HB; have BK461 := n0_; have HB := n1_; have BK462 := n2_; have GW462 := n3_; have GE462 := n4_; have NB461_462 := n5_; have NB462_461 := n6_; clear n0_ n1_ n2_ n3_ n4_ n5_ n6_; clear hb hbox hg; have hnb7 := NB461_462.out; have hnc7 := NB462_461.out; have hcz8_0 : w6.cell? ⟨gb461, 0, none⟩ = some (.int .i64 a0_0) := B.bc BK461 0; have hcz8_1 : w6.cell? ⟨gb461, 1, none⟩ = some (.int .i64 a0_1) := B.bc BK461 1; have hcz8_2 : w6.cell? ⟨gb461, 2, none⟩ = some (.int .i64 a0_2) := B.bc BK461 2; have hcz8_3 : w6.cell? ⟨gb461, 3, none⟩ = some (.slice A0_3 l0_3.length c0_3) := B.bc BK461 3; have hfz8_0 := blk_frozen BK461.out 0; have hfz8_1 := blk_frozen BK461.out 1; have hfz8_2 := blk_frozen BK461.out 2; have hfz8_3 := blk_frozen BK461.out 3) | ((with_reducible refine gate_callee (f := 36) rfl ?_); refine goesL_ (some 6) rfl rfl Try.func36 (by kernel_rfl) rfl #[.agg #[.int .i64 a0_0, .int .i64 a0_1, .int .i64 a0_2, .slice A0_3 l0_3.length c0_3]] rfl B.am ?_; (with_reducible refine (spec_validImage.calls k a0_0 a0_1 a0_2 _ _ l0_3 true _ ?side1 ?side2 A2.out).mono ?_); (case side1 => exact B.kc (Kd.C_below HR0_3.out HB.out)); (case side2 => exact HC0_3.out); rintro e w9 ⟨rfl, hb⟩; refine ⟨_, rfl, ?_⟩; have n0_ := Aside0.mk (blk_below (B.kb BK461) hb); have n1_ := Aside0.mk (blk_below (B.kb BK462) hb); have n2_ := Aside0.mk (below_step (B.bl HB) hb); clear BK461 BK462 HB; have BK461 := n0_; have BK462 := n1_; have HB := n2_; clear n0_ n1_ n2_; (try clear hb); (try clear hb2); (try clear hk); (try clear hi); have hcz10_0 : w9.cell? ⟨gb461, 0, none⟩ = some (.int .i64 a0_0) := B.bc BK461 0; have hcz10_1 : w9.cell? ⟨gb461, 1, none⟩ = some (.int .i64 a0_1) := B.bc BK461 1; have hcz10_2 : w9.cell? ⟨gb461, 2, none⟩ = some (.int .i64 a0_2) := B.bc BK461 2; have hcz10_3 : w9.cell? ⟨gb461, 3, none⟩ = some (.slice A0_3 l0_3.length c0_3) := B.bc BK461 3; have hfz10_0 := blk_frozen BK461.out 0; have hfz10_1 := blk_frozen BK461.out 1; have hfz10_2 := blk_frozen BK461.out 2; have hfz10_3 := blk_frozen BK461.out 3) | ((with_reducible refine gate_callee (f := 51) rfl ?_); refine goesL_ (some 10) rfl rfl Try.func51 (by kernel_rfl) rfl #[.agg #[.int .i64 a0_0, .int .i64 a0_1, .int .i64 a0_2, .slice A0_3 l0_3.length c0_3]] rfl B.am ?_; (with_reducible refine (spec_copyImage.calls a0_0 a0_1 a0_2 _ _ l0_3 t464 t465 t466 t467 _ ?side1 ?side2 A4.out).mono ?_); (case side1 => exact B.kc (Kd.C_below HR0_3.out HB.out)); (case side2 => exact HC0_3.out); rintro e w11 ⟨v468, rfl, ho0, hb⟩; refine ⟨_, rfl, ?_⟩; have n0_ := Aside0.mk (Kd.R_lower ho0 (below_size (B.bl HB))); have n1_ := Aside0.mk (blk_below (B.kb BK461) hb); have n2_ := Aside0.mk (blk_below (B.kb BK462) hb); have n3_ := Aside0.mk (below_step (B.bl HB) hb); clear BK461 BK462 HB; have HO469 := n0_; have BK461 := n1_; have BK462 := n2_; have HB := n3_; clear n0_ n1_ n2_ n3_; (try clear hb); (try clear hb2); (try clear hk); (try clear hi); (try clear ho0)) | ((with_reducible refine gate_dst (N := 3) rfl ?_); refine box_event ?hg (N := 3) ?hd (cs := #[.int .i64 0, .int .i64 0, .int .i64 0, .slice none 0 0]) (t := 27) ?hr ?_; (case hd => rfl); (case hg => rfl); (case hr => first | (go_simp; done) | (go_simp; rfl)); intro gb470 hg w12 hbox hb; have n0_ := Aside0.mk (Kd.R_below (B.kr HO469) hb); have n1_ := Aside0.mk (blk_below (B.kb BK461) hb); have n2_ := Aside0.mk (blk_below (B.kb BK462) hb); have n3_ := Aside0.mk (below_step (B.bl HB) hb); have n4_ := Aside0.mk (hbox); have n5_ := Aside0.mk (B.nle hg (below_size (B.bl HB))); have n6_ := Aside0.mk (B.nle hg (below_size (B.bl HB))); have n7_ := Aside0.mk (B.nlt hg (blk_lt (B.kb BK461))); have n8_ := Aside0.mk (B.ngt hg (blk_lt (B.kb BK461))); have n9_ := Aside0.mk (B.nlt hg (blk_lt (B.kb BK462))); have n10_ := Aside0.mk (B.ngt hg (blk_lt (B.kb BK462))); clear HO469 BK461 BK462 HB; have HO469 := n0_; have BK461 := n1_; have BK462 := n2_; have HB := n3_; have BK470 := n4_; have GW470 := n5_; have GE470 := n6_; have NB461_470 := n7_; have NB470_461 := n8_; have NB462_470 := n9_; have NB470_462 := n10_; clear n0_ n1_ n2_ n3_ n4_ n5_ n6_ n7_ n8_ n9_ n10_; clear hb hbox hg; have hnb13 := NB470_461.out; have hnc13 := NB461_470.out; have hnb14 := NB470_462.out; have hnc14 := NB462_470.out; have hcz15_0 : w12.cell? ⟨gb470, 0, none⟩ = some (.int .i64 0) := B.bc BK470 0; have hcz15_1 : w12.cell? ⟨gb470, 1, none⟩ = some (.int .i64 0) := B.bc BK470 1; have hcz15_2 : w12.cell? ⟨gb470, 2, none⟩ = some (.int .i64 0) := B.bc BK470 2; have hcz15_3 : w12.cell? ⟨gb470, 3, none⟩ = some (.slice none 0 0) := B.bc BK470 3; have hfz15_0 := blk_frozen BK470.out 0; have hfz15_1 := blk_frozen BK470.out 1; have hfz15_2 := blk_frozen BK470.out 2; have hfz15_3 := blk_frozen BK470.out 3; obtain ⟨Ao16, co16, eo16⟩ := Kd.R_slice HO469.out; subst eo16))
    go_loopg [4] k (fun kq v4 w' => ∃ (x4_1 : Int) (x471003_1 : List Int) (u471003 : Value), v4 = .int .i64 x4_1 ∧ Aside0 (spec_InvertImage.l0 kq x4_1 a0_0 a0_1 a0_2 l0_3 t464 t465 t466 x471003_1 = some (r1, r2, r3, r4)) ∧ Aside0 (kq ≤ k) ∧ Aside0 (Kd.R (Kd.int .i64) 3 w' w.heap.size (fun _ => True) u471003 x471003_1) ∧ Aside0 (w'.heap[gb461]? = some (.cells #[.int .i64 a0_0, .int .i64 a0_1, .int .i64 a0_2, (.slice A0_3 l0_3.length c0_3)] 27 (0, 0))) ∧ Aside0 (w'.heap[gb462]? = some (.cells #[.int .i64 0, .int .i64 0, .int .i64 0, (.slice none 0 0)] 27 (0, 0))) ∧ Aside0 (w'.heap[gb470]? = some (.cells #[.int .i64 t464, .int .i64 t465, .int .i64 t466, u471003] 27 (0, 0))) ∧ Aside0 (Below w.heap.size w w'))
    case atStart => exact ⟨(0), (t467), (.slice Ao16 t467.length co16), (by first | rfl | (simp; done) | (simp [*]; done)), H', ⟨Nat.le_refl _⟩, ⟨B.kr0 (Kd.R_mono (B.rf4 HO469 BK470) (fun _ hk => trivial))⟩, ⟨B.kb0 (B.bf4 BK461 NB461_470)⟩, ⟨B.kb0 (B.bf4 BK462 NB462_470)⟩, ⟨B.kb0 (B.bp4 BK470)⟩, ⟨B.bl HB⟩⟩
    case round =>
      clear H'
      try clear c1
      try clear p2
      try clear c3
      try clear c5
      try clear c7
      try clear c13
      try clear c14
      try clear hcz10_0
      try clear hcz10_1
      try clear hcz10_2
      try clear hcz10_3
      try clear hcz15_0
      try clear hcz15_1
      try clear hcz15_2
      try clear hcz15_3
      try clear hcz8_0
      try clear hcz8_1
      try clear hcz8_2
      try clear hcz8_3
      try clear hfz10_0
      try clear hfz10_1
      try clear hfz10_2
      try clear hfz10_3
      try clear hfz15_0
      try clear hfz15_1
      try clear hfz15_2
      try clear hfz15_3
      try clear hfz8_0
      try clear hfz8_1
      try clear hfz8_2
      try clear hfz8_3
      obtain ⟨x4_1, x471003_1, u471003, rfl, HA, HK1, HO_471003, BK461, BK462, BK470, HB⟩ := hrel
      cases gk with
      | zero => exact absurd HA.out (by simp [spec_InvertImage.l0])
      | succ k1 =>
        have H := HA.out
        clear HA
        simp only [spec_InvertImage.l0] at H
        by_cases c17 : x4_1 < (x471003_1.length : Int)
        · rw [if_pos c17] at H
          have c17b0 : decide (x4_1 < (x471003_1.length : Int)) = true := decide_eq_true c17
          clear c17
          by_cases c18 : 0 ≤ x4_1
          · rw [if_pos c18] at H
            have c18b0 : decide (0 ≤ x4_1) = true := decide_eq_true c18
            clear c18
            by_cases c19 : x4_1 < (l0_3.length : Int)
            · rw [if_pos c19] at H
              have c19b0 : decide (x4_1 < (l0_3.length : Int)) = true := decide_eq_true c19
              clear c19
              obtain ⟨y472, hy472⟩ : ∃ y_ : List Int, y_ = (x471003_1.set (x4_1 : Int).toNat (wrap64 (255 - (rd l0_3 x4_1)))) := ⟨_, rfl⟩
              replace H : (spec_InvertImage.l0 k1 (wrap64 (x4_1 + 1)) a0_0 a0_1 a0_2 l0_3 t464 t465 t466 y472) = some (r1, r2, r3, r4) := by first | (rw [hy472]; with_reducible exact H) | (have H2_ := (Option.bind_some _ _).symm.trans H; rw [hy472]; with_reducible exact H2_) | (have H2_ := (Option.bind_some _ _).symm.trans H; with_reducible exact H2_) | with_reducible exact H | (rw [hy472]; exact H) | exact H
              have Ny472 := Aside0.mk hy472
              clear hy472
              have H' := Aside0.mk H
              clear H
              have hnb21 := NB470_461.out
              have hnc21 := NB461_470.out
              have hnb22 := NB470_462.out
              have hnc22 := NB462_470.out
              have hcz23_0 : wr.cell? ⟨gb470, 0, none⟩ = some (.int .i64 t464) := B.bc BK470 0
              have hcz23_1 : wr.cell? ⟨gb470, 1, none⟩ = some (.int .i64 t465) := B.bc BK470 1
              have hcz23_2 : wr.cell? ⟨gb470, 2, none⟩ = some (.int .i64 t466) := B.bc BK470 2
              have hcz23_3 : wr.cell? ⟨gb470, 3, none⟩ = some (u471003) := B.bc BK470 3
              have hfz23_0 := blk_frozen BK470.out 0
              have hfz23_1 := blk_frozen BK470.out 1
              have hfz23_2 := blk_frozen BK470.out 2
              have hfz23_3 := blk_frozen BK470.out 3
              obtain ⟨Ao24, co24, eo24⟩ := Kd.R_slice HO_471003.out
              subst eo24
              try go_wp2
              have n0_ := Aside0.mk (Kd.R_drew HO_471003.out)
              have n1_ := Aside0.mk (blk_drew BK461.out)
              have n2_ := Aside0.mk (blk_drew BK462.out)
              have n3_ := Aside0.mk (blk_drew BK470.out)
              have n4_ := Aside0.mk (below_drew1 HB.out)
              clear HO_471003 BK461 BK462 BK470 HB
              have HO_471003 := n0_
              have BK461 := n1_
              have BK462 := n2_
              have BK470 := n3_
              have HB := n4_
              clear n0_ n1_ n2_ n3_ n4_
              have p471 : 0 ≤ (x4_1 : Int) := of_decide_eq_true (by first | (with_reducible assumption) | assumption)
              have q471 : x4_1 < (l0_3.length : Int) := of_decide_eq_true (by first | (with_reducible assumption) | assumption)
              obtain ⟨ad471, e471, hx471_0⟩ := Kd.at_int HR0_3.out x4_1 p471 q471
              have hw471_0 := hx471_0
              cases e471
              replace hx471_0 := (HB.out.cell (World.block_lt_of_cell? w _ hx471_0)).trans hx471_0
              replace p471 := eq_true p471
              replace q471 := eq_true q471
              have p20 : 0 ≤ (x4_1 : Int) := of_decide_eq_true (by first | (with_reducible assumption) | assumption)
              have q20 : (x4_1 : Int) < ((x471003_1.length : Int) : Int) := of_decide_eq_true (by first | (with_reducible assumption) | assumption)
              obtain ⟨go20, co20, eo20, gb20, gl20, cl20, HG20⟩ := Kd.R_form HO_471003.out (by omega)
              (first | cases eo20 | (injection eo20 with ea_ en_ ec_; (first | subst ea_ | (injection ea_ with ea_; subst ea_)); subst ec_; clear en_))
              have GB20 := Aside0.mk gb20
              have GG20 := Aside0.mk HG20
              clear gb20 gl20 HG20
              obtain ⟨hx20_0, hf20_0⟩ := Kd.R_celln 0 HO_471003.out (x4_1 : Int) p20 q20
              replace p20 := eq_true p20
              replace q20 := eq_true q20
              have HP26 := Kd.R_putn HO_471003.out (x4_1 : Int) (wrap64 (255 - (rd l0_3 x4_1)))
              rw [← Ny472.out] at HP26
              have HQ26 := Aside0.mk HP26
              clear HP26
              refine start_ (n := 11) (S := fun w' => w'.cell? ⟨gb470, 0, none⟩ = some (.int .i64 t464) ∧ w'.cell? ⟨gb470, 1, none⟩ = some (.int .i64 t465) ∧ w'.cell? ⟨gb470, 2, none⟩ = some (.int .i64 t466) ∧ w'.cell? ⟨gb470, 3, none⟩ = some (.slice (some ⟨go20, 0, none⟩) x471003_1.length co24) ∧ w'.cell? ⟨gb461, 0, none⟩ = some (.int .i64 a0_0) ∧ w'.cell? ⟨gb461, 1, none⟩ = some (.int .i64 a0_1) ∧ w'.cell? ⟨gb461, 2, none⟩ = some (.int .i64 a0_2) ∧ w'.cell? ⟨gb461, 3, none⟩ = some (.slice (some ad471) l0_3.length c0_3) ∧ w'.cell? (ad471.add (x4_1).toNat) = some (.int .i64 (rd l0_3 x4_1))) (ds := [10]) #[false, false, false, false, false, false, false, false, false, false, false] (by kernel_rfl) rfl rfl ⟨B.bc BK470 0, B.bc BK470 1, B.bc BK470 2, B.bc BK470 3, B.bc BK461 0, B.bc BK461 1, B.bc BK461 2, B.bc BK461 3, ((HB.out.cell (World.block_lt_of_cell? w _ hw471_0)).trans hw471_0)⟩ (fun hHeld => ?_); refine with_tabW spec_InvertImage.tab7 spec_InvertImage.bits7 (fun HT_ HW_ => ?_)
              generalize wr.drew = w25 at HO_471003 BK461 BK462 BK470 HB GG20 HQ26 hf20_0 hx20_0 hx471_0 hHeld ⊢
              refine pure_ (i := 0) (N := some 18) (v := ?_) (a' := ?_) #[true, false, false, false, false, false, false, false, false, false, false] rfl rfl (any_of HT_.out (by kernel_rfl)) (fun _ _ _ h => h) (Or.inl ⟨by rfl, ?_⟩) ?_ ?_
              rotate_left
              · intro w'
                go_simp
                with_reducible rfl
              rotate_left
              · simp only [Act.put, List.setIfInBounds_toArray, List.set_cons_zero, List.set_cons_succ, i64_w, i32_w]
                rfl
              refine pure_ (i := 2) (N := some 20) (v := ?_) (a' := ?_) #[true, false, true, false, false, false, false, false, false, false, false] rfl rfl (any_of HT_.out (by kernel_rfl)) (fun _ _ _ h => h) (Or.inl ⟨by rfl, ?_⟩) ?_ ?_
              rotate_left
              · intro w'
                go_simp
                with_reducible rfl
              rotate_left
              · simp only [Act.put, List.setIfInBounds_toArray, List.set_cons_zero, List.set_cons_succ, i64_w, i32_w]
                rfl
              refine pure_ (i := 3) (N := some 21) (v := ?_) (a' := ?_) #[true, false, true, true, false, false, false, false, false, false, false] rfl rfl (any_of HT_.out (by kernel_rfl)) (fun _ _ _ h => h) (Or.inl ⟨by rfl, ?_⟩) ?_ ?_
              rotate_left
              · intro w'
                go_simp
                with_reducible rfl
              rotate_left
              · simp only [Act.put, List.setIfInBounds_toArray, List.set_cons_zero, List.set_cons_succ, i64_w, i32_w]
                rfl
              refine pure_ (i := 5) (N := some 23) (v := ?_) (a' := ?_) #[true, false, true, true, false, true, false, false, false, false, false] rfl rfl (any_of HT_.out (by kernel_rfl)) (fun _ _ _ h => h) (Or.inl ⟨by rfl, ?_⟩) ?_ ?_
              rotate_left
              · intro w'
                go_simp
                with_reducible rfl
              rotate_left
              · simp only [Act.put, List.setIfInBounds_toArray, List.set_cons_zero, List.set_cons_succ, i64_w, i32_w]
                rfl
              refine take_ (i := 1) (N := some 19) (v := ?_) (a' := ?_) #[true, true, true, true, false, true, false, false, false, false, false] rfl rfl (take_ofW HT_.out HW_.out (by kernel_rfl)) (fun _ _ _ h => h) (Or.inl ⟨by rfl, ?_⟩) hHeld ?_ ?_
              rotate_left
              · rintro w' ⟨s0, s1, s2, s3, s4, s5, s6, s7, s8⟩
                go_simp
                with_reducible rfl
              rotate_left
              · simp only [Act.put, List.setIfInBounds_toArray, List.set_cons_zero, List.set_cons_succ, i64_w, i32_w]
                rfl
              refine take_ (i := 4) (N := some 22) (v := ?_) (a' := ?_) #[true, true, true, true, true, true, false, false, false, false, false] rfl rfl (take_ofW HT_.out HW_.out (by kernel_rfl)) (fun _ _ _ h => h) (Or.inl ⟨by rfl, ?_⟩) hHeld ?_ ?_
              rotate_left
              · rintro w' ⟨s0, s1, s2, s3, s4, s5, s6, s7, s8⟩
                go_simp
                with_reducible rfl
              rotate_left
              · simp only [Act.put, List.setIfInBounds_toArray, List.set_cons_zero, List.set_cons_succ, i64_w, i32_w]
                rfl
              refine pure_ (i := 6) (N := some 24) (v := ?_) (a' := ?_) #[true, true, true, true, true, true, true, false, false, false, false] rfl rfl (any_of HT_.out (by kernel_rfl)) (fun _ _ _ h => h) (Or.inl ⟨by rfl, ?_⟩) ?_ ?_
              rotate_left
              · intro w'
                go_simp
                with_reducible rfl
              rotate_left
              · simp only [Act.put, List.setIfInBounds_toArray, List.set_cons_zero, List.set_cons_succ, i64_w, i32_w]
                rfl
              refine take_ (i := 7) (N := some 25) (v := ?_) (a' := ?_) #[true, true, true, true, true, true, true, true, false, false, false] rfl rfl (take_ofW HT_.out HW_.out (by kernel_rfl)) (fun _ _ _ h => h) (Or.inl ⟨by rfl, ?_⟩) hHeld ?_ ?_
              rotate_left
              · rintro w' ⟨s0, s1, s2, s3, s4, s5, s6, s7, s8⟩
                go_simp
                with_reducible rfl
              rotate_left
              · simp only [Act.put, List.setIfInBounds_toArray, List.set_cons_zero, List.set_cons_succ, i64_w, i32_w]
                rfl
              refine pure_ (i := 8) (N := some 26) (v := ?_) (a' := ?_) #[true, true, true, true, true, true, true, true, true, false, false] rfl rfl (any_of HT_.out (by kernel_rfl)) (fun _ _ _ h => h) (Or.inl ⟨by rfl, ?_⟩) ?_ ?_
              rotate_left
              · intro w'
                go_simp
                with_reducible rfl
              rotate_left
              · simp only [Act.put, List.setIfInBounds_toArray, List.set_cons_zero, List.set_cons_succ, i64_w, i32_w]
                rfl
              refine pure_ (i := 9) (N := some 27) (v := ?_) (a' := ?_) #[true, true, true, true, true, true, true, true, true, true, false] rfl rfl (any_of HT_.out (by kernel_rfl)) (fun _ _ _ h => h) (Or.inl ⟨by rfl, ?_⟩) ?_ ?_
              rotate_left
              · intro w'
                go_simp
                with_reducible rfl
              rotate_left
              · simp only [Act.put, List.setIfInBounds_toArray, List.set_cons_zero, List.set_cons_succ, i64_w, i32_w]
                rfl
              refine last_ (i := 10) (N := none) #[true, true, true, true, true, true, true, true, true, true, true] rfl rfl (one_of HT_.out (by kernel_rfl)) (by decide) (fun K hK => ?_)
              refine skip_ (w1 := ?_) (by rfl) rfl ?_ ?_
              rotate_left
              · go_simp
                rfl
              refine hK.out _ _ ?_
              clear hK K
              refine done_ (done_of HT_.out (by kernel_rfl)) ?_
              try go_wp2
              go_roundg k1
              case measure => have := HK1.out; omega
              case rel => exact ⟨(wrap64 (x4_1 + 1)), (y472), (.slice (some ⟨go20, 0, none⟩) x471003_1.length co24), (by first | rfl | (simp; done) | (simp [*]; done)), H', ⟨by have := HK1.out; omega⟩, ⟨B.kr HQ26⟩, ⟨by (with_reducible repeat (first | refine blk_drewN ?_ _ | refine blk_drew ?_ | refine blk_alloc ?_ _)); refine blk_far ?_ (by have h_ := Kd.R_ne HO_471003.out BK461.out (by decide); intro e_; exact h_ (by rw [e_]; rfl)) _; (with_reducible repeat (first | refine blk_drewN ?_ _ | refine blk_drew ?_ | refine blk_alloc ?_ _)); exact BK461.out⟩, ⟨by (with_reducible repeat (first | refine blk_drewN ?_ _ | refine blk_drew ?_ | refine blk_alloc ?_ _)); refine blk_far ?_ (by have h_ := Kd.R_ne HO_471003.out BK462.out (by decide); intro e_; exact h_ (by rw [e_]; rfl)) _; (with_reducible repeat (first | refine blk_drewN ?_ _ | refine blk_drew ?_ | refine blk_alloc ?_ _)); exact BK462.out⟩, ⟨by (with_reducible repeat (first | refine blk_drewN ?_ _ | refine blk_drew ?_ | refine blk_alloc ?_ _)); refine blk_far ?_ (by have h_ := Kd.R_ne HO_471003.out BK470.out (by decide); intro e_; exact h_ (by rw [e_]; rfl)) _; (with_reducible repeat (first | refine blk_drewN ?_ _ | refine blk_drew ?_ | refine blk_alloc ?_ _)); exact BK470.out⟩, ⟨B.bl HB⟩⟩
            rw [if_neg c19] at H
            exact absurd H (by simp)
          rw [if_neg c18] at H
          exact absurd H (by simp)
        rw [if_neg c17] at H
        have c17b0 : decide (x4_1 < (x471003_1.length : Int)) = false := decide_eq_false c17
        clear c17
        simp only [Option.some.injEq, Prod.mk.injEq] at H
        obtain ⟨rfl, rfl, rfl, rfl⟩ := H
        have hnb27 := NB470_461.out
        have hnc27 := NB461_470.out
        have hnb28 := NB470_462.out
        have hnc28 := NB462_470.out
        have hcz29_0 : wr.cell? ⟨gb470, 0, none⟩ = some (.int .i64 t464) := B.bc BK470 0
        have hcz29_1 : wr.cell? ⟨gb470, 1, none⟩ = some (.int .i64 t465) := B.bc BK470 1
        have hcz29_2 : wr.cell? ⟨gb470, 2, none⟩ = some (.int .i64 t466) := B.bc BK470 2
        have hcz29_3 : wr.cell? ⟨gb470, 3, none⟩ = some (u471003) := B.bc BK470 3
        have hfz29_0 := blk_frozen BK470.out 0
        have hfz29_1 := blk_frozen BK470.out 1
        have hfz29_2 := blk_frozen BK470.out 2
        have hfz29_3 := blk_frozen BK470.out 3
        obtain ⟨Ao30, co30, eo30⟩ := Kd.R_slice HO_471003.out
        subst eo30
        have hnb31 := NB462_461.out
        have hnc31 := NB461_462.out
        have hcz32_0 : wr.cell? ⟨gb462, 0, none⟩ = some (.int .i64 0) := B.bc BK462 0
        have hcz32_1 : wr.cell? ⟨gb462, 1, none⟩ = some (.int .i64 0) := B.bc BK462 1
        have hcz32_2 : wr.cell? ⟨gb462, 2, none⟩ = some (.int .i64 0) := B.bc BK462 2
        have hcz32_3 : wr.cell? ⟨gb462, 3, none⟩ = some (.slice none 0 0) := B.bc BK462 3
        have hfz32_0 := blk_frozen BK462.out 0
        have hfz32_1 := blk_frozen BK462.out 1
        have hfz32_2 := blk_frozen BK462.out 2
        have hfz32_3 := blk_frozen BK462.out 3
        go_wp2
        refine bodyPost_ret (results_cell_row rfl _ _ gb462 27 #[.int .i64 t464, .int .i64 t465, .int .i64 t466, .slice Ao30 x471003_1.length co30] (0, 0) _ rfl (B.kb0 (B.bp4 BK462)) Try.underlying27 rfl (by kernel_rfl)) rfl ?_
        exact ⟨_, by first | rfl | (simp [errW_none, errW_some] <;> rfl) | (simp [*, errW_none, errW_some] <;> rfl), by (with_reducible repeat (first | apply Kd.R_alloc | apply Kd.R_drewN | apply Kd.R_drew)); exact Kd.R_mono (B.rf4 HO_471003 BK462) (fun _ hk => trivial), B.bl HB⟩
  replace c3 := Bool.eq_false_iff.mpr c3
  subst c3
  have H1 : (some (0, 0, 0, ([] : List Int))) = some (r1, r2, r3, r4) := by rw [if_neg (show ¬ (false = true) by decide)] at H; exact H
  clear H
  have H := H1
  clear H1
  simp only [Option.some.injEq, Prod.mk.injEq] at H
  obtain ⟨rfl, rfl, rfl, rfl⟩ := H
  go_enter Try.func31, Try.ntmps31
  go_wp2_with (first | ((with_reducible refine gate_dst (N := 1) rfl ?_); refine box_event ?hg (N := 1) ?hd (cs := #[.int .i64 a0_0, .int .i64 a0_1, .int .i64 a0_2, .slice A0_3 l0_3.length c0_3]) (t := 27) ?hr ?_; (case hd => rfl); (case hg => rfl); (case hr => first | (go_simp; done) | (go_simp; rfl)); intro gb461 hg w33 hbox hb; have n0_ := Aside0.mk (below_step (B.bl HB) hb); have n1_ := Aside0.mk (hbox); have n2_ := Aside0.mk (B.nle hg (below_size (B.bl HB))); have n3_ := Aside0.mk (B.nle hg (below_size (B.bl HB))); clear HB; have HB := n0_; have BK461 := n1_; have GW461 := n2_; have GE461 := n3_; clear n0_ n1_ n2_ n3_; clear hb hbox hg) | ((with_reducible refine gate_dst (N := 2) rfl ?_); refine box_event ?hg (N := 2) ?hd (cs := #[.int .i64 0, .int .i64 0, .int .i64 0, .slice none 0 0]) (t := 27) ?hr ?_; (case hd => rfl); (case hg => rfl); (case hr => first | (go_simp; done) | (go_simp; rfl)); intro gb462 hg w34 hbox hb; have n0_ := Aside0.mk (blk_below (B.kb BK461) hb); have n1_ := Aside0.mk (below_step (B.bl HB) hb); have n2_ := Aside0.mk (hbox); have n3_ := Aside0.mk (B.nle hg (below_size (B.bl HB))); have n4_ := Aside0.mk (B.nle hg (below_size (B.bl HB))); have n5_ := Aside0.mk (B.nlt hg (blk_lt (B.kb BK461))); have n6_ := Aside0.mk (B.ngt hg (blk_lt (B.kb BK461))); clear BK461 HB; have BK461 := n0_; have HB := n1_; have BK462 := n2_; have GW462 := n3_; have GE462 := n4_; have NB461_462 := n5_; have NB462_461 := n6_; clear n0_ n1_ n2_ n3_ n4_ n5_ n6_; clear hb hbox hg; have hnb35 := NB461_462.out; have hnc35 := NB462_461.out; have hcz36_0 : w34.cell? ⟨gb461, 0, none⟩ = some (.int .i64 a0_0) := B.bc BK461 0; have hcz36_1 : w34.cell? ⟨gb461, 1, none⟩ = some (.int .i64 a0_1) := B.bc BK461 1; have hcz36_2 : w34.cell? ⟨gb461, 2, none⟩ = some (.int .i64 a0_2) := B.bc BK461 2; have hcz36_3 : w34.cell? ⟨gb461, 3, none⟩ = some (.slice A0_3 l0_3.length c0_3) := B.bc BK461 3; have hfz36_0 := blk_frozen BK461.out 0; have hfz36_1 := blk_frozen BK461.out 1; have hfz36_2 := blk_frozen BK461.out 2; have hfz36_3 := blk_frozen BK461.out 3) | ((with_reducible refine gate_callee (f := 36) rfl ?_); refine goesL_ (some 6) rfl rfl Try.func36 (by kernel_rfl) rfl #[.agg #[.int .i64 a0_0, .int .i64 a0_1, .int .i64 a0_2, .slice A0_3 l0_3.length c0_3]] rfl B.am ?_; (with_reducible refine (spec_validImage.calls k a0_0 a0_1 a0_2 _ _ l0_3 false _ ?side1 ?side2 A2.out).mono ?_); (case side1 => exact B.kc (Kd.C_below HR0_3.out HB.out)); (case side2 => exact HC0_3.out); rintro e w37 ⟨rfl, hb⟩; refine ⟨_, rfl, ?_⟩; have n0_ := Aside0.mk (blk_below (B.kb BK461) hb); have n1_ := Aside0.mk (blk_below (B.kb BK462) hb); have n2_ := Aside0.mk (below_step (B.bl HB) hb); clear BK461 BK462 HB; have BK461 := n0_; have BK462 := n1_; have HB := n2_; clear n0_ n1_ n2_; (try clear hb); (try clear hb2); (try clear hk); (try clear hi); have hcz38_0 : w37.cell? ⟨gb462, 0, none⟩ = some (.int .i64 0) := B.bc BK462 0; have hcz38_1 : w37.cell? ⟨gb462, 1, none⟩ = some (.int .i64 0) := B.bc BK462 1; have hcz38_2 : w37.cell? ⟨gb462, 2, none⟩ = some (.int .i64 0) := B.bc BK462 2; have hcz38_3 : w37.cell? ⟨gb462, 3, none⟩ = some (.slice none 0 0) := B.bc BK462 3; have hfz38_0 := blk_frozen BK462.out 0; have hfz38_1 := blk_frozen BK462.out 1; have hfz38_2 := blk_frozen BK462.out 2; have hfz38_3 := blk_frozen BK462.out 3))
  refine bodyPost_ret (results_cell_row rfl _ _ gb462 27 #[.int .i64 0, .int .i64 0, .int .i64 0, .slice none 0 0] (0, 0) _ rfl (B.kb0 (B.bp4 BK462)) Try.underlying27 rfl (by kernel_rfl)) rfl ?_
  exact ⟨_, by first | rfl | (simp [errW_none, errW_some] <;> rfl) | (simp [*, errW_none, errW_some] <;> rfl), by first | exact Kd.R_nil _ _ _ _ _ | exact Kd.N_nil _ _ _ _ _ | exact Kd.V_nil _ _ _ _ _ | exact Kd.Q_nil _ _ _ _ _ | exact Kd.S_nil _ _ _ _ _, B.bl HB⟩

end Go.Proofs.Ytegicfkcdmhjgaa.Q
