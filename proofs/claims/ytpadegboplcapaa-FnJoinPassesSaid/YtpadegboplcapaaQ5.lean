-- Written by a program of this session (the kit's printer, with hand-proved contracts for the functions that it does not take).
import Derived.Test.YtpadegboplcapaaQ0
import Derived.Test.YtpadegboplcapaaQ2
import Derived.Test.YtpadegboplcapaaQ4
namespace Go.Proofs.Ytpadegboplcapaa.Q
open Go.RowKit Go.Proofs.YtpadegboplcapaaW.PrintWords Go.Proofs.YtpadegboplcapaaW.PrintLast Go.Proofs.YtpadegboplcapaaW.PrintMore
attribute [local go_sem] max2_int min2_int max_two min_two max_three min_three max_four min_four   -- for this text's walks alone
set_option linter.unusedVariables false
set_option linter.unusedSimpArgs false

/-! ### spec_DrawJoinPasses: function 13 (by hand) -/
-- GIVEN loop.example/pixelworks/spec.DrawJoinPasses
-- ROUNDS yes
-- MAKING yes
-- RSH 3:V
def drawRows (k : Nat) (w h p : Int) (D : List Int) : Nat → Int → List (List Int) → Option (List (List Int))
  | 0, _, L => some L
  | d + 1, i, L => (spec_PassData.f k w h p D i).bind fun t => drawRows k w h p D d (i + 1) (L ++ [t])
def drawSpoil (k : Nat) (b : List Int) (s : Int) (L : List (List Int)) : Option (List (List Int) × Int) :=
  (spec_reader_pick.f k b s 10).bind fun q => if q.1 = 0 then (spec_reader_pick.f k b q.2 7).bind fun a => if 0 ≤ a.1 ∧ a.1 < 7 then (spec_reader_spoil.f k b a.2 (rd_L1 L a.1) 256).bind fun t => some (L.set a.1.toNat t.1, t.2) else none else some (L, q.2)
def drawCut (k : Nat) (b : List Int) (s : Int) (L : List (List Int)) : Option (List (List Int)) :=
  (spec_reader_pick.f k b s 30).bind fun z => some (if z.1 = 0 then L.drop 1 else L)
def spec_DrawJoinPasses.f (k : Nat) (l0 : List Int) : Option (Int × Int × Int × List (List Int)) :=
  (spec_newReader.f l0).bind fun b => (spec_anyImage.f k b.1 b.2).bind fun m => (drawRows k m.1 m.2.1 m.2.2.1 m.2.2.2.1 7 0 []).bind fun L => (drawSpoil k b.1 m.2.2.2.2 L).bind fun u => (drawCut k b.1 u.2 u.1).bind fun R => some (m.1, m.2.1, m.2.2.1, R)
theorem drawRows_mono (k : Nat) (w h p : Int) (D : List Int) : ∀ d i L, LeO (drawRows k w h p D d i L) (drawRows (k + 1) w h p D d i L)
  | 0, _, _ => LeO.refl _
  | d + 1, i, L => by
    unfold drawRows
    exact LeO.bind (spec_PassData.mono _ _ _ _ _ _) fun _ => drawRows_mono k w h p D d _ _
theorem spec_DrawJoinPasses.mono : ∀ a0 k, LeO (spec_DrawJoinPasses.f k a0) (spec_DrawJoinPasses.f (k + 1) a0) := by
  intro a0 k
  unfold spec_DrawJoinPasses.f drawSpoil drawCut
  exact LeO.bind (LeO.refl _) fun _ => LeO.bind (spec_anyImage.mono _ _ _) fun _ => LeO.bind (drawRows_mono _ _ _ _ _ _ _ _) fun _ => LeO.bind (LeO.bind (spec_reader_pick.mono _ _ _ _) fun _ => LeO.ite (LeO.bind (spec_reader_pick.mono _ _ _ _) fun _ => LeO.ite (LeO.bind (spec_reader_spoil.mono _ _ _ _ _) fun _ => LeO.refl _) (LeO.refl _)) (LeO.refl _)) fun _ => LeO.bind (LeO.bind (spec_reader_pick.mono _ _ _ _) fun _ => LeO.refl _) fun _ => LeO.refl _
/-- A row of rows whose rows lie neither in its own block nor in another one. -/
def dLL (w : World) (base gr gl : Nat) (cells : Array Value) (L : List (List Int)) : Prop :=
  base ≤ gl ∧ gl ≠ gr ∧ w.heap[gl]? = some (.cells cells 32 (0, 0)) ∧ ∀ j, j < L.length → ∃ A c, cells[j]? = some (.slice A (L.getD j []).length c) ∧ (L.getD j []).length ≤ c ∧ Kd.F (Kd.int .i64) w (fun k => k ≠ gr ∧ k ≠ gl) A (L.getD j []).length (L.getD j [])
theorem dLL_of {w0 W : World} {base gr gl cap : Nat} {ok : Nat → Prop} {f0 : List Int} {f1 : Int} {L : List (List Int)} (hp : 0 < L.length) (hS : Kd.S (Kd.slice 3 (Kd.int .i64)) 32 W base ok (.slice (some ⟨gl, 0, none⟩) L.length cap) L) (hI : IsS74 w0 W gr f0 f1) : ∃ cells, dLL W base gr gl cells L := by
  have hS' := IsS74.apartS hI hS (by decide)
  obtain ⟨g, cap', e, hb, _, cells, hh⟩ := Kd.S_form hS' hp
  injection e with e1 _ _
  injection e1 with e1
  injection e1 with e1
  subst e1
  have hne := IsS74.own_neS hI hS (by decide)
  refine ⟨cells, hb, fun e => hne (by rw [← e]; rfl), hh, fun j hj => ?_⟩
  obtain ⟨oki, c, hcl, hM, hcc, hfr, hoki, hH⟩ := Kd.S_elem hS' [] (j : Int) (Int.natCast_nonneg j) (by omega)
  obtain ⟨v, rfl, hR⟩ := hM
  have hx := hcc 0 _ rfl
  simp only [show (Kd.slice 3 (Kd.int .i64)).sz = 1 from rfl, Nat.mul_one, Nat.add_zero, Int.toNat_natCast] at hx hR
  rw [blk_cell hh] at hx
  obtain ⟨A, ca, hv, hle, _⟩ := Kd.R_reads hR
  subst hv
  exact ⟨A, ca, hx, hle, Kd.F_mono (Kd.R_F hR) (fun k hk => ⟨(hoki k hk).1.2, (hoki k hk).2⟩)⟩
theorem dLL_keep {w w' : World} {base gr gl : Nat} {cells : Array Value} {L : List (List Int)} (h : dLL w base gr gl cells L) (hk : KeepBut w w' gr none) : dLL w' base gr gl cells L := by
  obtain ⟨h1, h2, h3, h4⟩ := h
  refine ⟨h1, h2, KeepBut.blk hk h3 h2 (by simp), fun j hj => ?_⟩
  obtain ⟨A, c, e1, e2, e3⟩ := h4 j hj
  exact ⟨A, c, e1, e2, Kd.F_keep e3 hk (fun k hk => hk.1)⟩
theorem dLL_below {w w' : World} {base gr gl : Nat} {cells : Array Value} {L : List (List Int)} (h : dLL w base gr gl cells L) (hb : Below w.heap.size w w') : dLL w' base gr gl cells L := by
  obtain ⟨h1, h2, h3, h4⟩ := h
  refine ⟨h1, h2, blk_below h3 hb, fun j hj => ?_⟩
  obtain ⟨A, c, e1, e2, e3⟩ := h4 j hj
  exact ⟨A, c, e1, e2, Kd.F_below e3 hb⟩
theorem dLL_set {w : World} {base gr gl : Nat} {cells : Array Value} {L : List (List Int)} (h : dLL w base gr gl cells L) {i : Nat} (hi : i < L.length) {A : Option Addr} {q : List Int} {c : Nat} (hc : q.length ≤ c) (hq : Kd.F (Kd.int .i64) w (fun k => k ≠ gr ∧ k ≠ gl) A q.length q) :
    dLL (w.setCell ⟨gl, i, none⟩ (.slice A q.length c)) base gr gl (cells.setIfInBounds i (.slice A q.length c)) (L.set i q) := by
  obtain ⟨h1, h2, h3, h4⟩ := h
  refine ⟨h1, h2, blk_set h3 i _, fun j hj => ?_⟩
  rw [List.length_set] at hj
  obtain ⟨A', c', e1, e2, e3⟩ := h4 j hj
  by_cases e : j = i
  · subst e
    have eg : (L.set j q).getD j [] = q := by rw [List.getD_eq_getElem?_getD, List.getElem?_set_self hj]; rfl
    rw [eg]
    refine ⟨A, c, ?_, hc, Kd.F_far (p := ⟨gl, j, none⟩) hq (fun k hk => hk.2) _⟩
    rw [Array.getElem?_setIfInBounds_self]
    have hlt := (Array.getElem?_eq_some_iff.1 e1).1
    simp [hlt]
  · have eg : (L.set i q).getD j [] = L.getD j [] := by rw [List.getD_eq_getElem?_getD, List.getD_eq_getElem?_getD, List.getElem?_set_ne (Ne.symm e)]
    rw [eg]
    refine ⟨A', c', ?_, e2, Kd.F_far (p := ⟨gl, i, none⟩) e3 (fun k hk => hk.2) _⟩
    rw [Array.getElem?_setIfInBounds_ne (Ne.symm e)]
    exact e1
theorem dLL_C {w : World} {base gr gl : Nat} {cells : Array Value} {L : List (List Int)} (h : dLL w base gr gl cells L) (hl : L.length ≤ 1000) (o : Nat) : Kd.C (Kd.slice 3 (Kd.int .i64)) w (some ⟨gl, o, none⟩) (L.drop o).length (L.drop o) := by
  obtain ⟨h1, h2, h3, h4⟩ := h
  refine ⟨rfl, by rw [List.length_drop]; omega, fun hp => ⟨⟨gl, o, none⟩, rfl, fun j p hj => ?_⟩⟩
  have hjl : o + j < L.length := by
    have := (List.getElem?_eq_some_iff.1 hj).1
    rw [List.length_drop] at this
    omega
  rw [List.getElem?_drop] at hj
  obtain ⟨A, c, e1, e2, e3⟩ := h4 (o + j) hjl
  have eg : L.getD (o + j) [] = p := by rw [List.getD_eq_getElem?_getD, hj]; rfl
  rw [eg] at e1 e2 e3
  refine ⟨[.slice A p.length c], rfl, ⟨A, c, rfl, e2, Kd.F_now e3⟩, fun i u hu => ?_⟩
  match i, hu with
  | 0, hu =>
    cases hu
    show w.cell? (Addr.add ⟨gl, o, none⟩ (j * 1 + 0)) = _
    have ea : Addr.add ⟨gl, o, none⟩ (j * 1 + 0) = ⟨gl, o + j, none⟩ := by unfold Addr.add; split <;> simp_all
    rw [ea, blk_cell h3, e1]
  | i + 1, hu => simp at hu
theorem d_far {W : World} {A : Option Addr} {xs : List Int} {g : Nat} {ok : Nat → Prop} (h : Kd.F (Kd.int .i64) W ok A xs.length xs) (hok : ¬ ok g) : ∀ ad, A = some ad → 0 < xs.length → ad.block ≠ g := by
  intro ad hA hl hg
  obtain ⟨W', h1, h2⟩ := Kd.emptied W g
  have hC := h W' (fun k hk _ => h1 k (fun e => hok (e ▸ hk)))
  obtain ⟨ad', e, hc⟩ := (Kd.reads_of_C (enc := Value.int .i64) (d := (0 : Int)) (h1 := fun _ => rfl) hC).2.2 hl
  rw [hA] at e
  injection e with e
  subst e
  have hz := hc 0 hl
  rw [h2 _ (by rw [add_block]; exact hg)] at hz
  cases hz
theorem d_new {W : World} {b gr gl : Nat} {ok : Nat → Prop} {A : Option Addr} {n c : Nat} {q : List Int} (h : Kd.Q (Kd.int .i64) 3 W b ok (.slice A n c) q) (h1 : gr < b) (h2 : gl < b) : Kd.F (Kd.int .i64) W (fun k => k ≠ gr ∧ k ≠ gl) A q.length q := by
  have e := (Kd.Q_reads' h).1
  subst e
  exact Kd.F_mono (Kd.Q_F (Kd.Q_bound h)) (fun k hk => ⟨fun e => by have := hk.2.1; omega, fun e => by have := hk.2.1; omega⟩)
theorem d_cut (W : World) (g n c : Nat) (h1 : 1 ≤ n) (h2 : n ≤ c) (h3 : c ≠ 1) : (Instr.slice 29 (.slice (some ⟨g, 0, none⟩) n c) (some (.int .i64 1)) none none).run Try.prog W = .ok (.slice (some ⟨g, 1, none⟩) (n - 1) (c - 1)) W := by
  obtain ⟨i0, hi0, _, hsz, _⟩ := info_parts info32
  have ht := Try.underlying29
  have hel : Try.prog.elem 29 = 32 := by simp [Program.elem, ht]
  have hu : Try.prog.underlying 29 = some (.slice (Try.prog.elem 29)) := by rw [hel]; exact ht
  rw [run_slice_l W 29 (some ⟨g, 0, none⟩) n c hu .i64 1 (by omega) (by omega), hel]
  simp [sizeOf, typeInfo, hi0, hsz, sliced, Result.andThen, h3, Addr.add]
def spec_DrawJoinPasses.T13 : Bool × List (List Nat × List Nat) := (true, [([], []), ([0], [0]), ([], []), ([2], [2]), ([], []), ([4], [4]), ([], []), ([1, 0, 1], [1]), ([3, 7, 0, 1, 2, 3, 7], [3]), ([5, 8, 0, 1, 2, 3, 4, 5, 7, 8], [5]), ([6, 9, 0, 1, 2, 3, 4, 5, 6, 7, 8, 9], [6])])
def spec_DrawJoinPasses.B13 : List Nat := [0, 1, 0, 4, 0, 16, 0, 3, 143, 447, 1023]
theorem spec_DrawJoinPasses.tab13 : rtab .any (opsOf Try.f13 13) = spec_DrawJoinPasses.T13 := by kernel_rfl
theorem spec_DrawJoinPasses.bits13 : waitsOk spec_DrawJoinPasses.T13.2 spec_DrawJoinPasses.B13 = true := by kernel_rfl
set_option maxHeartbeats 8000000 in
set_option maxRecDepth 100000 in
theorem spec_DrawJoinPasses.calls (k : Nat) (A0 : Option Addr) (c0 : Nat) (l0 : List Int) (r1 : Int) (r2 : Int) (r3 : Int) (r4 : List (List Int)) (w : World) (hr0 : Kd.C (Kd.int .u8) w A0 l0.length l0) (hc0 : l0.length ≤ c0) (h : spec_DrawJoinPasses.f k l0 = some (r1, r2, r3, r4)) :
    Calls Try.prog 13 #[.slice A0 l0.length c0] w fun e w' => ∃ v3_ : Value, e = .returned (.tuple #[.int .i64 r1, .int .i64 r2, .int .i64 r3, v3_]) ∧ Kd.V (Kd.slice 3 (Kd.int .i64)) 32 w' w.heap.size (fun _ => True) v3_ r4 ∧ Below w.heap.size w w' := by
  have hu34 := Try.underlying34
  have HR0 := Aside0.mk hr0
  have HC0 := Aside0.mk hc0
  unfold spec_DrawJoinPasses.f at h
  obtain ⟨⟨b1, b2⟩, A2_, h⟩ := Option.bind_eq_some_iff.mp h
  obtain ⟨⟨m1, m2, m3, D, s1⟩, A3_, h⟩ := Option.bind_eq_some_iff.mp h
  obtain ⟨LF, A4_, h⟩ := Option.bind_eq_some_iff.mp h
  obtain ⟨⟨L5, s5⟩, A5_, h⟩ := Option.bind_eq_some_iff.mp h
  obtain ⟨R6, A6_, h⟩ := Option.bind_eq_some_iff.mp h
  simp only [Option.some.injEq, Prod.mk.injEq] at h
  obtain ⟨rfl, rfl, rfl, rfl⟩ := h
  have A2 := Aside0.mk A2_
  have A3 := Aside0.mk A3_
  have A4 := Aside0.mk A4_
  have A5 := Aside0.mk A5_
  have A6 := Aside0.mk A6_
  have HB := Aside0.mk (Below.refl w.heap.size w)
  clear hr0 hc0 A2_ A3_ A4_ A5_ A6_
  go_enter Try.func13, Try.ntmps13
  go_upto_region 3 with (first | ((with_reducible refine gate_callee (f := 42) rfl ?_); refine goesL_ (some 12) rfl rfl Try.func42 (by kernel_rfl) rfl #[.slice A0 l0.length c0] rfl B.am ?_; refine (spec_newReader.calls _ _ l0 b1 b2 w _ (B.bl HB) HR0.out HC0.out A2.out).mono ?_; rintro e w6 ⟨gr, rfl, hi, hb, hb2⟩; refine ⟨_, rfl, ?_⟩; have n1_ := Aside0.mk hb; have n2_ := Aside0.mk hi; clear HB; have HB := n1_; have HI := n2_; clear n1_ n2_; (try clear hb); (try clear hb2); (try clear hi)) | ((with_reducible refine gate_callee (f := 44) rfl ?_); refine goesL_ (some 14) rfl rfl Try.func44 (by kernel_rfl) rfl #[.pointer (some ⟨gr, 0, none⟩)] rfl B.am ?_; refine (spec_anyImage.calls k gr b1 b2 m1 m2 m3 D s1 w _ (B.st HI) (B.bs HB) A3.out).mono ?_; rintro e w7 ⟨vD, rfl, ho0, hi, hb, hk⟩; refine ⟨_, rfl, ?_⟩; have n1_ := Aside0.mk (Kd.Q_lower ho0 (below_size (B.bs HB))); have n2_ := Aside0.mk hb; have n3_ := Aside0.mk hi; clear HB HI; have HD := n1_; have HB := n2_; have HI := n3_; clear n1_ n2_ n3_; (try clear hb); (try clear hk); (try clear hi); (try clear ho0); obtain ⟨AD, cD, eD, hDl⟩ := Kd.Q_slice HD.out; subst eD; have HDL := Aside0.mk hDl; clear hDl) | ((with_reducible refine gate_dst (N := 7) rfl ?_); refine box_event ?hg (N := 7) ?hd (cs := #[.int .i64 0, .int .i64 0, .int .i64 0, .slice none 0 0]) (t := 34) ?hr ?_; (case hd => rfl); (case hg => rfl); (case hr => first | (go_simp; done) | (go_simp; rfl)); intro gm hg w8 hbox hb; have n0_ := Aside0.mk (Kd.Q_below (B.kq HD) hb); have n1_ := Aside0.mk (IsS74.below (B.st HI) hb); have n2_ := Aside0.mk (below_step (B.bs HB) hb); have n3_ := Aside0.mk hbox; have n4_ := Aside0.mk ((by rw [hg]; exact (below_size (B.bs HB)) : w.heap.size ≤ gm)); clear HD HI HB; have HD := n0_; have HI := n1_; have HB := n2_; have BM := n3_; have GM := n4_; clear n0_ n1_ n2_ n3_ n4_; clear hb hbox hg; have NRM := Aside0.mk (IsS74.ne_blk HI.out BM.out (by decide)); have hp0 : w8.cell? ⟨gm, 0, none⟩ = some (.int .i64 0) := B.bc BM 0; have hp1 : w8.cell? ⟨gm, 1, none⟩ = some (.int .i64 0) := B.bc BM 1; have hp2 : w8.cell? ⟨gm, 2, none⟩ = some (.int .i64 0) := B.bc BM 2; have hp3 : w8.cell? ⟨gm, 3, none⟩ = some (.slice none 0 0) := B.bc BM 3; have hq0 := blk_frozen BM.out 0; have hq1 := blk_frozen BM.out 1; have hq2 := blk_frozen BM.out 2; have hq3 := blk_frozen BM.out 3))
  (try simp only [Act.put, List.setIfInBounds_toArray, List.set_cons_zero, List.set_cons_succ])
  have n0_ : Aside0 (Kd.Q (Kd.int .i64) 3 ((((w8.setCell ⟨gm, 0, none⟩ (.int .i64 m1)).setCell ⟨gm, 1, none⟩ (.int .i64 m2)).setCell ⟨gm, 2, none⟩ (.int .i64 m3)).setCell ⟨gm, 3, none⟩ (.slice AD D.length cD)) w.heap.size (fun _ => True) (.slice AD D.length cD) D) := ⟨Kd.Q_mono (Kd.Q_far (p := ⟨gm, 3, none⟩) (Kd.Q_far (p := ⟨gm, 2, none⟩) (Kd.Q_far (p := ⟨gm, 1, none⟩) (Kd.Q_far (p := ⟨gm, 0, none⟩) (Kd.Q_types HD.out BM.out (by decide)) (fun _ hk => hk.2) (.int .i64 m1)) (fun _ hk => hk.2) (.int .i64 m2)) (fun _ hk => hk.2) (.int .i64 m3)) (fun _ hk => hk.2) (.slice AD D.length cD)) (fun _ _ => trivial)⟩
  have n1_ : Aside0 (((((w8.setCell ⟨gm, 0, none⟩ (.int .i64 m1)).setCell ⟨gm, 1, none⟩ (.int .i64 m2)).setCell ⟨gm, 2, none⟩ (.int .i64 m3)).setCell ⟨gm, 3, none⟩ (.slice AD D.length cD)).heap[gm]? = some (.cells #[.int .i64 m1, .int .i64 m2, .int .i64 m3, .slice AD D.length cD] 34 (0, 0))) := ⟨B.bp4 BM⟩
  have n2_ : Aside0 (IsS74 w ((((w8.setCell ⟨gm, 0, none⟩ (.int .i64 m1)).setCell ⟨gm, 1, none⟩ (.int .i64 m2)).setCell ⟨gm, 2, none⟩ (.int .i64 m3)).setCell ⟨gm, 3, none⟩ (.slice AD D.length cD)) gr b1 s1) := ⟨B.st HI⟩
  have n3_ : Aside0 (Below w.heap.size w ((((w8.setCell ⟨gm, 0, none⟩ (.int .i64 m1)).setCell ⟨gm, 1, none⟩ (.int .i64 m2)).setCell ⟨gm, 2, none⟩ (.int .i64 m3)).setCell ⟨gm, 3, none⟩ (.slice AD D.length cD))) := ⟨B.bs HB⟩
  clear HD BM HI HB hp0 hp1 hp2 hp3 hq0 hq1 hq2 hq3
  have HD := n0_
  have BM := n1_
  have HI := n2_
  have HB := n3_
  clear n0_ n1_ n2_ n3_
  generalize ((((w8.setCell ⟨gm, 0, none⟩ (.int .i64 m1)).setCell ⟨gm, 1, none⟩ (.int .i64 m2)).setCell ⟨gm, 2, none⟩ (.int .i64 m3)).setCell ⟨gm, 3, none⟩ (.slice AD D.length cD)) = w9 at HD BM HI HB ⊢
  go_wp2_with ((with_reducible refine gate_dst (N := 15) rfl ?_); refine Kd.S_lit (Kd.slice 3 (Kd.int .i64)) _ 32 ?hg (N := 15) ?hd (xs := ([] : List (List Int))) (inner := []) (ok := fun _ => True) (okp := fun _ => True) ?hr ?hp (fun _ hk => hk) trivial (Below.refl _ _) (Nat.le_refl _) (by simp) ?_; (case hd => rfl); (case hg => rfl); (case hr => first | (go_simp; done) | (go_simp; rfl)); (case hp => exact (Reps.none _ _)); intro v10 w10 ho hb hg_ hnew_; clear hg_ hnew_; have n0_ := Aside0.mk (Kd.Q_below (B.kq HD) hb); have n1_ := Aside0.mk (Kd.S_lower (Kd.S_new' ho (Kd.Q_lt (B.kq HD))) (below_size (B.bs HB))); have n2_ := Aside0.mk (blk_below (B.kb BM) hb); have n3_ := Aside0.mk (IsS74.below (B.st HI) hb); have n4_ := Aside0.mk (below_step (B.bs HB) hb); clear HD BM HI HB; have HD := n0_; have HO := n1_; have BM := n2_; have HI := n3_; have HB := n4_; clear n0_ n1_ n2_ n3_ n4_; clear hb ho)
  go_loopg [8, 9] 7 (fun gg v8 v9 wr => ∃ (L : List (List Int)) (i : Int) (vo : Value), vo = v8 ∧ v9 = .int .i64 i ∧ Aside0 (0 ≤ i ∧ i ≤ 7 ∧ 7 - i.toNat ≤ gg ∧ L.length = i.toNat) ∧ Aside0 (drawRows k m1 m2 m3 D (7 - i.toNat) i L = some LF) ∧ Aside0 (Kd.S (Kd.slice 3 (Kd.int .i64)) 32 wr w.heap.size (fun k_ => some k_ ≠ (.slice AD D.length cD : Value).ownBlock) vo L) ∧ Aside0 (Kd.Q (Kd.int .i64) 3 wr w.heap.size (fun _ => True) (.slice AD D.length cD : Value) D) ∧ Aside0 (wr.heap[gm]? = some (.cells #[.int .i64 m1, .int .i64 m2, .int .i64 m3, .slice AD D.length cD] 34 (0, 0))) ∧ Aside0 (IsS74 w wr gr b1 s1) ∧ Aside0 (Below w.heap.size w wr))
  case atStart => exact ⟨[], 0, _, rfl, rfl, ⟨by simp⟩, A4, ⟨Kd.S_mono HO.out (fun _ hk => hk.2)⟩, HD, BM, HI, HB⟩
  case round =>
    clear HO HD BM HI HB A4
    obtain ⟨L, i, vo, rfl, rfl, HX, A4, HO, HD, BM, HI, HB⟩ := hrel
    by_cases ci : i < 7
    · have cib : decide (i < 7) = true := decide_eq_true ci
      have h4 := A4.out
      have HC7 := Aside0.mk ci
      obtain ⟨d, hd⟩ : ∃ d, 7 - i.toNat = d + 1 := ⟨6 - i.toNat, by have := HX.out; omega⟩
      rw [hd] at h4
      unfold drawRows at h4
      obtain ⟨t, ht_, h4⟩ := Option.bind_eq_some_iff.mp h4
      have HT := Aside0.mk ht_
      have HW : Aside0 (wrap64 (i + 1) = i + 1) := ⟨B.w64 (by have := HX.out; omega) (by have := HX.out; omega)⟩
      have e7 : d = 7 - (i + 1).toNat := by have := HX.out; omega
      rw [e7] at h4
      have A4n := Aside0.mk h4
      clear h4 ht_ hd e7 ci A4
      have hp0 : wr.cell? ⟨gm, 0, none⟩ = some (.int .i64 m1) := B.bc BM 0
      have hp1 : wr.cell? ⟨gm, 1, none⟩ = some (.int .i64 m2) := B.bc BM 1
      have hp2 : wr.cell? ⟨gm, 2, none⟩ = some (.int .i64 m3) := B.bc BM 2
      have hp3 : wr.cell? ⟨gm, 3, none⟩ = some (.slice AD D.length cD) := B.bc BM 3
      go_wp2_with (first | ((with_reducible refine gate_callee (f := 21) rfl ?_); refine goesL_ (some 23) rfl rfl Try.func21 (by kernel_rfl) rfl #[.agg #[.int .i64 m1, .int .i64 m2, .int .i64 m3, .slice AD D.length cD], .int .i64 i] rfl B.am ?_; refine (spec_PassData.calls k m1 m2 m3 _ _ D i t _ (B.kc ((Kd.Q_reads' HD.out).2.2)) ((Kd.Q_reads' HD.out).2.1) HT.out).mono ?_; rintro e w12 ⟨vt, rfl, ho0, hb⟩; refine ⟨_, rfl, ?_⟩; have n0_ := Aside0.mk (Kd.S_elder' (by (with_reducible repeat (first | apply Kd.S_alloc | apply Kd.S_drewN | apply Kd.S_drew)); exact HO.out) (Kd.R_base ho0) hb); have n1_ := Aside0.mk (Kd.Q_elder' (B.kq HD) (Kd.R_base ho0) hb); have n2_ := Aside0.mk (Kd.R_lower (Kd.R_new' ho0 (Kd.Q_lt (B.kq HD))) (below_size (B.bs HB))); have n3_ := Aside0.mk (blk_below (B.kb BM) hb); have n4_ := Aside0.mk (IsS74.below (B.st HI) hb); have n5_ := Aside0.mk (below_step (B.bs HB) hb); clear HO HD BM HI HB; have HO := n0_; have HD := n1_; have HE := n2_; have BM := n3_; have HI := n4_; have HB := n5_; clear n0_ n1_ n2_ n3_ n4_ n5_; (try clear hb); (try clear ho0); obtain ⟨At, ct, et⟩ := Kd.R_slice HE.out; subst et; clear hp0 hp1 hp2 hp3) | ((with_reducible refine gate_builtin (b := .append) (xs := #[.tmp 20, .tmp 24]) rfl ?_); at_builtin; refine Kd.S_append (Kd.slice 3 (Kd.int .i64)) (w0 := w) w.heap.size rfl (.tmp 20) (.tmp 24) 29 32 (.slice none 0 0) 24 rfl Try.underlying29 info32 rfl (by decide) (by omega) vo L t [(.slice At t.length ct)] (fun k_ => some k_ ≠ (.slice AD D.length cD : Value).ownBlock) (fun k_ => some k_ = (.slice At t.length ct : Value).ownBlock) rfl rfl ?aP (fun k_ hk_ => ((Kd.R_mono (ok' := fun k_ => ((fun k_ => some k_ ≠ (.slice AD D.length cD : Value).ownBlock)) k_ ∧ some k_ ≠ (vo : Value).ownBlock) (Kd.R_apart' (HE.out) (Kd.S_typed HO.out) (by decide)) (fun k_ hk => ⟨hk.1.2, hk.2⟩))).1 k_ hk_.symm) ?aF ?aO ?aB ?aS ?aL ?_; (case aP => exact Kd.M_row (Kd.R_mono (Kd.R_tight rfl (Kd.R_mono (ok' := fun k_ => ((fun k_ => some k_ ≠ (.slice AD D.length cD : Value).ownBlock)) k_ ∧ some k_ ≠ (vo : Value).ownBlock) (Kd.R_apart' (HE.out) (Kd.S_typed HO.out) (by decide)) (fun k_ hk => ⟨hk.1.2, hk.2⟩))) (fun _ h_ => h_))); (case aB => exact (B.bs HB)); (case aF => exact (fun k_ hk => Kd.fresh' (Kd.Q_lt (B.kq HD)) k_ hk)); (case aO => exact (by (with_reducible repeat (first | apply Kd.S_alloc | apply Kd.S_drewN | apply Kd.S_drew)); exact Kd.S_mono HO.out (fun k_ hk => ⟨hk.1, fun e_ => hk.2 e_⟩))); (case aS => exact (below_size (B.bs HB))); (case aL => have := HX.out; omega); intro v13 w13 ho hb hg hat; have n0_ := Aside0.mk (Kd.Q_over' (B.kq HD) (Kd.S_typed (by (with_reducible repeat (first | apply Kd.S_alloc | apply Kd.S_drewN | apply Kd.S_drew)); exact HO.out)) (by decide) hg); have n1_ := Aside0.mk (blk_grown (g := gm) (o := .cells #[.int .i64 m1, .int .i64 m2, .int .i64 m3, .slice AD D.length cD] 34 (0, 0)) (B.kb BM) hg (Kd.S_ne HO.out BM.out (by decide))); have n2_ := Aside0.mk hb; have n3_ := Aside0.mk ho; have n4_ := Aside0.mk (IsS74.grown (B.st HI) hg (IsS74.own_neS HI.out HO.out (by decide))); clear HD BM HB HO HE HI; have HD := n0_; have BM := n1_; have HB := n2_; have HO := n3_; have HI := n4_; clear n0_ n1_ n2_ n3_ n4_; clear ho hb hg hat))
      go_roundg (7 - (i + 1).toNat)
      case measure => have := HX.out; have := HC7.out; omega
      case rel =>
        refine ⟨L ++ [t], wrap64 (i + 1), _, rfl, rfl, ⟨?_⟩, ⟨?_⟩, HO, ⟨Kd.Q_mono HD.out (fun _ _ => trivial)⟩, BM, HI, HB⟩
        · rw [HW.out]; have := HX.out; have := HC7.out; simp only [List.length_append, List.length_cons, List.length_nil]; omega
        · rw [HW.out]; exact A4n.out
    · have cib : decide (i < 7) = false := decide_eq_false ci
      have e7 : i.toNat = 7 := by have := HX.out; omega
      have h4 := A4.out
      rw [e7] at h4
      have e4 : L = LF := Option.some.inj h4
      subst e4
      have hl7 : L.length = 7 := by have := HX.out; omega
      obtain ⟨gl, cap, el, _, _, _⟩ := Kd.S_form HO.out (by omega)
      subst el
      obtain ⟨cells, hL⟩ := dLL_of (by omega) HO.out HI.out
      have HL := Aside0.mk hL
      have hcap : 7 ≤ cap := by have := (Kd.S_reads' HO.out).2.1; omega
      have HCAP := Aside0.mk hcap
      obtain ⟨n, hn⟩ : ∃ n, L.length = n := ⟨_, rfl⟩
      have HN := Aside0.mk (show L.length = n ∧ n = 7 from ⟨hn, by omega⟩)
      rw [hn]
      have NRM2 := Aside0.mk (Ne.symm (IsS74.ne_blk HI.out BM.out (by decide)))
      clear h4 e7 A4 HX ci hL hcap HO hl7 hn HD
      have h5 := A5.out
      unfold drawSpoil at h5
      obtain ⟨⟨q1, q2⟩, hq_, h5⟩ := Option.bind_eq_some_iff.mp h5
      have HQ := Aside0.mk hq_
      have H5 := Aside0.mk h5
      clear hq_ A5 h5
      go_upto_if 28 with ((with_reducible refine gate_callee (f := 43) rfl ?_); refine goesL_ (some 27) rfl rfl Try.func43 (by kernel_rfl) rfl #[.pointer (some ⟨gr, 0, none⟩), .int .i64 10] rfl B.am ?_; refine (spec_reader_pick.calls k gr b1 s1 10 q1 q2 w _ HI.out HB.out HQ.out).mono ?_; rintro e w14 ⟨rfl, hi, hb, hk⟩; refine ⟨_, rfl, ?_⟩; have n0_ := Aside0.mk (dLL_keep HL.out hk); have n1_ := Aside0.mk (KeepBut.blk hk (g' := gm) (o := .cells #[.int .i64 m1, .int .i64 m2, .int .i64 m3, .slice AD D.length cD] 34 (0, 0)) BM.out NRM2.out (by simp)); have n2_ := Aside0.mk hi; have n3_ := Aside0.mk hb; clear HL BM HI HB hi hb hk; have HL := n0_; have BM := n1_; have HI := n2_; have HB := n3_; clear n0_ n1_ n2_ n3_)
      go_cut [8] (fun v8 wc => ∃ (cells : Array Value), v8 = .slice (some ⟨gl, 0, none⟩) n cap ∧ Aside0 (dLL wc w.heap.size gr gl cells L5) ∧ Aside0 (L5.length = n) ∧ Aside0 (wc.heap[gm]? = some (.cells #[.int .i64 m1, .int .i64 m2, .int .i64 m3, .slice AD D.length cD] 34 (0, 0))) ∧ Aside0 (IsS74 w wc gr b1 s5) ∧ Aside0 (Below w.heap.size w wc))
      case first =>
        have h5 := H5.out
        clear H5
        by_cases c1 : q1 = 0
        · rw [if_pos c1] at h5
          obtain ⟨⟨a1, a2⟩, ha_, h5⟩ := Option.bind_eq_some_iff.mp h5
          have HA := Aside0.mk ha_
          by_cases c2 : 0 ≤ a1 ∧ a1 < 7
          case neg =>
            rw [if_neg c2] at h5
            cases h5
          rw [if_pos c2] at h5
          obtain ⟨⟨q, s6⟩, hs_, h5⟩ := Option.bind_eq_some_iff.mp h5
          simp only [Option.some.injEq, Prod.mk.injEq] at h5
          obtain ⟨e5, e6⟩ := h5
          subst e5
          subst e6
          have HSP := Aside0.mk hs_
          have hqb : (q1 == 0) = true := beq_iff_eq.mpr c1
          have p1 := eq_true c2.1
          have p2 : (a1 < (n : Int)) = True := eq_true (by have := HN.out; omega)
          have hlt : a1.toNat < L.length := by have := HN.out; omega
          have HLT := Aside0.mk hlt
          clear c1 c2 ha_ hs_ hlt
          go_wp2_with fail
          refine (spec_reader_pick.calls k gr b1 q2 7 a1 a2 w _ HI.out HB.out HA.out).mono ?_
          rintro e w15 ⟨rfl, hi, hb, hk⟩
          have n0_ := Aside0.mk (dLL_keep HL.out hk)
          have n1_ := Aside0.mk (KeepBut.blk hk (g' := gm) (o := .cells #[.int .i64 m1, .int .i64 m2, .int .i64 m3, .slice AD D.length cD] 34 (0, 0)) BM.out NRM2.out (by simp))
          have n2_ := Aside0.mk hi
          have n3_ := Aside0.mk hb
          clear HL BM HI HB hi hb hk
          have HL := n0_
          have BM := n1_
          have HI := n2_
          have HB := n3_
          clear n0_ n1_ n2_ n3_
          obtain ⟨g1_, g2_, g3_, g4_⟩ := HL.out
          obtain ⟨Ax, cx, x1, x2, x3⟩ := g4_ a1.toNat HLT.out
          have hx := (blk_cell g3_ a1.toNat).trans x1
          have hf := blk_frozen g3_ a1.toNat
          have HGB := Aside0.mk g1_
          have HNE := Aside0.mk g2_
          have HX2 := Aside0.mk x2
          have HX3 := Aside0.mk x3
          have HLTs := Aside0.mk (And.intro (IsS74.lt HI.out) (blk_lt g3_))
          have HGM := Aside0.mk (blk_ne BM.out g3_ (by decide))
          clear g1_ g2_ g3_ g4_ x1 x2 x3
          go_wp2_with fail
          refine (spec_reader_spoil.calls k gr b1 a2 Ax cx (L.getD a1.toNat []) 256 q s6 w _ HI.out HB.out (Kd.F_now HX3.out) HX2.out (d_far HX3.out (fun h_ => h_.1 rfl)) HSP.out).mono ?_
          rintro e w16 ⟨vq, rfl, hoq, hi, hb, hk⟩
          obtain ⟨Aq, cq, eq_, hql⟩ := Kd.Q_slice hoq
          subst eq_
          have HF := Aside0.mk (d_new hoq HLTs.out.1 HLTs.out.2)
          have HQL := Aside0.mk hql
          have n0_ := Aside0.mk (dLL_keep HL.out hk)
          have n1_ := Aside0.mk (KeepBut.blk hk (g' := gm) (o := .cells #[.int .i64 m1, .int .i64 m2, .int .i64 m3, .slice AD D.length cD] 34 (0, 0)) BM.out NRM2.out (by simp))
          have n2_ := Aside0.mk hi
          have n3_ := Aside0.mk hb
          clear HL BM HI HB hi hb hk hx hf hoq hql
          have HL := n0_
          have BM := n1_
          have HI := n2_
          have HB := n3_
          clear n0_ n1_ n2_ n3_
          obtain ⟨_, _, g3_, g4_⟩ := HL.out
          obtain ⟨Ay, cy, y1, _, _⟩ := g4_ a1.toNat HLT.out
          have hx := (blk_cell g3_ a1.toNat).trans y1
          have hf := blk_frozen g3_ a1.toNat
          clear g3_ g4_ y1
          go_wp2
          go_meet
          case rel => exact ⟨_, rfl, ⟨dLL_set HL.out HLT.out HQL.out HF.out⟩, ⟨by rw [List.length_set]; exact HN.out.1⟩, ⟨blk_far BM.out HGM.out _⟩, ⟨IsS74.far HI.out (p := ⟨gl, a1.toNat, none⟩) (Ne.symm HNE.out) _⟩, ⟨below_set HB.out HGB.out⟩⟩
        · rw [if_neg c1] at h5
          simp only [Option.some.injEq, Prod.mk.injEq] at h5
          obtain ⟨e5, e6⟩ := h5
          subst e5
          subst e6
          have hqb : (q1 == 0) = false := beq_eq_false_iff_ne.mpr c1
          clear c1
          go_wp2
          go_meet
          case rel => exact ⟨_, rfl, HL, ⟨HN.out.1⟩, BM, HI, HB⟩
      case rest =>
        clear HL BM HI HB H5
        obtain ⟨cells5, rfl, HL, HN5, BM, HI, HB⟩ := hcut
        have h6 := A6.out
        unfold drawCut at h6
        obtain ⟨⟨z1, z2⟩, hz_, h6⟩ := Option.bind_eq_some_iff.mp h6
        have HZ := Aside0.mk hz_
        have e6 : (if z1 = 0 then L5.drop 1 else L5) = R6 := Option.some.inj h6
        have HE6 := Aside0.mk e6
        clear h6 hz_ e6 A6
        go_upto_if 42 with ((with_reducible refine gate_callee (f := 43) rfl ?_); refine goesL_ (some 41) rfl rfl Try.func43 (by kernel_rfl) rfl #[.pointer (some ⟨gr, 0, none⟩), .int .i64 30] rfl B.am ?_; refine (spec_reader_pick.calls k gr b1 s5 30 z1 z2 w _ HI.out HB.out HZ.out).mono ?_; rintro e w17 ⟨rfl, hi, hb, hk⟩; refine ⟨_, rfl, ?_⟩; have n0_ := Aside0.mk (dLL_keep HL.out hk); have n1_ := Aside0.mk (KeepBut.blk hk (g' := gm) (o := .cells #[.int .i64 m1, .int .i64 m2, .int .i64 m3, .slice AD D.length cD] 34 (0, 0)) BM.out NRM2.out (by simp)); have n2_ := Aside0.mk hi; have n3_ := Aside0.mk hb; clear HL BM HI HB hi hb hk; have HL := n0_; have BM := n1_; have HI := n2_; have HB := n3_; clear n0_ n1_ n2_ n3_)
        go_cut [8] (fun v8 wc => ∃ (A : Option Addr) (m c : Nat), v8 = .slice A m c ∧ Aside0 (m = R6.length ∧ m ≤ c) ∧ Aside0 (Kd.C (Kd.slice 3 (Kd.int .i64)) wc A R6.length R6) ∧ Aside0 (wc.heap[gm]? = some (.cells #[.int .i64 m1, .int .i64 m2, .int .i64 m3, .slice AD D.length cD] 34 (0, 0))) ∧ Aside0 (Below w.heap.size w wc))
        case first =>
          have hcutf := fun W : World => d_cut W gl n cap (by have := HN.out; omega) (by have := HN.out; have := HCAP.out; omega) (by have := HCAP.out; omega)
          by_cases c3 : z1 = 0
          · have h6 := HE6.out
            rw [if_pos c3] at h6
            subst h6
            have hzb : (z1 == 0) = true := beq_iff_eq.mpr c3
            clear c3
            go_wp2
            go_meet
            case rel => exact ⟨_, _, _, rfl, ⟨by have := HN5.out; have := HN.out; have := HCAP.out; rw [List.length_drop]; omega⟩, ⟨dLL_C HL.out (by have := HN5.out; have := HN.out; omega) 1⟩, BM, HB⟩
          · have h6 := HE6.out
            rw [if_neg c3] at h6
            subst h6
            have hzb : (z1 == 0) = false := beq_eq_false_iff_ne.mpr c3
            clear c3
            go_wp2
            go_meet
            case rel => exact ⟨_, _, _, rfl, ⟨by have := HN5.out; have := HN.out; have := HCAP.out; omega⟩, ⟨by have := dLL_C HL.out (by have := HN5.out; have := HN.out; omega) 0; rwa [List.drop_zero] at this⟩, BM, HB⟩
        case rest =>
          clear HL HN5 BM HI HB HE6 HZ
          obtain ⟨AR, m, cR, rfl, HM, HCR, BM, HB⟩ := hcut
          obtain ⟨e7, h7⟩ := HM.out
          subst e7
          have HRL := Aside0.mk h7
          clear h7 HM
          try go_wp2
          have n0_ := Aside0.mk (Kd.C_drew HCR.out)
          have n1_ := Aside0.mk (blk_drew BM.out)
          have n2_ := Aside0.mk (below_drew1 HB.out)
          clear HCR BM HB
          have HCR := n0_
          have BM := n1_
          have HB := n2_
          clear n0_ n1_ n2_
          refine start_ (n := 11) (S := fun w' => w'.cell? ⟨gm, 0, none⟩ = some (.int .i64 m1) ∧ w'.cell? ⟨gm, 1, none⟩ = some (.int .i64 m2) ∧ w'.cell? ⟨gm, 2, none⟩ = some (.int .i64 m3)) (ds := []) #[false, false, false, false, false, false, false, false, false, false, false] (by kernel_rfl) rfl rfl ⟨B.bc BM 0, B.bc BM 1, B.bc BM 2⟩ (fun hHeld => ?_); refine with_tabW spec_DrawJoinPasses.tab13 spec_DrawJoinPasses.bits13 (fun HT_ HW_ => ?_)
          refine pure_ (i := 0) (N := some 45) (v := ?_) (a' := ?_) #[true, false, false, false, false, false, false, false, false, false, false] rfl rfl (any_of HT_.out (by kernel_rfl)) (fun _ _ _ h => h) (Or.inl ⟨by rfl, ?_⟩) ?_ ?_
          rotate_left
          · intro w'
            go_simp
            with_reducible rfl
          rotate_left
          · simp only [Act.put, List.setIfInBounds_toArray, List.set_cons_zero, List.set_cons_succ, i64_w, i32_w]
            rfl
          refine pure_ (i := 2) (N := some 47) (v := ?_) (a' := ?_) #[true, false, true, false, false, false, false, false, false, false, false] rfl rfl (any_of HT_.out (by kernel_rfl)) (fun _ _ _ h => h) (Or.inl ⟨by rfl, ?_⟩) ?_ ?_
          rotate_left
          · intro w'
            go_simp
            with_reducible rfl
          rotate_left
          · simp only [Act.put, List.setIfInBounds_toArray, List.set_cons_zero, List.set_cons_succ, i64_w, i32_w]
            rfl
          refine pure_ (i := 4) (N := some 49) (v := ?_) (a' := ?_) #[true, false, true, false, true, false, false, false, false, false, false] rfl rfl (any_of HT_.out (by kernel_rfl)) (fun _ _ _ h => h) (Or.inl ⟨by rfl, ?_⟩) ?_ ?_
          rotate_left
          · intro w'
            go_simp
            with_reducible rfl
          rotate_left
          · simp only [Act.put, List.setIfInBounds_toArray, List.set_cons_zero, List.set_cons_succ, i64_w, i32_w]
            rfl
          refine pure_ (i := 6) (N := some 51) (v := ?_) (a' := ?_) #[true, false, true, false, true, false, true, false, false, false, false] rfl rfl (any_of HT_.out (by kernel_rfl)) (fun _ _ _ h => h) (Or.inl ⟨by rfl, ?_⟩) ?_ ?_
          rotate_left
          · intro w'
            go_simp
            with_reducible rfl
          rotate_left
          · simp only [Act.put, List.setIfInBounds_toArray, List.set_cons_zero, List.set_cons_succ, i64_w, i32_w]
            rfl
          refine take_ (i := 1) (N := some 46) (v := ?_) (a' := ?_) #[true, true, true, false, true, false, true, false, false, false, false] rfl rfl (take_ofW HT_.out HW_.out (by kernel_rfl)) (fun _ _ _ h => h) (Or.inl ⟨by rfl, ?_⟩) hHeld ?_ ?_
          rotate_left
          · rintro w' ⟨s0, s1_, s2⟩
            go_simp
            with_reducible rfl
          rotate_left
          · simp only [Act.put, List.setIfInBounds_toArray, List.set_cons_zero, List.set_cons_succ, i64_w, i32_w]
            rfl
          refine take_ (i := 3) (N := some 48) (v := ?_) (a' := ?_) #[true, true, true, true, true, false, true, false, false, false, false] rfl rfl (take_ofW HT_.out HW_.out (by kernel_rfl)) (fun _ _ _ h => h) (Or.inl ⟨by rfl, ?_⟩) hHeld ?_ ?_
          rotate_left
          · rintro w' ⟨s0, s1_, s2⟩
            go_simp
            with_reducible rfl
          rotate_left
          · simp only [Act.put, List.setIfInBounds_toArray, List.set_cons_zero, List.set_cons_succ, i64_w, i32_w]
            rfl
          refine take_ (i := 5) (N := some 50) (v := ?_) (a' := ?_) #[true, true, true, true, true, true, true, false, false, false, false] rfl rfl (take_ofW HT_.out HW_.out (by kernel_rfl)) (fun _ _ _ h => h) (Or.inl ⟨by rfl, ?_⟩) hHeld ?_ ?_
          rotate_left
          · rintro w' ⟨s0, s1_, s2⟩
            go_simp
            with_reducible rfl
          rotate_left
          · simp only [Act.put, List.setIfInBounds_toArray, List.set_cons_zero, List.set_cons_succ, i64_w, i32_w]
            rfl
          refine pure_ (i := 7) (N := some 2) (v := ?_) (a' := ?_) #[true, true, true, true, true, true, true, true, false, false, false] rfl rfl (any_of HT_.out (by kernel_rfl)) (fun _ _ _ h => h) (Or.inl ⟨by rfl, ?_⟩) ?_ ?_
          rotate_left
          · intro w'
            go_simp
            with_reducible rfl
          rotate_left
          · simp only [Act.put, List.setIfInBounds_toArray, List.set_cons_zero, List.set_cons_succ, i64_w, i32_w]
            rfl
          refine pure_ (i := 8) (N := some 3) (v := ?_) (a' := ?_) #[true, true, true, true, true, true, true, true, true, false, false] rfl rfl (any_of HT_.out (by kernel_rfl)) (fun _ _ _ h => h) (Or.inl ⟨by rfl, ?_⟩) ?_ ?_
          rotate_left
          · intro w'
            go_simp
            with_reducible rfl
          rotate_left
          · simp only [Act.put, List.setIfInBounds_toArray, List.set_cons_zero, List.set_cons_succ, i64_w, i32_w]
            rfl
          refine pure_ (i := 9) (N := some 4) (v := ?_) (a' := ?_) #[true, true, true, true, true, true, true, true, true, true, false] rfl rfl (any_of HT_.out (by kernel_rfl)) (fun _ _ _ h => h) (Or.inl ⟨by rfl, ?_⟩) ?_ ?_
          rotate_left
          · intro w'
            go_simp
            with_reducible rfl
          rotate_left
          · simp only [Act.put, List.setIfInBounds_toArray, List.set_cons_zero, List.set_cons_succ, i64_w, i32_w]
            rfl
          refine pure_ (i := 10) (N := some 5) (v := ?_) (a' := ?_) #[true, true, true, true, true, true, true, true, true, true, true] rfl rfl (any_of HT_.out (by kernel_rfl)) (fun _ _ _ h => h) (Or.inl ⟨by rfl, ?_⟩) ?_ ?_
          rotate_left
          · intro w'
            go_simp
            with_reducible rfl
          rotate_left
          · simp only [Act.put, List.setIfInBounds_toArray, List.set_cons_zero, List.set_cons_succ, i64_w, i32_w]
            rfl
          refine done_ (done_of HT_.out (by kernel_rfl)) ?_
          try go_wp2
          (try simp only [Exit.inBlock, Exit.then])
          refine bodyPost_ret (results_list (rs := [.tmp 2, .tmp 3, .tmp 4, .tmp 5]) rfl (by simp) (Vals.tmp (Vals.tmp (Vals.tmp (Vals.tmp Vals.nil))))) rfl ?_
          exact ⟨_, rfl, Kd.V_mk HRL.out (Kd.F_mono (Kd.C_F (Kd.heap_slice 3 (Kd.heap_int .i64)) HCR.out) (fun _ _ => trivial)), HB.out⟩

/-! ### impl_passOf: function 39 (by hand) -/
-- GIVEN loop.example/pixelworks/impl.passOf
-- ROUNDS no
-- MAKING yes
def passT (k : Int) : Int × Int × Int × Int := if k = 0 then (0, 0, 8, 8) else if k = 1 then (4, 0, 8, 8) else if k = 2 then (0, 4, 4, 8) else if k = 3 then (2, 0, 4, 4) else if k = 4 then (0, 2, 2, 4) else if k = 5 then (1, 0, 2, 2) else (0, 1, 1, 2)
def impl_passOf.f (a0 : Int) : Option (Int × Int × Int × Int) := if 0 ≤ a0 ∧ a0 ≤ 6 then some (passT a0) else none
set_option maxHeartbeats 2000000 in
theorem passOf_0 (w : World) : Calls Try.prog 39 #[.int .i64 0] w fun e w' => e = .returned (.agg #[.int .i64 0, .int .i64 0, .int .i64 8, .int .i64 8]) ∧ Below w.heap.size w w' := by
  have i0 : ∀ w : World, Sem.run Try.prog (Instr.index 71 (.agg #[.int .i64 0, .int .i64 0, .int .i64 8, .int .i64 8, .int .i64 4, .int .i64 0, .int .i64 8, .int .i64 8, .int .i64 0, .int .i64 4, .int .i64 4, .int .i64 8, .int .i64 2, .int .i64 0, .int .i64 4, .int .i64 4, .int .i64 0, .int .i64 2, .int .i64 2, .int .i64 4, .int .i64 1, .int .i64 0, .int .i64 2, .int .i64 2, .int .i64 0, .int .i64 1, .int .i64 1, .int .i64 2]) (.int .i64 0)) w = .ok (.agg #[.int .i64 0, .int .i64 0, .int .i64 8, .int .i64 8]) w := fun _ => by kernel_rfl
  go_enter Try.func39, Try.ntmps39
  go_wp2
  exact bodyPost_ret (v := .agg #[.int .i64 0, .int .i64 0, .int .i64 8, .int .i64 8]) (by simp [results, Try.results39, go_sem]) rfl ⟨rfl, (Below.refl _ _).alloc (Nat.le_refl _) _⟩
set_option maxHeartbeats 2000000 in
theorem passOf_1 (w : World) : Calls Try.prog 39 #[.int .i64 1] w fun e w' => e = .returned (.agg #[.int .i64 4, .int .i64 0, .int .i64 8, .int .i64 8]) ∧ Below w.heap.size w w' := by
  have i0 : ∀ w : World, Sem.run Try.prog (Instr.index 71 (.agg #[.int .i64 0, .int .i64 0, .int .i64 8, .int .i64 8, .int .i64 4, .int .i64 0, .int .i64 8, .int .i64 8, .int .i64 0, .int .i64 4, .int .i64 4, .int .i64 8, .int .i64 2, .int .i64 0, .int .i64 4, .int .i64 4, .int .i64 0, .int .i64 2, .int .i64 2, .int .i64 4, .int .i64 1, .int .i64 0, .int .i64 2, .int .i64 2, .int .i64 0, .int .i64 1, .int .i64 1, .int .i64 2]) (.int .i64 1)) w = .ok (.agg #[.int .i64 4, .int .i64 0, .int .i64 8, .int .i64 8]) w := fun _ => by kernel_rfl
  go_enter Try.func39, Try.ntmps39
  go_wp2
  exact bodyPost_ret (v := .agg #[.int .i64 4, .int .i64 0, .int .i64 8, .int .i64 8]) (by simp [results, Try.results39, go_sem]) rfl ⟨rfl, (Below.refl _ _).alloc (Nat.le_refl _) _⟩
set_option maxHeartbeats 2000000 in
theorem passOf_2 (w : World) : Calls Try.prog 39 #[.int .i64 2] w fun e w' => e = .returned (.agg #[.int .i64 0, .int .i64 4, .int .i64 4, .int .i64 8]) ∧ Below w.heap.size w w' := by
  have i0 : ∀ w : World, Sem.run Try.prog (Instr.index 71 (.agg #[.int .i64 0, .int .i64 0, .int .i64 8, .int .i64 8, .int .i64 4, .int .i64 0, .int .i64 8, .int .i64 8, .int .i64 0, .int .i64 4, .int .i64 4, .int .i64 8, .int .i64 2, .int .i64 0, .int .i64 4, .int .i64 4, .int .i64 0, .int .i64 2, .int .i64 2, .int .i64 4, .int .i64 1, .int .i64 0, .int .i64 2, .int .i64 2, .int .i64 0, .int .i64 1, .int .i64 1, .int .i64 2]) (.int .i64 2)) w = .ok (.agg #[.int .i64 0, .int .i64 4, .int .i64 4, .int .i64 8]) w := fun _ => by kernel_rfl
  go_enter Try.func39, Try.ntmps39
  go_wp2
  exact bodyPost_ret (v := .agg #[.int .i64 0, .int .i64 4, .int .i64 4, .int .i64 8]) (by simp [results, Try.results39, go_sem]) rfl ⟨rfl, (Below.refl _ _).alloc (Nat.le_refl _) _⟩
set_option maxHeartbeats 2000000 in
theorem passOf_3 (w : World) : Calls Try.prog 39 #[.int .i64 3] w fun e w' => e = .returned (.agg #[.int .i64 2, .int .i64 0, .int .i64 4, .int .i64 4]) ∧ Below w.heap.size w w' := by
  have i0 : ∀ w : World, Sem.run Try.prog (Instr.index 71 (.agg #[.int .i64 0, .int .i64 0, .int .i64 8, .int .i64 8, .int .i64 4, .int .i64 0, .int .i64 8, .int .i64 8, .int .i64 0, .int .i64 4, .int .i64 4, .int .i64 8, .int .i64 2, .int .i64 0, .int .i64 4, .int .i64 4, .int .i64 0, .int .i64 2, .int .i64 2, .int .i64 4, .int .i64 1, .int .i64 0, .int .i64 2, .int .i64 2, .int .i64 0, .int .i64 1, .int .i64 1, .int .i64 2]) (.int .i64 3)) w = .ok (.agg #[.int .i64 2, .int .i64 0, .int .i64 4, .int .i64 4]) w := fun _ => by kernel_rfl
  go_enter Try.func39, Try.ntmps39
  go_wp2
  exact bodyPost_ret (v := .agg #[.int .i64 2, .int .i64 0, .int .i64 4, .int .i64 4]) (by simp [results, Try.results39, go_sem]) rfl ⟨rfl, (Below.refl _ _).alloc (Nat.le_refl _) _⟩
set_option maxHeartbeats 2000000 in
theorem passOf_4 (w : World) : Calls Try.prog 39 #[.int .i64 4] w fun e w' => e = .returned (.agg #[.int .i64 0, .int .i64 2, .int .i64 2, .int .i64 4]) ∧ Below w.heap.size w w' := by
  have i0 : ∀ w : World, Sem.run Try.prog (Instr.index 71 (.agg #[.int .i64 0, .int .i64 0, .int .i64 8, .int .i64 8, .int .i64 4, .int .i64 0, .int .i64 8, .int .i64 8, .int .i64 0, .int .i64 4, .int .i64 4, .int .i64 8, .int .i64 2, .int .i64 0, .int .i64 4, .int .i64 4, .int .i64 0, .int .i64 2, .int .i64 2, .int .i64 4, .int .i64 1, .int .i64 0, .int .i64 2, .int .i64 2, .int .i64 0, .int .i64 1, .int .i64 1, .int .i64 2]) (.int .i64 4)) w = .ok (.agg #[.int .i64 0, .int .i64 2, .int .i64 2, .int .i64 4]) w := fun _ => by kernel_rfl
  go_enter Try.func39, Try.ntmps39
  go_wp2
  exact bodyPost_ret (v := .agg #[.int .i64 0, .int .i64 2, .int .i64 2, .int .i64 4]) (by simp [results, Try.results39, go_sem]) rfl ⟨rfl, (Below.refl _ _).alloc (Nat.le_refl _) _⟩
set_option maxHeartbeats 2000000 in
theorem passOf_5 (w : World) : Calls Try.prog 39 #[.int .i64 5] w fun e w' => e = .returned (.agg #[.int .i64 1, .int .i64 0, .int .i64 2, .int .i64 2]) ∧ Below w.heap.size w w' := by
  have i0 : ∀ w : World, Sem.run Try.prog (Instr.index 71 (.agg #[.int .i64 0, .int .i64 0, .int .i64 8, .int .i64 8, .int .i64 4, .int .i64 0, .int .i64 8, .int .i64 8, .int .i64 0, .int .i64 4, .int .i64 4, .int .i64 8, .int .i64 2, .int .i64 0, .int .i64 4, .int .i64 4, .int .i64 0, .int .i64 2, .int .i64 2, .int .i64 4, .int .i64 1, .int .i64 0, .int .i64 2, .int .i64 2, .int .i64 0, .int .i64 1, .int .i64 1, .int .i64 2]) (.int .i64 5)) w = .ok (.agg #[.int .i64 1, .int .i64 0, .int .i64 2, .int .i64 2]) w := fun _ => by kernel_rfl
  go_enter Try.func39, Try.ntmps39
  go_wp2
  exact bodyPost_ret (v := .agg #[.int .i64 1, .int .i64 0, .int .i64 2, .int .i64 2]) (by simp [results, Try.results39, go_sem]) rfl ⟨rfl, (Below.refl _ _).alloc (Nat.le_refl _) _⟩
set_option maxHeartbeats 2000000 in
theorem passOf_6 (w : World) : Calls Try.prog 39 #[.int .i64 6] w fun e w' => e = .returned (.agg #[.int .i64 0, .int .i64 1, .int .i64 1, .int .i64 2]) ∧ Below w.heap.size w w' := by
  have i0 : ∀ w : World, Sem.run Try.prog (Instr.index 71 (.agg #[.int .i64 0, .int .i64 0, .int .i64 8, .int .i64 8, .int .i64 4, .int .i64 0, .int .i64 8, .int .i64 8, .int .i64 0, .int .i64 4, .int .i64 4, .int .i64 8, .int .i64 2, .int .i64 0, .int .i64 4, .int .i64 4, .int .i64 0, .int .i64 2, .int .i64 2, .int .i64 4, .int .i64 1, .int .i64 0, .int .i64 2, .int .i64 2, .int .i64 0, .int .i64 1, .int .i64 1, .int .i64 2]) (.int .i64 6)) w = .ok (.agg #[.int .i64 0, .int .i64 1, .int .i64 1, .int .i64 2]) w := fun _ => by kernel_rfl
  go_enter Try.func39, Try.ntmps39
  go_wp2
  exact bodyPost_ret (v := .agg #[.int .i64 0, .int .i64 1, .int .i64 1, .int .i64 2]) (by simp [results, Try.results39, go_sem]) rfl ⟨rfl, (Below.refl _ _).alloc (Nat.le_refl _) _⟩
theorem impl_passOf.calls (a0 : Int) (r1 : Int) (r2 : Int) (r3 : Int) (r4 : Int) (w : World) (h : impl_passOf.f a0 = some (r1, r2, r3, r4)) :
    Calls Try.prog 39 #[.int .i64 a0] w fun e w' => e = .returned (.agg #[.int .i64 r1, .int .i64 r2, .int .i64 r3, .int .i64 r4]) ∧ Below w.heap.size w w' := by
  unfold impl_passOf.f at h
  by_cases hk : 0 ≤ a0 ∧ a0 ≤ 6
  · rw [if_pos hk] at h
    have h := Option.some.inj h
    have hc : a0 = 0 ∨ a0 = 1 ∨ a0 = 2 ∨ a0 = 3 ∨ a0 = 4 ∨ a0 = 5 ∨ a0 = 6 := by omega
    clear hk
    rcases hc with rfl | rfl | rfl | rfl | rfl | rfl | rfl
    · obtain ⟨rfl, rfl, rfl, rfl⟩ : (0 : Int) = r1 ∧ (0 : Int) = r2 ∧ (8 : Int) = r3 ∧ (8 : Int) = r4 := by
        have e : passT 0 = (0, 0, 8, 8) := by decide
        rw [e] at h
        simpa using h
      exact passOf_0 w
    · obtain ⟨rfl, rfl, rfl, rfl⟩ : (4 : Int) = r1 ∧ (0 : Int) = r2 ∧ (8 : Int) = r3 ∧ (8 : Int) = r4 := by
        have e : passT 1 = (4, 0, 8, 8) := by decide
        rw [e] at h
        simpa using h
      exact passOf_1 w
    · obtain ⟨rfl, rfl, rfl, rfl⟩ : (0 : Int) = r1 ∧ (4 : Int) = r2 ∧ (4 : Int) = r3 ∧ (8 : Int) = r4 := by
        have e : passT 2 = (0, 4, 4, 8) := by decide
        rw [e] at h
        simpa using h
      exact passOf_2 w
    · obtain ⟨rfl, rfl, rfl, rfl⟩ : (2 : Int) = r1 ∧ (0 : Int) = r2 ∧ (4 : Int) = r3 ∧ (4 : Int) = r4 := by
        have e : passT 3 = (2, 0, 4, 4) := by decide
        rw [e] at h
        simpa using h
      exact passOf_3 w
    · obtain ⟨rfl, rfl, rfl, rfl⟩ : (0 : Int) = r1 ∧ (2 : Int) = r2 ∧ (2 : Int) = r3 ∧ (4 : Int) = r4 := by
        have e : passT 4 = (0, 2, 2, 4) := by decide
        rw [e] at h
        simpa using h
      exact passOf_4 w
    · obtain ⟨rfl, rfl, rfl, rfl⟩ : (1 : Int) = r1 ∧ (0 : Int) = r2 ∧ (2 : Int) = r3 ∧ (2 : Int) = r4 := by
        have e : passT 5 = (1, 0, 2, 2) := by decide
        rw [e] at h
        simpa using h
      exact passOf_5 w
    · obtain ⟨rfl, rfl, rfl, rfl⟩ : (0 : Int) = r1 ∧ (1 : Int) = r2 ∧ (1 : Int) = r3 ∧ (2 : Int) = r4 := by
        have e : passT 6 = (0, 1, 1, 2) := by decide
        rw [e] at h
        simpa using h
      exact passOf_6 w
  · rw [if_neg hk] at h
    exact absurd h (by simp)

/-! ### impl_every: function 57 -/
def impl_every.l0 : Nat → Int → Int → List Int → Int → Option (List Int)
  | 0, _, _, _, _ => none
  | k + 1, x1, x2, x7, x8 => if x8 < x2 then (if x7.length < 17592186044416 then (impl_every.l0 k x1 x2 (x7 ++ [x8]) (wrap64 (x8 + x1))) else (none)) else (some x7)
def impl_every.f (k : Nat) (a0 : Int) (a1 : Int) (a2 : Int) : Option (List Int) := impl_every.l0 k a1 a2 (([] : List Int)) a0
theorem impl_every.mono_l : ∀ k, (∀ y0 y1 y2 y3, LeO (impl_every.l0 k y0 y1 y2 y3) (impl_every.l0 (k + 1) y0 y1 y2 y3))
  | 0 => fun _ _ _ _ r h => by simp [impl_every.l0] at h
  | k + 1 => by
    have ih0 := impl_every.mono_l k
    · intro y0 y1 y2 y3
      unfold impl_every.l0
      repeat' first
      | (with_reducible exact ih0 _ _ _ _)
      | (with_reducible exact LeO.refl _)
      | (with_reducible exact LeO.none _)
      | (with_reducible refine LeO.ite ?_ ?_)
      | (with_reducible refine LeO.bind ?_ (fun _ => ?_))
      | exact ih0 _ _ _ _
      | exact LeO.none _
      | refine LeO.ite ?_ ?_
      | refine LeO.bind ?_ (fun _ => ?_)
theorem impl_every.mono : ∀ a0 a1 a2 k, LeO (impl_every.f k a0 a1 a2) (impl_every.f (k + 1) a0 a1 a2) := by
  intro a0 a1 a2 k
  have ih0 := impl_every.mono_l k
  unfold impl_every.f
  repeat' first
      | (with_reducible exact ih0 _ _ _ _)
      | (with_reducible exact LeO.refl _)
      | (with_reducible exact LeO.none _)
      | (with_reducible refine LeO.ite ?_ ?_)
      | (with_reducible refine LeO.bind ?_ (fun _ => ?_))
      | exact ih0 _ _ _ _
      | exact LeO.none _
      | refine LeO.ite ?_ ?_
      | refine LeO.bind ?_ (fun _ => ?_)
set_option maxHeartbeats 8000000 in
set_option maxRecDepth 100000 in
theorem impl_every.calls (k : Nat) (a0 : Int) (a1 : Int) (a2 : Int) (r : List Int) (w : World) (h : impl_every.f k a0 a1 a2 = some r) :
    Calls Try.prog 57 #[.int .i64 a0, .int .i64 a1, .int .i64 a2] w fun e w' => ∃ v0_ : Value, e = .returned (v0_) ∧ Kd.R (Kd.int .i64) 3 w' w.heap.size (fun _ => True) v0_ r ∧ Below w.heap.size w w' := by
  have HB := Aside0.mk (Below.refl w.heap.size w)
  have H : (impl_every.l0 k a1 a2 (([] : List Int)) a0) = some r := h
  clear h
  obtain ⟨y278, hy278⟩ : ∃ y_ : List Int, y_ = (([] : List Int)) := ⟨_, rfl⟩
  replace H : (impl_every.l0 k a1 a2 y278 a0) = some r := by first | (rw [hy278]; with_reducible exact H) | (have H2_ := (Option.bind_some _ _).symm.trans H; rw [hy278]; with_reducible exact H2_) | (have H2_ := (Option.bind_some _ _).symm.trans H; with_reducible exact H2_) | with_reducible exact H | (rw [hy278]; exact H) | exact H
  have Ny278 := Aside0.mk hy278
  clear hy278
  have H' := Aside0.mk H
  clear H
  go_enter Try.func57, Try.ntmps57
  go_wp2_with (first | ((with_reducible refine gate_dst (N := 9) rfl ?_); refine Kd.R_lit (Kd.int .i64) _ 3 ?hg (N := 9) ?hd (xs := ([] : List Int)) (inner := []) (ok := fun _ => True) (okp := fun _ => True) ?hr ?hp (fun _ hk => hk) trivial (Below.refl _ _) (Nat.le_refl _) (by simp) ?_; (case hd => rfl); (case hg => rfl); (case hr => first | (go_simp; done) | (go_simp; rfl)); (case hp => exact (Reps.none _ _)); intro v279 w4 ho5 hb hg_ hnew_; clear hg_ hnew_; (first | rw [← Ny278.out] at ho5 | (simp only [Int.reduceToNat] at ho5; rw [← Ny278.out] at ho5)); have n0_ := Aside0.mk (Kd.R_lower ho5 (below_size (B.bl HB))); have n1_ := Aside0.mk (below_step (B.bl HB) hb); clear HB; have HO280 := n0_; have HB := n1_; clear n0_ n1_; clear hb ho5))
  go_loopg [7, 8] k (fun kq v7 v8 w' => ∃ (x7_1 : List Int) (x8_1 : Int), v8 = .int .i64 x8_1 ∧ Aside0 (impl_every.l0 kq a1 a2 x7_1 x8_1 = some r) ∧ Aside0 (kq ≤ k) ∧ Aside0 (Kd.R (Kd.int .i64) 3 w' w.heap.size (fun _ => True) v7 x7_1) ∧ Aside0 (Below w.heap.size w w'))
  case atStart => exact ⟨(y278), (a0), (by first | rfl | (simp; done) | (simp [*]; done)), H', ⟨Nat.le_refl _⟩, ⟨B.kr HO280⟩, ⟨B.bl HB⟩⟩
  case round =>
    clear H'
    try clear p2
    try clear c5
    obtain ⟨x7_1, x8_1, rfl, HA, HK1, HO_7, HB⟩ := hrel
    cases gk with
    | zero => exact absurd HA.out (by simp [impl_every.l0])
    | succ k1 =>
      have H := HA.out
      clear HA
      simp only [impl_every.l0] at H
      by_cases c6 : x8_1 < a2
      · rw [if_pos c6] at H
        have c6b0 : decide (x8_1 < a2) = true := decide_eq_true c6
        clear c6
        by_cases c7 : x7_1.length < 17592186044416
        · rw [if_pos c7] at H
          have LMc7 := Aside0.mk c7
          clear c7
          obtain ⟨y281, hy281⟩ : ∃ y_ : List Int, y_ = (x7_1 ++ [x8_1]) := ⟨_, rfl⟩
          replace H : (impl_every.l0 k1 a1 a2 y281 (wrap64 (x8_1 + a1))) = some r := by first | (rw [hy281]; with_reducible exact H) | (have H2_ := (Option.bind_some _ _).symm.trans H; rw [hy281]; with_reducible exact H2_) | (have H2_ := (Option.bind_some _ _).symm.trans H; with_reducible exact H2_) | with_reducible exact H | (rw [hy281]; exact H) | exact H
          have Ny281 := Aside0.mk hy281
          clear hy281
          have H' := Aside0.mk H
          clear H
          go_wp2_with (first | ((with_reducible refine gate_builtin (b := .append) (xs := #[.tmp 17, .tmp 19]) rfl ?_); at_builtin; refine Kd.R_append (Kd.int .i64) (w0 := w) w.heap.size rfl (.tmp 17) (.tmp 19) 32 3 (.int .i64 0) 8 rfl Try.underlying32 info3 rfl (by decide) (by omega) u7 x7_1 x8_1 [.int .i64 x8_1] (fun _ => True) (fun _ => False) rfl rfl ?aP (fun _ hk => hk.elim) ?aF ?aO ?aB ?aS ?aL ?_; (case aP => exact rfl); (case aB => exact (B.bl HB)); (case aF => exact (fun _ _ => trivial)); (case aO => exact (B.kr HO_7)); (case aS => exact (below_size (B.bl HB))); (case aL => have := LMc7.out; omega); intro v282 w8 ho hb hg hat; rw [← Ny281.out] at ho; have n0_ := Aside0.mk (hb); have n1_ := Aside0.mk (ho); clear HB HO_7; have HB := n0_; have HO283 := n1_; clear n0_ n1_; clear ho hb hg hat))
          go_roundg k1
          case measure => have := HK1.out; omega
          case rel => exact ⟨(y281), (wrap64 (x8_1 + a1)), (by first | rfl | (simp; done) | (simp [*]; done)), H', ⟨by have := HK1.out; omega⟩, ⟨B.kr HO283⟩, ⟨B.bl HB⟩⟩
        rw [if_neg c7] at H
        exact absurd H (by simp)
      rw [if_neg c6] at H
      have c6b0 : decide (x8_1 < a2) = false := decide_eq_false c6
      clear c6
      obtain rfl := Option.some.inj H
      simp only [Option.some.injEq, Prod.mk.injEq] at H
      obtain ⟨rfl⟩ := H
      go_wp2
      go_ret
      exact ⟨_, by first | rfl | (simp [errW_none, errW_some] <;> rfl) | (simp [*, errW_none, errW_some] <;> rfl), by (with_reducible repeat (first | apply Kd.R_alloc | apply Kd.R_drewN | apply Kd.R_drew)); exact HO_7.out, B.bl HB⟩

/-! ### impl_pass_columns: function 40 -/
def impl_pass_columns.f (k : Nat) (a0_0 : Int) (a0_1 : Int) (a0_2 : Int) (a0_3 : Int) (a1 : Int) : Option (List Int) := (impl_every.f k a0_0 a0_2 a1).bind fun t285 => (some t285)
theorem impl_pass_columns.mono : ∀ a0 a1 a2 a3 a4 k, LeO (impl_pass_columns.f k a0 a1 a2 a3 a4) (impl_pass_columns.f (k + 1) a0 a1 a2 a3 a4) := by
  intro a0 a1 a2 a3 a4 k
  unfold impl_pass_columns.f
  repeat' first
      | (with_reducible exact impl_every.mono _ _ _ _)
      | (with_reducible exact LeO.refl _)
      | (with_reducible exact LeO.none _)
      | (with_reducible refine LeO.ite ?_ ?_)
      | (with_reducible refine LeO.bind ?_ (fun _ => ?_))
      | exact impl_every.mono _ _ _ _
      | exact LeO.none _
      | refine LeO.ite ?_ ?_
      | refine LeO.bind ?_ (fun _ => ?_)
set_option maxHeartbeats 8000000 in
set_option maxRecDepth 100000 in
theorem impl_pass_columns.calls (k : Nat) (a0_0 : Int) (a0_1 : Int) (a0_2 : Int) (a0_3 : Int) (a1 : Int) (r : List Int) (w : World) (h : impl_pass_columns.f k a0_0 a0_1 a0_2 a0_3 a1 = some r) :
    Calls Try.prog 40 #[.agg #[.int .i64 a0_0, .int .i64 a0_1, .int .i64 a0_2, .int .i64 a0_3], .int .i64 a1] w fun e w' => ∃ v0_ : Value, e = .returned (v0_) ∧ Kd.R (Kd.int .i64) 3 w' w.heap.size (fun _ => True) v0_ r ∧ Below w.heap.size w w' := by
  have hu56 := Try.underlying56
  have HB := Aside0.mk (Below.refl w.heap.size w)
  have H : ((impl_every.f k a0_0 a0_2 a1).bind fun t285 => (some t285)) = some r := h
  clear h
  replace H := Option.bind_eq_some_iff.mp H
  obtain ⟨t285, A30, H⟩ := H
  replace H : (some t285) = some r := H
  have A3 := Aside0.mk A30
  clear A30
  obtain rfl := Option.some.inj H
  simp only [Option.some.injEq, Prod.mk.injEq] at H
  obtain ⟨rfl⟩ := H
  go_enter Try.func40, Try.ntmps40
  go_wp2_with (first | ((with_reducible refine gate_dst (N := 2) rfl ?_); refine box_event ?hg (N := 2) ?hd (cs := #[.int .i64 a0_0, .int .i64 a0_1, .int .i64 a0_2, .int .i64 a0_3]) (t := 56) ?hr ?_; (case hd => rfl); (case hg => rfl); (case hr => first | (go_simp; done) | (go_simp; rfl)); intro gb284 hg w4 hbox hb; have n0_ := Aside0.mk (below_step (B.bl HB) hb); have n1_ := Aside0.mk (hbox); have n2_ := Aside0.mk (B.nle hg (below_size (B.bl HB))); have n3_ := Aside0.mk (B.nle hg (below_size (B.bl HB))); clear HB; have HB := n0_; have BK284 := n1_; have GW284 := n2_; have GE284 := n3_; clear n0_ n1_ n2_ n3_; clear hb hbox hg; have hcz5_0 : w4.cell? ⟨gb284, 0, none⟩ = some (.int .i64 a0_0) := B.bc BK284 0; have hcz5_1 : w4.cell? ⟨gb284, 1, none⟩ = some (.int .i64 a0_1) := B.bc BK284 1; have hcz5_2 : w4.cell? ⟨gb284, 2, none⟩ = some (.int .i64 a0_2) := B.bc BK284 2; have hcz5_3 : w4.cell? ⟨gb284, 3, none⟩ = some (.int .i64 a0_3) := B.bc BK284 3; have hfz5_0 := blk_frozen BK284.out 0; have hfz5_1 := blk_frozen BK284.out 1; have hfz5_2 := blk_frozen BK284.out 2; have hfz5_3 := blk_frozen BK284.out 3) | ((with_reducible refine gate_callee (f := 57) rfl ?_); refine goesL_ (some 10) rfl rfl Try.func57 (by kernel_rfl) rfl #[.int .i64 a0_0, .int .i64 a0_2, .int .i64 a1] rfl B.am ?_; (with_reducible refine (impl_every.calls k a0_0 a0_2 a1 t285 _ A3.out).mono ?_); rintro e w6 ⟨v286, rfl, ho0, hb⟩; refine ⟨_, rfl, ?_⟩; have n0_ := Aside0.mk (Kd.R_lower ho0 (below_size (B.bl HB))); have n1_ := Aside0.mk (blk_below (B.kb BK284) hb); have n2_ := Aside0.mk (below_step (B.bl HB) hb); clear BK284 HB; have HO287 := n0_; have BK284 := n1_; have HB := n2_; clear n0_ n1_ n2_; (try clear hb); (try clear hb2); (try clear hk); (try clear hi); (try clear ho0)))
  go_ret
  exact ⟨_, by first | rfl | (simp [errW_none, errW_some] <;> rfl) | (simp [*, errW_none, errW_some] <;> rfl), by (with_reducible repeat (first | apply Kd.R_alloc | apply Kd.R_drewN | apply Kd.R_drew)); exact HO287.out, B.bl HB⟩

/-! ### impl_pass_rows: function 41 -/
def impl_pass_rows.f (k : Nat) (a0_0 : Int) (a0_1 : Int) (a0_2 : Int) (a0_3 : Int) (a1 : Int) : Option (List Int) := (impl_every.f k a0_1 a0_3 a1).bind fun t289 => (some t289)
theorem impl_pass_rows.mono : ∀ a0 a1 a2 a3 a4 k, LeO (impl_pass_rows.f k a0 a1 a2 a3 a4) (impl_pass_rows.f (k + 1) a0 a1 a2 a3 a4) := by
  intro a0 a1 a2 a3 a4 k
  unfold impl_pass_rows.f
  repeat' first
      | (with_reducible exact impl_every.mono _ _ _ _)
      | (with_reducible exact LeO.refl _)
      | (with_reducible exact LeO.none _)
      | (with_reducible refine LeO.ite ?_ ?_)
      | (with_reducible refine LeO.bind ?_ (fun _ => ?_))
      | exact impl_every.mono _ _ _ _
      | exact LeO.none _
      | refine LeO.ite ?_ ?_
      | refine LeO.bind ?_ (fun _ => ?_)
set_option maxHeartbeats 8000000 in
set_option maxRecDepth 100000 in
theorem impl_pass_rows.calls (k : Nat) (a0_0 : Int) (a0_1 : Int) (a0_2 : Int) (a0_3 : Int) (a1 : Int) (r : List Int) (w : World) (h : impl_pass_rows.f k a0_0 a0_1 a0_2 a0_3 a1 = some r) :
    Calls Try.prog 41 #[.agg #[.int .i64 a0_0, .int .i64 a0_1, .int .i64 a0_2, .int .i64 a0_3], .int .i64 a1] w fun e w' => ∃ v0_ : Value, e = .returned (v0_) ∧ Kd.R (Kd.int .i64) 3 w' w.heap.size (fun _ => True) v0_ r ∧ Below w.heap.size w w' := by
  have hu56 := Try.underlying56
  have HB := Aside0.mk (Below.refl w.heap.size w)
  have H : ((impl_every.f k a0_1 a0_3 a1).bind fun t289 => (some t289)) = some r := h
  clear h
  replace H := Option.bind_eq_some_iff.mp H
  obtain ⟨t289, A30, H⟩ := H
  replace H : (some t289) = some r := H
  have A3 := Aside0.mk A30
  clear A30
  obtain rfl := Option.some.inj H
  simp only [Option.some.injEq, Prod.mk.injEq] at H
  obtain ⟨rfl⟩ := H
  go_enter Try.func41, Try.ntmps41
  go_wp2_with (first | ((with_reducible refine gate_dst (N := 2) rfl ?_); refine box_event ?hg (N := 2) ?hd (cs := #[.int .i64 a0_0, .int .i64 a0_1, .int .i64 a0_2, .int .i64 a0_3]) (t := 56) ?hr ?_; (case hd => rfl); (case hg => rfl); (case hr => first | (go_simp; done) | (go_simp; rfl)); intro gb288 hg w4 hbox hb; have n0_ := Aside0.mk (below_step (B.bl HB) hb); have n1_ := Aside0.mk (hbox); have n2_ := Aside0.mk (B.nle hg (below_size (B.bl HB))); have n3_ := Aside0.mk (B.nle hg (below_size (B.bl HB))); clear HB; have HB := n0_; have BK288 := n1_; have GW288 := n2_; have GE288 := n3_; clear n0_ n1_ n2_ n3_; clear hb hbox hg; have hcz5_0 : w4.cell? ⟨gb288, 0, none⟩ = some (.int .i64 a0_0) := B.bc BK288 0; have hcz5_1 : w4.cell? ⟨gb288, 1, none⟩ = some (.int .i64 a0_1) := B.bc BK288 1; have hcz5_2 : w4.cell? ⟨gb288, 2, none⟩ = some (.int .i64 a0_2) := B.bc BK288 2; have hcz5_3 : w4.cell? ⟨gb288, 3, none⟩ = some (.int .i64 a0_3) := B.bc BK288 3; have hfz5_0 := blk_frozen BK288.out 0; have hfz5_1 := blk_frozen BK288.out 1; have hfz5_2 := blk_frozen BK288.out 2; have hfz5_3 := blk_frozen BK288.out 3) | ((with_reducible refine gate_callee (f := 57) rfl ?_); refine goesL_ (some 10) rfl rfl Try.func57 (by kernel_rfl) rfl #[.int .i64 a0_1, .int .i64 a0_3, .int .i64 a1] rfl B.am ?_; (with_reducible refine (impl_every.calls k a0_1 a0_3 a1 t289 _ A3.out).mono ?_); rintro e w6 ⟨v290, rfl, ho0, hb⟩; refine ⟨_, rfl, ?_⟩; have n0_ := Aside0.mk (Kd.R_lower ho0 (below_size (B.bl HB))); have n1_ := Aside0.mk (blk_below (B.kb BK288) hb); have n2_ := Aside0.mk (below_step (B.bl HB) hb); clear BK288 HB; have HO291 := n0_; have BK288 := n1_; have HB := n2_; clear n0_ n1_ n2_; (try clear hb); (try clear hb2); (try clear hk); (try clear hi); (try clear ho0)))
  go_ret
  exact ⟨_, by first | rfl | (simp [errW_none, errW_some] <;> rfl) | (simp [*, errW_none, errW_some] <;> rfl), by (with_reducible repeat (first | apply Kd.R_alloc | apply Kd.R_drewN | apply Kd.R_drew)); exact HO291.out, B.bl HB⟩

/-! ### impl_isSide: function 38 -/
def impl_isSide.f (a0 : Int) : Option (Bool) := if a0 ≥ 1 then (some (decide (a0 ≤ 16))) else (some false)
set_option maxHeartbeats 8000000 in
set_option maxRecDepth 100000 in
theorem impl_isSide.calls (a0 : Int) (r : Bool) (w : World) (h : impl_isSide.f a0 = some r) :
    Calls Try.prog 38 #[.int .i64 a0] w fun e w' => e = .returned (.bool r) ∧ Drawn0 w w' := by
  have H : (if a0 ≥ 1 then (some (decide (a0 ≤ 16))) else (some false)) = some r := h
  clear h
  by_cases c2 : a0 ≥ 1
  · rw [if_pos c2] at H
    have c2b0 : decide (1 ≤ a0) = true := decide_eq_true c2
    clear c2
    obtain rfl := Option.some.inj H
    simp only [Option.some.injEq, Prod.mk.injEq] at H
    obtain ⟨rfl⟩ := H
    go_enter Try.func38, Try.ntmps38
    go_wp2
    go_ret
    exact ⟨by first | rfl | (simp; done) | (simp [*]; done), by repeat (first | exact Drawn0.refl _ | apply Drawn0.step)⟩
  rw [if_neg c2] at H
  have c2b0 : decide (1 ≤ a0) = false := decide_eq_false c2
  clear c2
  obtain rfl := Option.some.inj H
  simp only [Option.some.injEq, Prod.mk.injEq] at H
  obtain ⟨rfl⟩ := H
  go_enter Try.func38, Try.ntmps38
  go_wp2
  go_ret
  exact ⟨by first | rfl | (simp; done) | (simp [*]; done), by repeat (first | exact Drawn0.refl _ | apply Drawn0.step)⟩

/-! ### impl_isShape: function 46 -/
def impl_isShape.f (a0 : Int) (a1 : Int) (a2 : Int) : Option (Bool) := (impl_isSide.f a0).bind fun t292 => (if t292 = true then ((impl_isSide.f a1).bind fun t293 => (if t293 = true then (if a2 ≥ 1 then (some (decide (a2 ≤ 4))) else (some false)) else (some false))) else (some false))
set_option maxHeartbeats 8000000 in
set_option maxRecDepth 100000 in
theorem impl_isShape.calls (a0 : Int) (a1 : Int) (a2 : Int) (r : Bool) (w : World) (h : impl_isShape.f a0 a1 a2 = some r) :
    Calls Try.prog 46 #[.int .i64 a0, .int .i64 a1, .int .i64 a2] w fun e w' => e = .returned (.bool r) ∧ Drawn0 w w' := by
  have H : ((impl_isSide.f a0).bind fun t292 => (if t292 = true then ((impl_isSide.f a1).bind fun t293 => (if t293 = true then (if a2 ≥ 1 then (some (decide (a2 ≤ 4))) else (some false)) else (some false))) else (some false))) = some r := h
  clear h
  replace H := Option.bind_eq_some_iff.mp H
  obtain ⟨t292, A40, H⟩ := H
  replace H : (if t292 = true then ((impl_isSide.f a1).bind fun t293 => (if t293 = true then (if a2 ≥ 1 then (some (decide (a2 ≤ 4))) else (some false)) else (some false))) else (some false)) = some r := H
  have A4 := Aside0.mk A40
  clear A40
  by_cases c5 : t292 = true
  · subst c5
    have H1 : ((impl_isSide.f a1).bind fun t293 => (if t293 = true then (if a2 ≥ 1 then (some (decide (a2 ≤ 4))) else (some false)) else (some false))) = some r := by rw [if_pos rfl] at H; exact H
    clear H
    have H := H1
    clear H1
    replace H := Option.bind_eq_some_iff.mp H
    obtain ⟨t293, A60, H⟩ := H
    replace H : (if t293 = true then (if a2 ≥ 1 then (some (decide (a2 ≤ 4))) else (some false)) else (some false)) = some r := H
    have A6 := Aside0.mk A60
    clear A60
    by_cases c7 : t293 = true
    · subst c7
      have H1 : (if a2 ≥ 1 then (some (decide (a2 ≤ 4))) else (some false)) = some r := by rw [if_pos rfl] at H; exact H
      clear H
      have H := H1
      clear H1
      by_cases c8 : a2 ≥ 1
      · rw [if_pos c8] at H
        have c8b0 : decide (1 ≤ a2) = true := decide_eq_true c8
        clear c8
        obtain rfl := Option.some.inj H
        simp only [Option.some.injEq, Prod.mk.injEq] at H
        obtain ⟨rfl⟩ := H
        go_enter Try.func46, Try.ntmps46
        go_wp2_with (first | ((with_reducible refine gate_callee (f := 38) rfl ?_); refine goesL_ (some 8) rfl rfl Try.func38 (by kernel_rfl) rfl #[.int .i64 a0] rfl B.am ?_; (with_reducible refine (impl_isSide.calls a0 true _ A4.out).mono ?_); rintro e w' ⟨rfl, ⟨nd, rfl⟩⟩; refine ⟨_, rfl, ?_⟩) | (go_at_call 38; (with_reducible refine (impl_isSide.calls a1 true _ A6.out).mono ?_); rintro e w' ⟨rfl, ⟨nd, rfl⟩⟩))
        go_ret
        exact ⟨by first | rfl | (simp; done) | (simp [*]; done), by repeat (first | exact Drawn0.refl _ | apply Drawn0.step)⟩
      rw [if_neg c8] at H
      have c8b0 : decide (1 ≤ a2) = false := decide_eq_false c8
      clear c8
      obtain rfl := Option.some.inj H
      simp only [Option.some.injEq, Prod.mk.injEq] at H
      obtain ⟨rfl⟩ := H
      go_enter Try.func46, Try.ntmps46
      go_wp2_with (first | ((with_reducible refine gate_callee (f := 38) rfl ?_); refine goesL_ (some 8) rfl rfl Try.func38 (by kernel_rfl) rfl #[.int .i64 a0] rfl B.am ?_; (with_reducible refine (impl_isSide.calls a0 true _ A4.out).mono ?_); rintro e w' ⟨rfl, ⟨nd, rfl⟩⟩; refine ⟨_, rfl, ?_⟩) | (go_at_call 38; (with_reducible refine (impl_isSide.calls a1 true _ A6.out).mono ?_); rintro e w' ⟨rfl, ⟨nd, rfl⟩⟩))
      go_ret
      exact ⟨by first | rfl | (simp; done) | (simp [*]; done), by repeat (first | exact Drawn0.refl _ | apply Drawn0.step)⟩
    replace c7 := Bool.eq_false_iff.mpr c7
    subst c7
    have H1 : (some false) = some r := by rw [if_neg (show ¬ (false = true) by decide)] at H; exact H
    clear H
    have H := H1
    clear H1
    obtain rfl := Option.some.inj H
    simp only [Option.some.injEq, Prod.mk.injEq] at H
    obtain ⟨rfl⟩ := H
    go_enter Try.func46, Try.ntmps46
    go_wp2_with (first | ((with_reducible refine gate_callee (f := 38) rfl ?_); refine goesL_ (some 8) rfl rfl Try.func38 (by kernel_rfl) rfl #[.int .i64 a0] rfl B.am ?_; (with_reducible refine (impl_isSide.calls a0 true _ A4.out).mono ?_); rintro e w' ⟨rfl, ⟨nd, rfl⟩⟩; refine ⟨_, rfl, ?_⟩) | (go_at_call 38; (with_reducible refine (impl_isSide.calls a1 false _ A6.out).mono ?_); rintro e w' ⟨rfl, ⟨nd, rfl⟩⟩))
    go_ret
    exact ⟨by first | rfl | (simp; done) | (simp [*]; done), by repeat (first | exact Drawn0.refl _ | apply Drawn0.step)⟩
  replace c5 := Bool.eq_false_iff.mpr c5
  subst c5
  have H1 : (some false) = some r := by rw [if_neg (show ¬ (false = true) by decide)] at H; exact H
  clear H
  have H := H1
  clear H1
  obtain rfl := Option.some.inj H
  simp only [Option.some.injEq, Prod.mk.injEq] at H
  obtain ⟨rfl⟩ := H
  go_enter Try.func46, Try.ntmps46
  go_wp2_with (first | ((with_reducible refine gate_callee (f := 38) rfl ?_); refine goesL_ (some 8) rfl rfl Try.func38 (by kernel_rfl) rfl #[.int .i64 a0] rfl B.am ?_; (with_reducible refine (impl_isSide.calls a0 false _ A4.out).mono ?_); rintro e w' ⟨rfl, ⟨nd, rfl⟩⟩; refine ⟨_, rfl, ?_⟩))
  go_ret
  exact ⟨by first | rfl | (simp; done) | (simp [*]; done), by repeat (first | exact Drawn0.refl _ | apply Drawn0.step)⟩

/-! ### slices_IndexFunc_int_int: function 68 (by hand) -/
-- GIVEN slices.IndexFunc[[]int,int]
-- AUX yes
theorem call_enters {f : FuncId} {fn : Func} {c : Code} (hf : Try.prog.funcs[f]? = some fn) (hname : (fn.name == "runtime.NumGoroutine") = false) (hb : fn.body = some c) : ∀ args w, (callFunc f args).run Try.prog w = .ok (.enter f args) w := by
  intro args w
  have h1 : fn.name ≠ "runtime.NumGoroutine" := by simpa using hname
  simp [callFunc, hf, h1, hb, mark]
/-- What is asked of a function value of one whole number: in every later world it answers p and turns nothing. -/
def PredG (g : Nat) (lb : Array Value) (p : Int → Bool) (w : World) : Prop :=
  ∀ (W : World) (x : Int), Below w.heap.size w W → Calls Try.prog g (#[.int .i64 x] ++ lb) W fun e w' => e = .returned (.bool (p x)) ∧ ∃ q, w' = W.drewN q
def idxOf (p : Int → Bool) (l : List Int) : Int := match l.findIdx? p with
  | some i => (i : Int)
  | none => -1
theorem idxOf_hit (p : Int → Bool) (l : List Int) (x : Int) (h0 : 0 ≤ x) (hx : x < (l.length : Int)) (hp : p (rd l x) = true) (hn : ∀ j, j < x.toNat → p (l.getD j 0) = false) : idxOf p l = x := by
  obtain ⟨i, rfl⟩ := Int.eq_ofNat_of_zero_le h0
  have hi : i < l.length := by omega
  have e : l.findIdx? p = some i := by
    rw [List.findIdx?_eq_some_iff_getElem]
    refine ⟨hi, by simpa [rd, hi] using hp, fun j hj => ?_⟩
    have := hn j (by omega)
    simpa [show j < l.length by omega] using this
  unfold idxOf
  rw [e]
theorem idxOf_miss (p : Int → Bool) (l : List Int) (hn : ∀ j, j < l.length → p (l.getD j 0) = false) : idxOf p l = -1 := by
  have e : l.findIdx? p = none := by
    rw [List.findIdx?_eq_none_iff]
    intro x hx
    obtain ⟨j, hj, rfl⟩ := List.mem_iff_getElem.1 hx
    have := hn j hj
    simpa [hj] using this
  unfold idxOf
  rw [e]
theorem idxOf_any (p : Int → Bool) (l : List Int) : decide (0 ≤ idxOf p l) = l.any p := by
  unfold idxOf
  cases e : l.findIdx? p with
  | none =>
    rw [List.findIdx?_eq_none_iff] at e
    have : l.any p = false := by
      rw [List.any_eq_false]
      intro x hx
      simp [e x hx]
    rw [this]
    decide
  | some i =>
    rw [List.findIdx?_eq_some_iff_getElem] at e
    obtain ⟨hi, hp, _⟩ := e
    have : l.any p = true := List.any_eq_true.2 ⟨l[i], List.getElem_mem _, hp⟩
    rw [this]
    simp
set_option maxHeartbeats 2000000 in
theorem indexFunc_calls (A0 : Option Addr) (c0 : Nat) (l0 : List Int) (g : Nat) (lb : Array Value) (eg : ∀ args w, (callFunc g args).run Try.prog w = .ok (.enter g args) w) (p : Int → Bool) (w : World) (hp : PredG g lb p w)
    (hr0 : Kd.C (Kd.int .i64) w A0 l0.length l0) (hl : l0.length ≤ 9223372036854775807) :
    Calls Try.prog 68 #[.slice A0 l0.length c0, .func (.func g) #[] lb] w fun e w' => e = .returned (.int .i64 (idxOf p l0)) ∧ ∃ q, w' = w.drewN q := by
  have HR0 := Aside0.mk hr0
  have HL := Aside0.mk hl
  clear hr0 hl
  have hpAt : ∀ (x : Int) (q : Nat), Calls Try.prog g (#[.int .i64 x] ++ lb) (w.drewN q) fun e w' => e = .returned (.bool (p x)) ∧ ∃ q', w' = (w.drewN q).drewN q' := fun x q => hp _ x (pw_below_drewN (Below.refl _ w) q)
  clear hp
  go_enter Try.func68, Try.ntmps68
  go_wp2
  go_loopg [5, 8] l0.length (fun gg _ s8 wr => ∃ (x8 : Int) (q : Nat), s8 = .int .i64 x8 ∧ Aside0 (0 ≤ x8 ∧ x8 ≤ (l0.length : Int) ∧ ∀ j, j < x8.toNat → p (l0.getD j 0) = false) ∧ Aside0 (l0.length - x8.toNat ≤ gg) ∧ wr = w.drewN q)
  case atStart => exact ⟨0, 0, rfl, ⟨by omega, by omega, fun j hj => absurd hj (by simp)⟩, ⟨by omega⟩, rfl⟩
  case round =>
    obtain ⟨x8, q, rfl, HA, HG, rfl⟩ := hrel
    by_cases c4 : x8 < (l0.length : Int)
    · have p1 : 0 ≤ x8 := HA.out.1
      obtain ⟨ad, e1, hx⟩ := Kd.at_int HR0.out x8 p1 c4
      cases e1
      have c4b0 : decide (x8 < (l0.length : Int)) = true := decide_eq_true c4
      have HC4 := Aside0.mk c4
      clear c4
      replace p1 := eq_true p1
      have q1 := eq_true HC4.out
      generalize hy : rd l0 x8 = y at hx
      have HY := Aside0.mk hy
      clear hy
      have hcall := hpAt y
      have hw : wrap64 (x8 + 1) = x8 + 1 := by unfold wrap64; have := HA.out.1; have := HL.out; have := HC4.out; omega
      have HW := Aside0.mk hw
      clear hw
      cases hq : p y with
      | true =>
        rw [hq] at hcall
        have HQ := Aside0.mk hq
        clear hq
        go_wp2_with fail
        refine (hcall _).mono ?_
        rintro e w' ⟨rfl, q', rfl⟩
        go_wp2
        go_ret
        refine ⟨?_, _, rfl⟩
        rw [idxOf_hit p l0 x8 HA.out.1 HC4.out (by rw [HY.out]; exact HQ.out) HA.out.2.2]
        rfl
      | false =>
        rw [hq] at hcall
        have HQ := Aside0.mk hq
        clear hq
        go_wp2_with fail
        refine (hcall _).mono ?_
        rintro e w' ⟨rfl, q', rfl⟩
        go_wp2
        go_roundg (l0.length - (x8 + 1).toNat)
        case measure => have := HG.out; have := HA.out.1; have := HC4.out; omega
        case rel =>
          refine ⟨wrap64 (x8 + 1), _, rfl, ⟨?_⟩, ⟨?_⟩, rfl⟩
          · rw [HW.out]
            refine ⟨by have := HA.out.1; omega, by have := HC4.out; omega, fun j hj => ?_⟩
            by_cases e : j = x8.toNat
            · subst e
              have := HQ.out
              rw [← HY.out] at this
              exact this
            · exact HA.out.2.2 j (by have := HA.out.1; omega)
          · rw [HW.out]; exact Nat.le_refl _
    · have c4b0 : decide (x8 < (l0.length : Int)) = false := decide_eq_false c4
      have HC4 := Aside0.mk c4
      clear c4
      go_wp2
      go_ret
      refine ⟨?_, q, rfl⟩
      rw [idxOf_miss p l0 (fun j hj => HA.out.2.2 j (by have := HC4.out; omega))]
      rfl

/-! ### slices_ContainsFunc_int_int: function 63 (by hand) -/
-- GIVEN slices.ContainsFunc[[]int,int]
-- AUX yes
set_option maxHeartbeats 2000000 in
theorem containsFunc_calls (A0 : Option Addr) (c0 : Nat) (l0 : List Int) (g : Nat) (lb : Array Value) (eg : ∀ args w, (callFunc g args).run Try.prog w = .ok (.enter g args) w) (p : Int → Bool) (w : World) (hp : PredG g lb p w)
    (hr0 : Kd.C (Kd.int .i64) w A0 l0.length l0) (hl : l0.length ≤ 9223372036854775807) :
    Calls Try.prog 63 #[.slice A0 l0.length c0, .func (.func g) #[] lb] w fun e w' => e = .returned (.bool (l0.any p)) ∧ ∃ q, w' = w.drewN q := by
  rw [← idxOf_any]
  have HC := indexFunc_calls A0 c0 l0 g lb eg p w hp hr0 hl
  clear hp hr0 hl eg
  generalize idxOf p l0 = i at HC
  go_enter Try.func63, Try.ntmps63
  go_wp2_with (go_at_call 68; refine HC.mono ?_; rintro e w' ⟨rfl, q, rfl⟩)
  go_ret
  exact ⟨rfl, q, rfl⟩

/-! ### impl_areBytes: function 47 (by hand) -/
-- GIVEN loop.example/pixelworks/impl.areBytes
-- ROUNDS no
-- MAKING no
def notByte (n : Int) : Bool := decide (n < 0) || decide (n > 255)
def impl_areBytes.f (l0 : List Int) : Option (Bool) := some (!l0.any notByte)
theorem notByte_pred (w : World) : PredG 64 #[] notByte w := fun W x _ => by
  by_cases h1 : x < 0
  · have e : notByte x = true := by simp [notByte, h1]
    rw [e]
    have b1 : decide (x < 0) = true := decide_eq_true h1
    go_enter Try.func64, Try.ntmps64
    go_wp2
    go_ret
    exact ⟨rfl, 0, rfl⟩
  · have e : notByte x = decide (255 < x) := by simp [notByte, h1]
    rw [e]
    have b1 : decide (x < 0) = false := decide_eq_false h1
    go_enter Try.func64, Try.ntmps64
    go_wp2
    go_ret
    exact ⟨rfl, 0, rfl⟩
theorem impl_areBytes.calls (A0 : Option Addr) (c0 : Nat) (l0 : List Int) (r : Bool) (w : World) (hr0 : Kd.C (Kd.int .i64) w A0 l0.length l0) (hc0 : l0.length ≤ c0) (h : impl_areBytes.f l0 = some r) :
    Calls Try.prog 47 #[.slice A0 l0.length c0] w fun e w' => e = .returned (.bool r) ∧ Drawn0 w w' := by
  obtain rfl : (!l0.any notByte) = r := Option.some.inj h
  have hl : l0.length ≤ 9223372036854775807 := Kd.C_max hr0
  have HC := containsFunc_calls A0 c0 l0 64 #[] (call_enters Try.func64 (by kernel_rfl) rfl) notByte w (notByte_pred w) hr0 hl
  clear hr0 hc0 hl h
  generalize l0.any notByte = b at HC
  go_enter Try.func47, Try.ntmps47
  go_wp2_with (go_at_call 63; refine HC.mono ?_; rintro e w' ⟨rfl, q, rfl⟩)
  go_ret
  exact ⟨rfl, ⟨q, rfl⟩⟩

/-! ### impl_Image_at: function 48 (by hand) -/
-- GIVEN (loop.example/pixelworks/impl.Image).at
-- AUX yes
set_option maxHeartbeats 2000000 in
theorem at_calls (a0_0 a0_1 a0_2 ax ay : Int) (A0 : Option Addr) (c0 : Nat) (D : List Int) (w : World) (ho : B.ImgI a0_0 a0_1 a0_2 D) (hx : 0 ≤ ax ∧ ax < a0_0) (hy : 0 ≤ ay ∧ ay < a0_1)
    (hr : Kd.C (Kd.int .i64) w A0 D.length D) (hc : D.length ≤ c0) :
    Calls Try.prog 48 #[.agg #[.int .i64 a0_0, .int .i64 a0_1, .int .i64 a0_2, .slice A0 D.length c0], .int .i64 ax, .int .i64 ay] w fun e w' =>
      ∃ A1 c1, e = .returned (.slice A1 (B.pix D a0_0.toNat a0_2.toNat ax.toNat ay.toNat).length c1) ∧ (B.pix D a0_0.toNat a0_2.toNat ax.toNat ay.toNat).length ≤ c1 ∧
        Kd.C (Kd.int .i64) w' A1 (B.pix D a0_0.toNat a0_2.toNat ax.toNat ay.toNat).length (B.pix D a0_0.toNat a0_2.toNat ax.toNat ay.toNat) ∧ Below w.heap.size w w' := by
  obtain ⟨i1, i2, i3, i4, i5, i6, i7⟩ := ho.idx hx hy
  have hp : 1 ≤ a0_2 ∧ a0_2 ≤ 4 := ⟨ho.2.2.2.2.1, ho.2.2.2.2.2.1⟩
  obtain ⟨n, hn⟩ : ∃ n : Int, wrap64 (wrap64 (wrap64 (ay * a0_0) + ax) * a0_2) = n := ⟨_, rfl⟩
  have hn2 : n = (ay * a0_0 + ax) * a0_2 := by rw [← hn, i1, i2, i3]
  rw [← hn2] at i4 i5 i6 i7
  have hpx : (D.take (n + a0_2).toNat).drop n.toNat = B.pix D a0_0.toNat a0_2.toNat ax.toNat ay.toNat := by
    rw [i7]
    exact B.pix_mid D _ _ _ _ _ (by omega)
  have hw : wrap64 (n + a0_2) = n + a0_2 := B.w64 (by omega) (by omega)
  obtain ⟨i0, hi0, _, hsz, _⟩ := info_parts info3
  obtain ⟨A1, hcut, hA1, hC1⟩ := print_mid_of (P := Try.prog) (Value.int .i64) 0 32 3 .i64 .i64 Try.underlying32 hi0 hsz A0 c0 D n (n + a0_2) i4 (by omega) i5 hc
  rw [hpx] at hcut hA1 hC1
  have HR := Aside0.mk (Kd.C_of_reads (h1 := fun _ => rfl) (hA1 _ (Kd.reads_of_C hr)))
  have HC := Aside0.mk hC1
  generalize B.pix D a0_0.toNat a0_2.toNat ax.toNat ay.toNat = px at hcut HR HC
  have c1 := eq_true i4
  have c2 : decide (0 ≤ n) = true := decide_eq_true i4
  have hu28 := Try.underlying34
  have hn' : (IntKind.i64.wrap (wrap64 (wrap64 (ay * a0_0) + ax) * a0_2)) = n := (i64_w _).trans hn
  clear ho hx hy hr hc i1 i2 i3 i4 i5 i6 i7 hn2 hpx hi0 hsz hA1 hC1 hp
  go_enter Try.func48, Try.ntmps48
  go_wp2
  go_ret
  exact ⟨A1, _, rfl, HC.out, Kd.C_alloc HR.out _, below_alloc (Below.refl _ _) _⟩
theorem mid_at (W : World) (g n c : Nat) (a b : Int) (h0 : 0 ≤ a) (h1 : a < b) (hm : b ≤ c) :
    (Instr.slice 32 (.slice (some ⟨g, 0, none⟩) n c) (some (.int .i64 a)) (some (.int .i64 b)) none).run Try.prog W = .ok (.slice (some ⟨g, a.toNat, none⟩) (b.toNat - a.toNat) (c - a.toNat)) W := by
  obtain ⟨i0, hi0, _, hsz, _⟩ := info_parts info3
  have ht := Try.underlying32
  have hel : Try.prog.elem 32 = 3 := by simp [Program.elem, ht]
  have hu : Try.prog.underlying 32 = some (.slice (Try.prog.elem 32)) := by rw [hel]; exact ht
  have hne : ¬ c = a.toNat := by omega
  rw [run_slice_lh W 32 (some ⟨g, 0, none⟩) n c hu .i64 .i64 a b h0 (by omega) (by omega), hel]
  simp [sizeOf, typeInfo, hi0, hsz, sliced, Result.andThen, hne, Addr.add]
  try omega
set_option maxHeartbeats 2000000 in
theorem at_slice (a0_0 a0_1 a0_2 ax ay : Int) (g : Nat) (c0 : Nat) (D : List Int) (w : World) (ho : B.ImgI a0_0 a0_1 a0_2 D) (hx : 0 ≤ ax ∧ ax < a0_0) (hy : 0 ≤ ay ∧ ay < a0_1) (hc : D.length ≤ c0) :
    Calls Try.prog 48 #[.agg #[.int .i64 a0_0, .int .i64 a0_1, .int .i64 a0_2, .slice (some ⟨g, 0, none⟩) D.length c0], .int .i64 ax, .int .i64 ay] w fun e w' =>
      ∃ cc, e = .returned (.slice (some ⟨g, (ay.toNat * a0_0.toNat + ax.toNat) * a0_2.toNat, none⟩) a0_2.toNat cc) ∧ Below w.heap.size w w' := by
  obtain ⟨i1, i2, i3, i4, i5, i6, i7⟩ := ho.idx hx hy
  have hp : 1 ≤ a0_2 ∧ a0_2 ≤ 4 := ⟨ho.2.2.2.2.1, ho.2.2.2.2.2.1⟩
  obtain ⟨n, hn⟩ : ∃ n : Int, wrap64 (wrap64 (wrap64 (ay * a0_0) + ax) * a0_2) = n := ⟨_, rfl⟩
  have hn2 : n = (ay * a0_0 + ax) * a0_2 := by rw [← hn, i1, i2, i3]
  rw [← hn2] at i4 i5 i6 i7
  have hw : wrap64 (n + a0_2) = n + a0_2 := B.w64 (by omega) (by omega)
  have hcut := fun W : World => mid_at W g D.length c0 n (n + a0_2) i4 (by omega) (by omega)
  have hq : (n + a0_2).toNat - n.toNat = a0_2.toNat := by omega
  rw [hq, i7] at hcut
  have c1 := eq_true i4
  have c2 : decide (0 ≤ n) = true := decide_eq_true i4
  have hu28 := Try.underlying34
  have hn' : (IntKind.i64.wrap (wrap64 (wrap64 (ay * a0_0) + ax) * a0_2)) = n := (i64_w _).trans hn
  generalize (ay.toNat * a0_0.toNat + ax.toNat) * a0_2.toNat = off at hcut ⊢
  generalize hcc : c0 - off = cc at hcut
  clear ho hx hy hc i1 i2 i3 i4 i5 i6 i7 hn2 hp hq hcc
  go_enter Try.func48, Try.ntmps48
  go_wp2
  go_ret
  exact ⟨cc, rfl, below_alloc (Below.refl _ _) _⟩

end Go.Proofs.Ytpadegboplcapaa.Q
