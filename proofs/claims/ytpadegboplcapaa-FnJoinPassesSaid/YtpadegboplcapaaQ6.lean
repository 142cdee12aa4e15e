-- Written by a program of this session (the kit's printer, with hand-proved contracts for the functions that it does not take).
import Derived.Test.YtpadegboplcapaaQ0
import Derived.Test.YtpadegboplcapaaQ1
import Derived.Test.YtpadegboplcapaaQ5
namespace Go.Proofs.Ytpadegboplcapaa.Q
open Go.RowKit Go.Proofs.YtpadegboplcapaaW.PrintWords Go.Proofs.YtpadegboplcapaaW.PrintLast Go.Proofs.YtpadegboplcapaaW.PrintMore
attribute [local go_sem] max2_int min2_int max_two min_two max_three min_three max_four min_four   -- for this text's walks alone
set_option linter.unusedVariables false
set_option linter.unusedSimpArgs false

/-! ### impl_JoinPasses: function 14 (by hand) -/
-- GIVEN loop.example/pixelworks/impl.JoinPasses
-- ROUNDS yes
-- MAKING yes
theorem joinBytes_ok (l : List Int) : impl_areBytes.f l = some (l.all fun x => decide (0 ≤ x) && decide (x ≤ 255)) := by
  unfold impl_areBytes.f
  congr 1
  rw [Bool.eq_iff_iff]
  simp only [Bool.not_eq_true', List.any_eq_false, List.all_eq_true, notByte, Bool.or_eq_true, Bool.and_eq_true, decide_eq_true_eq, not_or]
  exact ⟨fun h x hx => by have := h x hx; omega, fun h x hx => by have := h x hx; omega⟩
theorem joinSide_ok (n : Int) : impl_isSide.f n = some (decide (1 ≤ n) && decide (n ≤ 16)) := by
  unfold impl_isSide.f
  by_cases h : n ≥ 1
  · rw [if_pos h, decide_eq_true (show 1 ≤ n from h)]
    rfl
  · rw [if_neg h, decide_eq_false (show ¬ 1 ≤ n from h)]
    rfl
theorem joinShape_ok (a b c : Int) : impl_isShape.f a b c = some ((decide (1 ≤ a) && decide (a ≤ 16)) && ((decide (1 ≤ b) && decide (b ≤ 16)) && (decide (1 ≤ c) && decide (c ≤ 4)))) := by
  unfold impl_isShape.f
  rw [joinSide_ok, joinSide_ok]
  simp only [Option.bind_some]
  by_cases h1 : (decide (1 ≤ a) && decide (a ≤ 16)) = true
  · rw [if_pos h1, h1]
    by_cases h2 : (decide (1 ≤ b) && decide (b ≤ 16)) = true
    · rw [if_pos h2, h2]
      by_cases h3 : c ≥ 1
      · rw [if_pos h3, decide_eq_true (show 1 ≤ c from h3)]
        rfl
      · rw [if_neg h3, decide_eq_false (show ¬ 1 ≤ c from h3)]
        rfl
    · rw [if_neg h2, Bool.eq_false_iff.2 h2]
      rfl
  · rw [if_neg h1, Bool.eq_false_iff.2 h1]
    rfl
theorem joinTake (l : List Int) (x : Int) (h0 : 0 ≤ x) (h1 : x < (l.length : Int)) : l.take (x + 1).toNat = l.take x.toNat ++ [rd l x] := by
  have h2 : x.toNat < l.length := by omega
  rw [show (x + 1).toNat = x.toNat + 1 by omega, List.take_succ_eq_append_getElem h2]
  unfold rd
  simp [h2]
/-- One pixel put: the image's numbers and the rest of the data. -/
def stepJ (w p : Nat) (y : Int) (s : List Int × List Int) (x : Int) : List Int × List Int := (B.setPix s.1 w p x.toNat y.toNat (s.2.take p), s.2.drop p)
def rowJ (w p : Nat) (cs : List Int) (s : List Int × List Int) (y : Int) : List Int × List Int := cs.foldl (stepJ w p y) s
def passJ (w p : Nat) (rs cs : List Int) (s : List Int × List Int) : List Int × List Int := rs.foldl (rowJ w p cs) s
theorem stepJ_rest (w p : Nat) (y : Int) (s : List Int × List Int) (x : Int) : (stepJ w p y s x).2.length = s.2.length - p := by unfold stepJ; rw [List.length_drop]
theorem rowJ_rest (w p : Nat) (y : Int) : ∀ (cs : List Int) (s : List Int × List Int), (rowJ w p cs s y).2.length = s.2.length - cs.length * p
  | [], s => by simp [rowJ]
  | x :: cs, s => by
    show (rowJ w p cs (stepJ w p y s x) y).2.length = _
    rw [rowJ_rest w p y cs, stepJ_rest, List.length_cons, Nat.succ_mul]
    omega
theorem passJ_rest (w p : Nat) (cs : List Int) : ∀ (rs : List Int) (s : List Int × List Int), (passJ w p rs cs s).2.length = s.2.length - rs.length * (cs.length * p)
  | [], s => by simp [passJ]
  | y :: rs, s => by
    show (passJ w p rs cs (rowJ w p cs s y)).2.length = _
    rw [passJ_rest w p cs rs, rowJ_rest, List.length_cons, Nat.succ_mul]
    omega
theorem rowJ_take (w p : Nat) (y : Int) (cs : List Int) (s : List Int × List Int) (x : Int) (h0 : 0 ≤ x) (h1 : x < (cs.length : Int)) : stepJ w p y (rowJ w p (cs.take x.toNat) s y) (rd cs x) = rowJ w p (cs.take (x + 1).toNat) s y := by
  unfold rowJ
  rw [joinTake cs x h0 h1, List.foldl_append]
  rfl
theorem passJ_take (w p : Nat) (rs cs : List Int) (s : List Int × List Int) (y : Int) (h0 : 0 ≤ y) (h1 : y < (rs.length : Int)) : rowJ w p cs (passJ w p (rs.take y.toNat) cs s) (rd rs y) = passJ w p (rs.take (y + 1).toNat) cs s := by
  unfold passJ
  rw [joinTake rs y h0 h1, List.foldl_append]
  rfl
/-- What the walk of a pass wants: columns and rows on the image, and few. -/
def joinOk (w h : Int) (rs cs : List Int) : Bool := (cs.all fun x => decide (0 ≤ x) && decide (x < w)) && ((rs.all fun y => decide (0 ≤ y) && decide (y < h)) && (decide (rs.length ≤ 1000) && decide (cs.length ≤ 1000)))
def joinFrom (k : Nat) (a0 a1 a2 : Int) (l3 : List (List Int)) : Nat → Nat → List Int → Option (Int × Int × Int × List Int × Bool)
  | 0, _, D => some (a0, a1, a2, D, true)
  | d + 1, i, D => (impl_passOf.f (i : Int)).bind fun t => (impl_pass_columns.f k t.1 t.2.1 t.2.2.1 t.2.2.2 a0).bind fun cs => (impl_pass_rows.f k t.1 t.2.1 t.2.2.1 t.2.2.2 a1).bind fun rs =>
      if joinOk a0 a1 rs cs = true then
        if ((rd_L1 l3 (i : Int)).all fun x => decide (0 ≤ x) && decide (x ≤ 255)) = true ∧ ((rd_L1 l3 (i : Int)).length : Int) = wrap64 (wrap64 ((cs.length : Int) * (rs.length : Int)) * a2) then
          joinFrom k a0 a1 a2 l3 d (i + 1) (passJ a0.toNat a2.toNat rs cs (D, rd_L1 l3 (i : Int))).1
        else some (0, 0, 0, [], false)
      else none
def impl_JoinPasses.f (k : Nat) (a0 a1 a2 : Int) (l3 : List (List Int)) : Option (Int × Int × Int × List Int × Bool) :=
  if (1 ≤ a0 ∧ a0 ≤ 16) ∧ (1 ≤ a1 ∧ a1 ≤ 16) ∧ (1 ≤ a2 ∧ a2 ≤ 4) ∧ l3.length = 7 then joinFrom k a0 a1 a2 l3 7 0 (List.replicate (a1.toNat * a0.toNat * a2.toNat) 0) else some (0, 0, 0, [], false)
theorem joinFrom_mono (k : Nat) (a0 a1 a2 : Int) (l3 : List (List Int)) : ∀ d i D, LeO (joinFrom k a0 a1 a2 l3 d i D) (joinFrom (k + 1) a0 a1 a2 l3 d i D)
  | 0, _, _ => LeO.refl _
  | d + 1, i, D => by
    unfold joinFrom
    exact LeO.bind (LeO.refl _) fun _ => LeO.bind (impl_pass_columns.mono _ _ _ _ _ _) fun _ => LeO.bind (impl_pass_rows.mono _ _ _ _ _ _) fun _ => LeO.ite (LeO.ite (joinFrom_mono k a0 a1 a2 l3 d _ _) (LeO.refl _)) (LeO.refl _)
theorem impl_JoinPasses.mono : ∀ a0 a1 a2 a3 k, LeO (impl_JoinPasses.f k a0 a1 a2 a3) (impl_JoinPasses.f (k + 1) a0 a1 a2 a3) := by
  intro a0 a1 a2 a3 k
  unfold impl_JoinPasses.f
  exact LeO.ite (joinFrom_mono k a0 a1 a2 a3 7 0 _) (LeO.refl _)
theorem stepJ_img {w h p : Int} (y x : Int) (s : List Int × List Int) (o : B.ImgI w h p s.1) (hx : 0 ≤ x ∧ x < w) (hy : 0 ≤ y ∧ y < h) (hl : p.toNat ≤ s.2.length) : B.ImgI w h p (stepJ w.toNat p.toNat y s x).1 := by
  have hn := o.nat
  obtain ⟨b1, b2, b3, b4, b5, b6, b7⟩ := o
  refine ⟨b1, b2, b3, b4, b5, b6, ?_⟩
  have e : (stepJ w.toNat p.toNat y s x).1.length = h.toNat * w.toNat * p.toNat := B.setPix_length s.1 _ w.toNat h.toNat p.toNat x.toNat y.toNat hn (by omega) (by omega) (by rw [List.length_take]; omega)
  rw [e, ← hn]
  exact b7
theorem rest_ge {R C p y x : Nat} (hy : y < R) (hx : x < C) : p ≤ R * (C * p) - y * (C * p) - x * p := by
  have h1 : (y + 1) * (C * p) ≤ R * (C * p) := Nat.mul_le_mul_right _ hy
  have h2 : (x + 1) * p ≤ C * p := Nat.mul_le_mul_right _ hx
  rw [Nat.succ_mul] at h1 h2
  omega
theorem zeros_img {w h p : Int} (s0 : 1 ≤ w ∧ w ≤ 16) (s1 : 1 ≤ h ∧ h ≤ 16) (s2 : 1 ≤ p ∧ p ≤ 4) : B.ImgI w h p (List.replicate (h.toNat * w.toNat * p.toNat) 0) := by
  refine ⟨s0.1, s0.2, s1.1, s1.2, s2.1, s2.2, ?_⟩
  rw [List.length_replicate]
  obtain ⟨x, rfl⟩ := Int.eq_ofNat_of_zero_le (show 0 ≤ w by omega)
  obtain ⟨y, rfl⟩ := Int.eq_ofNat_of_zero_le (show 0 ≤ h by omega)
  obtain ⟨z, rfl⟩ := Int.eq_ofNat_of_zero_le (show 0 ≤ p by omega)
  simp only [Int.toNat_natCast]
  rw [Nat.mul_comm y x]
  simp
theorem setPix_parts (E F : List Int) (w p x y : Nat) : E.take ((y * w + x) * p) ++ (F.take p ++ E.drop ((y * w + x) * p + p)) = B.setPix E w p x y (F.take p) := by
  unfold B.setPix B.setChunk
  rw [Nat.succ_mul, List.append_assoc]
theorem join_wrap {c r : Nat} {p : Int} (hc : c ≤ 1000) (hr : r ≤ 1000) (hp : 1 ≤ p ∧ p ≤ 4) : wrap64 (wrap64 ((c : Int) * (r : Int)) * p) = ((r * (c * p.toNat) : Nat) : Int) := by
  obtain ⟨z, rfl⟩ := Int.eq_ofNat_of_zero_le (show 0 ≤ p by omega)
  have e1 : (c : Int) * (r : Int) = ((c * r : Nat) : Int) := by simp
  have e2 : c * r ≤ 1000 * 1000 := Nat.mul_le_mul hc hr
  have e4 : ((c * r : Nat) : Int) * (z : Int) = ((r * (c * z) : Nat) : Int) := by
    rw [show r * (c * z) = c * r * z by rw [← Nat.mul_assoc, Nat.mul_comm r]]
    simp
  have e5 : r * (c * z) ≤ 1000 * (1000 * 4) := Nat.mul_le_mul hr (Nat.mul_le_mul hc (by omega))
  rw [e1, B.w64 (x := ((c * r : Nat) : Int)) (by omega) (by omega), e4]
  exact B.w64 (by omega) (by omega)
/-- A pass: what the program finds. -/
theorem joinFrom_step (k : Nat) (a0 a1 a2 : Int) (l3 : List (List Int)) (i : Int) (D : List Int) (r1 r2 r3 : Int) (r4 : List Int) (r5 : Bool) (s2 : 1 ≤ a2 ∧ a2 ≤ 4) (h0 : 0 ≤ i) (h1 : i < 7) (h : joinFrom k a0 a1 a2 l3 (7 - i.toNat) i.toNat D = some (r1, r2, r3, r4, r5)) :
    ∃ p1 p2 p3 p4 cs rs, impl_passOf.f i = some (p1, p2, p3, p4) ∧ impl_pass_columns.f k p1 p2 p3 p4 a0 = some cs ∧ impl_pass_rows.f k p1 p2 p3 p4 a1 = some rs ∧ ((∀ x ∈ cs, 0 ≤ x ∧ x < a0) ∧ (∀ y ∈ rs, 0 ≤ y ∧ y < a1) ∧ rs.length ≤ 1000 ∧ cs.length ≤ 1000) ∧
      ((((rd_L1 l3 i).all fun x => decide (0 ≤ x) && decide (x ≤ 255)) = false ∧ r1 = 0 ∧ r2 = 0 ∧ r3 = 0 ∧ r4 = [] ∧ r5 = false) ∨
       (((rd_L1 l3 i).all fun x => decide (0 ≤ x) && decide (x ≤ 255)) = true ∧ (((rd_L1 l3 i).length : Int) != wrap64 (wrap64 ((cs.length : Int) * (rs.length : Int)) * a2)) = true ∧ r1 = 0 ∧ r2 = 0 ∧ r3 = 0 ∧ r4 = [] ∧ r5 = false) ∨
       (((rd_L1 l3 i).all fun x => decide (0 ≤ x) && decide (x ≤ 255)) = true ∧ (((rd_L1 l3 i).length : Int) != wrap64 (wrap64 ((cs.length : Int) * (rs.length : Int)) * a2)) = false ∧ (rd_L1 l3 i).length = rs.length * (cs.length * a2.toNat) ∧
        joinFrom k a0 a1 a2 l3 (7 - (i + 1).toNat) (i + 1).toNat (passJ a0.toNat a2.toNat rs cs (D, rd_L1 l3 i)).1 = some (r1, r2, r3, r4, r5))) := by
  obtain ⟨n, rfl⟩ := Int.eq_ofNat_of_zero_le h0
  obtain ⟨d, hd⟩ : ∃ d, 7 - n = d + 1 := ⟨6 - n, by omega⟩
  simp only [Int.toNat_natCast] at h ⊢
  rw [hd] at h
  unfold joinFrom at h
  obtain ⟨⟨p1, p2, p3, p4⟩, hT, h⟩ := Option.bind_eq_some_iff.mp h
  obtain ⟨cs, hcs, h⟩ := Option.bind_eq_some_iff.mp h
  obtain ⟨rs, hrs, h⟩ := Option.bind_eq_some_iff.mp h
  by_cases hok : joinOk a0 a1 rs cs = true
  case neg =>
    rw [if_neg hok] at h
    cases h
  rw [if_pos hok] at h
  unfold joinOk at hok
  simp only [Bool.and_eq_true, List.all_eq_true, decide_eq_true_eq] at hok
  refine ⟨p1, p2, p3, p4, cs, rs, hT, hcs, hrs, ⟨hok.1, hok.2.1, hok.2.2⟩, ?_⟩
  have hrl := hok.2.2.1
  have hcl := hok.2.2.2
  clear hok hT hcs hrs
  have e6 := join_wrap hcl hrl s2
  generalize wrap64 (wrap64 ((cs.length : Int) * (rs.length : Int)) * a2) = jj at e6 h ⊢
  have n1 : 7 - ((n : Int) + 1).toNat = d := by omega
  have n2 : ((n : Int) + 1).toNat = n + 1 := by omega
  by_cases hb : ((rd_L1 l3 (n : Int)).all fun x => decide (0 ≤ x) && decide (x ≤ 255)) = true
  · by_cases hl : ((rd_L1 l3 (n : Int)).length : Int) = jj
    · rw [if_pos ⟨hb, hl⟩] at h
      refine Or.inr (Or.inr ⟨hb, by rw [hl]; simp, ?_, ?_⟩)
      · exact Int.ofNat.inj (hl.trans e6)
      · rw [n1, n2]
        exact h
    · rw [if_neg (fun g => hl g.2)] at h
      simp only [Option.some.injEq, Prod.mk.injEq] at h
      obtain ⟨rfl, rfl, rfl, rfl, rfl⟩ := h
      exact Or.inr (Or.inl ⟨hb, bne_iff_ne.2 hl, rfl, rfl, rfl, rfl, rfl⟩)
  · rw [if_neg (fun g => hb g.1)] at h
    simp only [Option.some.injEq, Prod.mk.injEq] at h
    obtain ⟨rfl, rfl, rfl, rfl, rfl⟩ := h
    exact Or.inl ⟨Bool.eq_false_iff.2 hb, rfl, rfl, rfl, rfl, rfl⟩
/-- Room for the next pixel. -/
theorem join_room {w p : Nat} {rs cs : List Int} {D dt E F E1 F1 : List Int} {y x yv : Int} (h1 : passJ w p (rs.take y.toNat) cs (D, dt) = (E, F)) (h2 : rowJ w p (cs.take x.toNat) (E, F) yv = (E1, F1)) (hl : dt.length = rs.length * (cs.length * p)) (hy : 0 ≤ y ∧ y < (rs.length : Int)) (hx : 0 ≤ x ∧ x < (cs.length : Int)) : p ≤ F1.length := by
  have e1 := passJ_rest w p cs (rs.take y.toNat) (D, dt)
  have e2 := rowJ_rest w p yv (cs.take x.toNat) (E, F)
  rw [h1] at e1
  rw [h2] at e2
  simp only [List.length_take] at e1 e2
  rw [Nat.min_eq_left (by omega)] at e1 e2
  rw [e2, e1, hl]
  exact rest_ge (by omega) (by omega)
theorem join_next {w p : Nat} {cs E F E1 F1 : List Int} {x yv xv : Int} (h2 : rowJ w p (cs.take x.toNat) (E, F) yv = (E1, F1)) (hx : 0 ≤ x ∧ x < (cs.length : Int)) (hv : rd cs x = xv) : rowJ w p (cs.take (x + 1).toNat) (E, F) yv = (B.setPix E1 w p xv.toNat yv.toNat (F1.take p), F1.drop p) := by
  rw [← rowJ_take w p yv cs (E, F) x hx.1 hx.2, h2, hv]
  rfl
theorem join_row {w p : Nat} {rs cs D dt E F E1 F1 : List Int} {y x yv : Int} (h1 : passJ w p (rs.take y.toNat) cs (D, dt) = (E, F)) (h2 : rowJ w p (cs.take x.toNat) (E, F) yv = (E1, F1)) (hx : x.toNat = cs.length) (hy : 0 ≤ y ∧ y < (rs.length : Int)) (hv : rd rs y = yv) : passJ w p (rs.take (y + 1).toNat) cs (D, dt) = (E1, F1) := by
  rw [hx, List.take_length] at h2
  rw [← passJ_take w p rs cs (D, dt) y hy.1 hy.2, h1, hv, h2]

set_option maxHeartbeats 4000000 in
theorem join_no (a0 : Int) (a1 : Int) (a2 : Int) (A3 : Option Addr) (c3 : Nat) (l3 : List (List Int)) (w : World) (hr3 : Kd.C (Kd.slice 3 (Kd.int .i64)) w A3 l3.length l3) (hc3 : l3.length ≤ c3) (hv : impl_isShape.f a0 a1 a2 = some false) :
    Calls Try.prog 14 #[.int .i64 a0, .int .i64 a1, .int .i64 a2, .slice A3 l3.length c3] w fun e w' => ∃ v3_ : Value, e = .returned (.tuple #[.agg #[.int .i64 0, .int .i64 0, .int .i64 0, v3_], .bool false]) ∧ Kd.R (Kd.int .i64) 3 w' w.heap.size (fun _ => True) v3_ [] ∧ Below w.heap.size w w' := by
  have hu28 := Try.underlying34
  have H1 := Aside0.mk (fun (W : World) => impl_isShape.calls a0 a1 a2 false W hv)
  have BZ : Aside0 ((w.alloc (.cells #[.int .i64 0, .int .i64 0, .int .i64 0, .slice none 0 0] 34)).heap[w.heap.size]? = some (.cells #[.int .i64 0, .int .i64 0, .int .i64 0, .slice none 0 0] 34 (0, 0))) := ⟨(heap_alloc_new w (.cells #[.int .i64 0, .int .i64 0, .int .i64 0, .slice none 0 0] 34))⟩
  have HB : Aside0 (Below w.heap.size w (w.alloc (.cells #[.int .i64 0, .int .i64 0, .int .i64 0, .slice none 0 0] 34))) := ⟨(below_alloc (Below.refl _ _) _)⟩
  clear hv hr3 hc3
  go_enter Try.func14, Try.ntmps14
  go_wp2_with fail
  refine (H1.out _).mono ?_
  rintro e w1 ⟨rfl, hd1⟩
  have hb1 := hd1.below
  clear hd1
  have n0_ := Aside0.mk (blk_below BZ.out hb1)
  have nb_ := Aside0.mk (below_step HB.out hb1)
  clear BZ HB hb1
  have BZ := n0_
  have HB := nb_
  clear n0_ nb_
  have hcBZ0 := B.bc BZ 0
  have hcBZ1 := B.bc BZ 1
  have hcBZ2 := B.bc BZ 2
  have hcBZ3 := B.bc BZ 3
  have hfBZ0 := blk_frozen BZ.out 0
  have hfBZ1 := blk_frozen BZ.out 1
  have hfBZ2 := blk_frozen BZ.out 2
  have hfBZ3 := blk_frozen BZ.out 3
  go_wp2
  refine bodyPost_ret (results_ct rfl _ _ (w.heap.size) 34 #[.int .i64 0, .int .i64 0, .int .i64 0, .slice none 0 0] (0, 0) _ rfl (by first | exact BZ.out | (refine blk_put (cs := #[.int .i64 0, .int .i64 0, .int .i64 0, .slice none 0 0]) ?_ 3 _ rfl; refine blk_put (cs := #[.int .i64 0, .int .i64 0, .int .i64 0, .slice none 0 0]) ?_ 2 _ rfl; refine blk_put (cs := #[.int .i64 0, .int .i64 0, .int .i64 0, .slice none 0 0]) ?_ 1 _ rfl; refine blk_put (cs := #[.int .i64 0, .int .i64 0, .int .i64 0, .slice none 0 0]) ?_ 0 _ rfl; exact BZ.out)) Try.underlying34 rfl (by kernel_rfl)) rfl ?_
  exact ⟨_, by first | rfl | (simp; done), Kd.R_nil _ _ _ _ _, by first | exact HB.out | exact (below_set (below_set (below_set (below_set HB.out (Nat.le_refl _)) (Nat.le_refl _)) (Nat.le_refl _)) (Nat.le_refl _))⟩
set_option maxHeartbeats 4000000 in
theorem join_ln (a0 : Int) (a1 : Int) (a2 : Int) (A3 : Option Addr) (c3 : Nat) (l3 : List (List Int)) (w : World) (hr3 : Kd.C (Kd.slice 3 (Kd.int .i64)) w A3 l3.length l3) (hc3 : l3.length ≤ c3) (hv : impl_isShape.f a0 a1 a2 = some true) (t1 : ¬ l3.length = 7) :
    Calls Try.prog 14 #[.int .i64 a0, .int .i64 a1, .int .i64 a2, .slice A3 l3.length c3] w fun e w' => ∃ v3_ : Value, e = .returned (.tuple #[.agg #[.int .i64 0, .int .i64 0, .int .i64 0, v3_], .bool false]) ∧ Kd.R (Kd.int .i64) 3 w' w.heap.size (fun _ => True) v3_ [] ∧ Below w.heap.size w w' := by
  have hu28 := Try.underlying34
  have H1 := Aside0.mk (fun (W : World) => impl_isShape.calls a0 a1 a2 true W hv)
  have u5 : ((l3.length : Int) != 7) = true := bne_iff_ne.2 (by omega)
  clear t1
  have BZ : Aside0 ((w.alloc (.cells #[.int .i64 0, .int .i64 0, .int .i64 0, .slice none 0 0] 34)).heap[w.heap.size]? = some (.cells #[.int .i64 0, .int .i64 0, .int .i64 0, .slice none 0 0] 34 (0, 0))) := ⟨(heap_alloc_new w (.cells #[.int .i64 0, .int .i64 0, .int .i64 0, .slice none 0 0] 34))⟩
  have HB : Aside0 (Below w.heap.size w (w.alloc (.cells #[.int .i64 0, .int .i64 0, .int .i64 0, .slice none 0 0] 34))) := ⟨(below_alloc (Below.refl _ _) _)⟩
  clear hv hr3 hc3
  go_enter Try.func14, Try.ntmps14
  go_wp2_with fail
  refine (H1.out _).mono ?_
  rintro e w1 ⟨rfl, hd1⟩
  have hb1 := hd1.below
  clear hd1
  have n0_ := Aside0.mk (blk_below BZ.out hb1)
  have nb_ := Aside0.mk (below_step HB.out hb1)
  clear BZ HB hb1
  have BZ := n0_
  have HB := nb_
  clear n0_ nb_
  have hcBZ0 := B.bc BZ 0
  have hcBZ1 := B.bc BZ 1
  have hcBZ2 := B.bc BZ 2
  have hcBZ3 := B.bc BZ 3
  have hfBZ0 := blk_frozen BZ.out 0
  have hfBZ1 := blk_frozen BZ.out 1
  have hfBZ2 := blk_frozen BZ.out 2
  have hfBZ3 := blk_frozen BZ.out 3
  go_wp2
  refine bodyPost_ret (results_ct rfl _ _ (w.heap.size) 34 #[.int .i64 0, .int .i64 0, .int .i64 0, .slice none 0 0] (0, 0) _ rfl (by first | exact BZ.out | (refine blk_put (cs := #[.int .i64 0, .int .i64 0, .int .i64 0, .slice none 0 0]) ?_ 3 _ rfl; refine blk_put (cs := #[.int .i64 0, .int .i64 0, .int .i64 0, .slice none 0 0]) ?_ 2 _ rfl; refine blk_put (cs := #[.int .i64 0, .int .i64 0, .int .i64 0, .slice none 0 0]) ?_ 1 _ rfl; refine blk_put (cs := #[.int .i64 0, .int .i64 0, .int .i64 0, .slice none 0 0]) ?_ 0 _ rfl; exact BZ.out)) Try.underlying34 rfl (by kernel_rfl)) rfl ?_
  exact ⟨_, by first | rfl | (simp; done), Kd.R_nil _ _ _ _ _, by first | exact HB.out | exact (below_set (below_set (below_set (below_set HB.out (Nat.le_refl _)) (Nat.le_refl _)) (Nat.le_refl _)) (Nat.le_refl _))⟩
def impl_JoinPasses.T8 : Bool × List (List Nat × List Nat) := (true, [([], []), ([], []), ([0, 1], [0, 1]), ([], []), ([], []), ([3, 4, 2], [3, 4]), ([2, 5, 0, 1, 2], [2]), ([5, 6, 0, 1, 2, 3, 4, 5, 6], [5])])
def impl_JoinPasses.B8 : List Nat := [0, 0, 3, 0, 0, 31, 63, 127]
theorem impl_JoinPasses.tab8 : rtab .any (opsOf Try.f14 8) = impl_JoinPasses.T8 := by kernel_rfl
theorem impl_JoinPasses.bits8 : waitsOk impl_JoinPasses.T8.2 impl_JoinPasses.B8 = true := by kernel_rfl
set_option maxHeartbeats 8000000 in
set_option maxRecDepth 100000 in
theorem join_yes (k : Nat) (a0 : Int) (a1 : Int) (a2 : Int) (A3 : Option Addr) (c3 : Nat) (l3 : List (List Int)) (r1 : Int) (r2 : Int) (r3 : Int) (r4 : List Int) (r5 : Bool) (w : World) (hr3 : Kd.C (Kd.slice 3 (Kd.int .i64)) w A3 l3.length l3) (hc3 : l3.length ≤ c3) (hv : impl_isShape.f a0 a1 a2 = some true) (t1 : l3.length = 7) (s0 : 1 ≤ a0 ∧ a0 ≤ 16) (s1 : 1 ≤ a1 ∧ a1 ≤ 16) (s2 : 1 ≤ a2 ∧ a2 ≤ 4) (h : joinFrom k a0 a1 a2 l3 7 0 (List.replicate (a1.toNat * a0.toNat * a2.toNat) 0) = some (r1, r2, r3, r4, r5)) :
    Calls Try.prog 14 #[.int .i64 a0, .int .i64 a1, .int .i64 a2, .slice A3 l3.length c3] w fun e w' => ∃ v3_ : Value, e = .returned (.tuple #[.agg #[.int .i64 r1, .int .i64 r2, .int .i64 r3, v3_], .bool r5]) ∧ Kd.R (Kd.int .i64) 3 w' w.heap.size (fun _ => True) v3_ r4 ∧ Below w.heap.size w w' := by
  have hu28 := Try.underlying34
  have hu56 := Try.underlying56
  have HR3 := Aside0.mk hr3
  obtain ⟨D0, hD0⟩ : ∃ D : List Int, List.replicate (a1.toNat * a0.toNat * a2.toNat) (0 : Int) = D := ⟨_, rfl⟩
  have hI0 := zeros_img s0 s1 s2
  rw [hD0] at h hI0
  have HI0 := Aside0.mk hI0
  have HJ := Aside0.mk h
  have HS := Aside0.mk (And.intro s0 (And.intro s1 s2))
  have H1 := Aside0.mk (fun (W : World) => impl_isShape.calls a0 a1 a2 true W hv)
  have u5 : ((l3.length : Int) != 7) = false := by rw [t1]; rfl
  have HT := Aside0.mk t1
  obtain ⟨ji, hji⟩ : ∃ j : Int, wrap64 (wrap64 (a0 * a1) * a2) = j := ⟨_, rfl⟩
  have hjn : ji = ((a1.toNat * a0.toNat * a2.toNat : Nat) : Int) := by
    have e0 : 0 ≤ a0 * a1 := Int.mul_nonneg (by omega) (by omega)
    have e1 : a0 * a1 ≤ 16 * 16 := Int.mul_le_mul s0.2 s1.2 (by omega) (by omega)
    have e2 : 0 ≤ a0 * a1 * a2 := Int.mul_nonneg e0 (by omega)
    have e3 : a0 * a1 * a2 ≤ 256 * 4 := Int.mul_le_mul (by omega) s2.2 (by omega) (by omega)
    rw [← hji, B.w64 (x := a0 * a1) (by omega) (by omega), B.w64 (x := a0 * a1 * a2) (by omega) (by omega)]
    obtain ⟨x, rfl⟩ := Int.eq_ofNat_of_zero_le (show 0 ≤ a0 by omega)
    obtain ⟨y, rfl⟩ := Int.eq_ofNat_of_zero_le (show 0 ≤ a1 by omega)
    obtain ⟨z, rfl⟩ := Int.eq_ofNat_of_zero_le (show 0 ≤ a2 by omega)
    simp only [Int.toNat_natCast]
    rw [Nat.mul_comm y x]
    simp
  have hjw : IntKind.i64.wrap (wrap64 (a0 * a1) * a2) = ji := (i64_w _).trans hji
  have hj0 : 0 ≤ ji := by rw [hjn]; exact Int.natCast_nonneg _
  have hjm : ji.toNat ≤ 35184372088832 := by
    rw [hjn, Int.toNat_natCast]
    have e1 : a1.toNat * a0.toNat ≤ 16 * 16 := Nat.mul_le_mul (by omega) (by omega)
    have e2 : a1.toNat * a0.toNat * a2.toNat ≤ 16 * 16 * 4 := Nat.mul_le_mul e1 (by omega)
    omega
  have hrep : List.replicate ji.toNat (0 : Int) = D0 := by rw [hjn, Int.toNat_natCast]; exact hD0
  have HREP := Aside0.mk hrep
  have b0 := eq_true hj0
  clear hrep hjn hji hD0 hI0
  have BZ : Aside0 ((w.alloc (.cells #[.int .i64 0, .int .i64 0, .int .i64 0, .slice none 0 0] 34)).heap[w.heap.size]? = some (.cells #[.int .i64 0, .int .i64 0, .int .i64 0, .slice none 0 0] 34 (0, 0))) := ⟨(heap_alloc_new w (.cells #[.int .i64 0, .int .i64 0, .int .i64 0, .slice none 0 0] 34))⟩
  have HB : Aside0 (Below w.heap.size w (w.alloc (.cells #[.int .i64 0, .int .i64 0, .int .i64 0, .slice none 0 0] 34))) := ⟨(below_alloc (Below.refl _ _) _)⟩
  clear hv hr3 hc3 h t1 s0 s1 s2
  go_enter Try.func14, Try.ntmps14
  go_wp2_with fail
  refine (H1.out _).mono ?_
  rintro e w1 ⟨rfl, hd1⟩
  have hb1 := hd1.below
  clear hd1 H1
  have n0_ := Aside0.mk (blk_below BZ.out hb1)
  have nb_ := Aside0.mk (below_step HB.out hb1)
  clear BZ HB hb1
  have BZ := n0_
  have HB := nb_
  clear n0_ nb_
  go_upto_region 4 with (first | ((with_reducible refine gate_dst (N := 39) rfl ?_); refine Kd.R_make (Kd.int .i64) _ 3 rfl (N := 39) rfl 32 _ _ rfl ji rfl rfl Try.underlying32 (.int .i64 0) 8 info3 rfl (by decide) (by omega) 0 (ok := fun _ => True) (okp := fun _ => True) rfl (fun _ hk => hk) trivial hj0 (Nat.le_trans (Nat.mul_le_mul_right _ hjm) (by omega)) (Below.refl _ _) (Nat.le_refl _) ?_; intro v w2 ho2 hb2 hg_ hnew_; clear hg_ hnew_; rw [HREP.out] at ho2; have n0_ := Aside0.mk (Kd.R_lower ho2 HB.out.size); have n1_ := Aside0.mk (blk_below BZ.out hb2); have n2_ := Aside0.mk (below_step HB.out hb2); clear BZ HB ho2 hb2; have HO := n0_; have BZ := n1_; have HB := n2_; clear n0_ n1_ n2_; obtain ⟨Av, cv, ev⟩ := Kd.R_slice HO.out; subst ev) | ((with_reducible refine gate_dst (N := 10) rfl ?_); refine box_event ?hg (N := 10) ?hd (cs := #[.int .i64 0, .int .i64 0, .int .i64 0, .slice none 0 0]) (t := 34) ?hr ?_; (case hd => rfl); (case hg => rfl); (case hr => first | (go_simp; done) | (go_simp; rfl)); intro go hg w4 hbox hb; have n0_ := Aside0.mk (Kd.R_below (B.kr HO) hb); have n1_ := Aside0.mk (blk_below (B.kb BZ) hb); have n2_ := Aside0.mk (below_step (B.bl HB) hb); have n3_ := Aside0.mk hbox; have n4_ := Aside0.mk (B.nle hg (below_size (B.bl HB))); have n5_ := Aside0.mk (B.nlt hg (blk_lt (B.kb BZ))); clear HO BZ HB; have HO := n0_; have BZ := n1_; have HB := n2_; have BO := n3_; have GO := n4_; have NZO := n5_; clear n0_ n1_ n2_ n3_ n4_ n5_; clear hb hbox hg; have hp0 : w4.cell? ⟨go, 0, none⟩ = some (.int .i64 0) := B.bc BO 0; have hp1 : w4.cell? ⟨go, 1, none⟩ = some (.int .i64 0) := B.bc BO 1; have hp2 : w4.cell? ⟨go, 2, none⟩ = some (.int .i64 0) := B.bc BO 2; have hp3 : w4.cell? ⟨go, 3, none⟩ = some (.slice none 0 0) := B.bc BO 3; have hq0 := blk_frozen BO.out 0; have hq1 := blk_frozen BO.out 1; have hq2 := blk_frozen BO.out 2; have hq3 := blk_frozen BO.out 3))
  (try simp only [Act.put, List.setIfInBounds_toArray, List.set_cons_zero, List.set_cons_succ])
  have n0_ : Aside0 (Kd.R (Kd.int .i64) 3 ((((w4.setCell ⟨go, 0, none⟩ (.int .i64 a0)).setCell ⟨go, 1, none⟩ (.int .i64 a1)).setCell ⟨go, 2, none⟩ (.int .i64 a2)).setCell ⟨go, 3, none⟩ (.slice Av D0.length cv)) w.heap.size (fun _ => True) (.slice Av D0.length cv) D0) := ⟨Kd.R_mono (B.rf4 HO BO) (fun _ _ => trivial)⟩
  have n1_ : Aside0 (((((w4.setCell ⟨go, 0, none⟩ (.int .i64 a0)).setCell ⟨go, 1, none⟩ (.int .i64 a1)).setCell ⟨go, 2, none⟩ (.int .i64 a2)).setCell ⟨go, 3, none⟩ (.slice Av D0.length cv)).heap[w.heap.size]? = some (.cells #[.int .i64 0, .int .i64 0, .int .i64 0, .slice none 0 0] 34 (0, 0))) := ⟨B.bf4 BZ NZO⟩
  have n2_ : Aside0 (((((w4.setCell ⟨go, 0, none⟩ (.int .i64 a0)).setCell ⟨go, 1, none⟩ (.int .i64 a1)).setCell ⟨go, 2, none⟩ (.int .i64 a2)).setCell ⟨go, 3, none⟩ (.slice Av D0.length cv)).heap[go]? = some (.cells #[.int .i64 a0, .int .i64 a1, .int .i64 a2, .slice Av D0.length cv] 34 (0, 0))) := ⟨B.bp4 BO⟩
  have n3_ : Aside0 (Below w.heap.size w ((((w4.setCell ⟨go, 0, none⟩ (.int .i64 a0)).setCell ⟨go, 1, none⟩ (.int .i64 a1)).setCell ⟨go, 2, none⟩ (.int .i64 a2)).setCell ⟨go, 3, none⟩ (.slice Av D0.length cv))) := ⟨below_set (below_set (below_set (below_set HB.out GO.out) GO.out) GO.out) GO.out⟩
  clear HO BZ BO HB hp0 hp1 hp2 hp3 hq0 hq1 hq2 hq3
  have HO := n0_
  have BZ := n1_
  have BO := n2_
  have HB := n3_
  clear n0_ n1_ n2_ n3_
  generalize ((((w4.setCell ⟨go, 0, none⟩ (.int .i64 a0)).setCell ⟨go, 1, none⟩ (.int .i64 a1)).setCell ⟨go, 2, none⟩ (.int .i64 a2)).setCell ⟨go, 3, none⟩ (.slice Av D0.length cv)) = w5 at HO BZ BO HB ⊢
  go_wp2
  obtain ⟨g1, cv1, ev, gb, gl, HG1⟩ := Kd.R_form HO.out (by have := HS.out; rw [HI0.out.nat]; exact Nat.mul_pos (Nat.mul_pos (by omega) (by omega)) (by omega))
  injection ev with ea_ en_ ec_
  subst ea_
  subst ec_
  clear en_ gb gl HG1
  generalize hN : D0.length = N at HO BO
  have HN := Aside0.mk hN
  clear hN
  go_loopg [43] 7 (fun gg v43 wr => ∃ (i : Int) (D : List Int), v43 = .int .i64 i ∧ Aside0 (0 ≤ i ∧ i ≤ 7 ∧ 7 - i.toNat ≤ gg) ∧ Aside0 (joinFrom k a0 a1 a2 l3 (7 - i.toNat) i.toNat D = some (r1, r2, r3, r4, r5)) ∧ Aside0 (B.ImgI a0 a1 a2 D) ∧ Aside0 (wr.heap[w.heap.size]? = some (.cells #[.int .i64 0, .int .i64 0, .int .i64 0, .slice none 0 0] 34 (0, 0))) ∧ Aside0 (wr.heap[go]? = some (.cells #[.int .i64 a0, .int .i64 a1, .int .i64 a2, (.slice (some ⟨g1, 0, none⟩) N cv)] 34 (0, 0))) ∧ Aside0 (Kd.R (Kd.int .i64) 3 wr w.heap.size (fun _ => True) (.slice (some ⟨g1, 0, none⟩) N cv) D) ∧ Aside0 (Below w.heap.size w wr))
  case atStart => exact ⟨0, _, rfl, ⟨by omega⟩, HJ, HI0, BZ, BO, HO, HB⟩
  case round =>
    clear HO BZ BO HB HJ HREP b0 hj0 hjm hjw
    obtain ⟨i, D, rfl, HI, HJ, HD, BZ, BO, HO, HB⟩ := hrel
    by_cases ci : i < 7
    · have p0' : 0 ≤ i := HI.out.1
      have q0' : i < (l3.length : Int) := by rw [HT.out]; exact ci
      have HCI := Aside0.mk ci
      have cib : decide (i < (l3.length : Int)) = true := decide_eq_true q0'
      obtain ⟨p1, p2, p3, p4, cs, rs, hT, hcs, hrs, hok, hcase⟩ := joinFrom_step k a0 a1 a2 l3 i D r1 r2 r3 r4 r5 HS.out.2.2 p0' ci HJ.out
      obtain ⟨ad, Ai, ca, ea, hxw, hla, hCa⟩ := at_L1 HR3.out i p0' q0'
      cases ea
      have HCA := Aside0.mk hCa
      have HLA := Aside0.mk hla
      have hx0 := pw_cell_below HB.out hxw
      have H2 := Aside0.mk (fun (W : World) => impl_passOf.calls i p1 p2 p3 p4 W hT)
      have H3 := Aside0.mk (fun (W : World) => impl_pass_columns.calls k p1 p2 p3 p4 a0 cs W hcs)
      have H4 := Aside0.mk (fun (W : World) => impl_pass_rows.calls k p1 p2 p3 p4 a1 rs W hrs)
      have HK := Aside0.mk hok
      have HW43 : Aside0 (wrap64 (i + 1) = i + 1) := ⟨B.w64 (by omega) (by omega)⟩
      have HCASE := Aside0.mk hcase
      clear hcase hok hT hcs hrs hCa hla hxw HJ ci
      replace p0' := eq_true p0'
      replace q0' := eq_true q0'
      generalize hdt : rd_L1 l3 i = dt at hx0 HCA HLA HCASE
      clear hdt
      go_wp2_with (first | ((with_reducible refine gate_callee (f := 39) rfl ?_); refine goesL_ (some 49) rfl rfl Try.func39 (by kernel_rfl) rfl #[.int .i64 i] rfl B.am ?_; refine (H2.out _).mono ?_; rintro e w3 ⟨rfl, hb⟩; refine ⟨_, rfl, ?_⟩; have n0_ := Aside0.mk (Kd.R_below (B.kr HO) hb); have n1_ := Aside0.mk (blk_below (B.kb BZ) hb); have n2_ := Aside0.mk (blk_below (B.kb BO) hb); have n3_ := Aside0.mk (below_step (B.bl HB) hb); clear HO BZ BO HB; have HO := n0_; have BZ := n1_; have BO := n2_; have HB := n3_; clear n0_ n1_ n2_ n3_ hb) | ((with_reducible refine gate_dst (N := 13) rfl ?_); refine box_event ?hg (N := 13) ?hd (cs := #[.int .i64 0, .int .i64 0, .int .i64 0, .int .i64 0]) (t := 56) ?hr ?_; (case hd => rfl); (case hg => rfl); (case hr => first | (go_simp; done) | (go_simp; rfl)); intro gp hg w4 hbox hb; have n0_ := Aside0.mk (Kd.R_below (B.kr HO) hb); have n1_ := Aside0.mk (blk_below (B.kb BZ) hb); have n2_ := Aside0.mk (blk_below (B.kb BO) hb); have n3_ := Aside0.mk (below_step (B.bl HB) hb); have n4_ := Aside0.mk hbox; have n5_ := Aside0.mk (B.nle hg (below_size (B.bl HB))); have n6_ := Aside0.mk (B.nlt hg (blk_lt (B.kb BZ))); have n7_ := Aside0.mk (B.nlt hg (blk_lt (B.kb BO))); clear HO BZ BO HB; have HO := n0_; have BZ := n1_; have BO := n2_; have HB := n3_; have BP := n4_; have GP := n5_; have NZP := n6_; have NOP := n7_; clear n0_ n1_ n2_ n3_ n4_ n5_ n6_ n7_; clear hb hbox hg; have hp0 : w4.cell? ⟨gp, 0, none⟩ = some (.int .i64 0) := B.bc BP 0; have hp1 : w4.cell? ⟨gp, 1, none⟩ = some (.int .i64 0) := B.bc BP 1; have hp2 : w4.cell? ⟨gp, 2, none⟩ = some (.int .i64 0) := B.bc BP 2; have hp3 : w4.cell? ⟨gp, 3, none⟩ = some (.int .i64 0) := B.bc BP 3; have hq0 := blk_frozen BP.out 0; have hq1 := blk_frozen BP.out 1; have hq2 := blk_frozen BP.out 2; have hq3 := blk_frozen BP.out 3))
      (try simp only [Act.put, List.setIfInBounds_toArray, List.set_cons_zero, List.set_cons_succ])
      have n0_ : Aside0 (Kd.R (Kd.int .i64) 3 ((((w4.setCell ⟨gp, 0, none⟩ (.int .i64 p1)).setCell ⟨gp, 1, none⟩ (.int .i64 p2)).setCell ⟨gp, 2, none⟩ (.int .i64 p3)).setCell ⟨gp, 3, none⟩ (.int .i64 p4)) w.heap.size (fun _ => True) (.slice (some ⟨g1, 0, none⟩) N cv) D) := ⟨Kd.R_mono (B.rf4 HO BP) (fun _ _ => trivial)⟩
      have n1_ : Aside0 (((((w4.setCell ⟨gp, 0, none⟩ (.int .i64 p1)).setCell ⟨gp, 1, none⟩ (.int .i64 p2)).setCell ⟨gp, 2, none⟩ (.int .i64 p3)).setCell ⟨gp, 3, none⟩ (.int .i64 p4)).heap[w.heap.size]? = some (.cells #[.int .i64 0, .int .i64 0, .int .i64 0, .slice none 0 0] 34 (0, 0))) := ⟨B.bf4 BZ NZP⟩
      have n2_ : Aside0 (((((w4.setCell ⟨gp, 0, none⟩ (.int .i64 p1)).setCell ⟨gp, 1, none⟩ (.int .i64 p2)).setCell ⟨gp, 2, none⟩ (.int .i64 p3)).setCell ⟨gp, 3, none⟩ (.int .i64 p4)).heap[go]? = some (.cells #[.int .i64 a0, .int .i64 a1, .int .i64 a2, (.slice (some ⟨g1, 0, none⟩) N cv)] 34 (0, 0))) := ⟨B.bf4 BO NOP⟩
      have n3_ : Aside0 (((((w4.setCell ⟨gp, 0, none⟩ (.int .i64 p1)).setCell ⟨gp, 1, none⟩ (.int .i64 p2)).setCell ⟨gp, 2, none⟩ (.int .i64 p3)).setCell ⟨gp, 3, none⟩ (.int .i64 p4)).heap[gp]? = some (.cells #[.int .i64 p1, .int .i64 p2, .int .i64 p3, .int .i64 p4] 56 (0, 0))) := ⟨B.bp4 BP⟩
      have n4_ : Aside0 (Below w.heap.size w ((((w4.setCell ⟨gp, 0, none⟩ (.int .i64 p1)).setCell ⟨gp, 1, none⟩ (.int .i64 p2)).setCell ⟨gp, 2, none⟩ (.int .i64 p3)).setCell ⟨gp, 3, none⟩ (.int .i64 p4))) := ⟨below_set (below_set (below_set (below_set HB.out GP.out) GP.out) GP.out) GP.out⟩
      clear HO BZ BO BP HB hp0 hp1 hp2 hp3 hq0 hq1 hq2 hq3 H2 hx0
      have HO := n0_
      have BZ := n1_
      have BO := n2_
      have BP := n3_
      have HB := n4_
      clear n0_ n1_ n2_ n3_ n4_
      generalize ((((w4.setCell ⟨gp, 0, none⟩ (.int .i64 p1)).setCell ⟨gp, 1, none⟩ (.int .i64 p2)).setCell ⟨gp, 2, none⟩ (.int .i64 p3)).setCell ⟨gp, 3, none⟩ (.int .i64 p4)) = w5 at HO BZ BO BP HB ⊢
      have n0_ := Aside0.mk (Kd.R_drew HO.out)
      have n1_ := Aside0.mk (blk_drew BZ.out)
      have n2_ := Aside0.mk (blk_drew BO.out)
      have n3_ := Aside0.mk (blk_drew BP.out)
      have n4_ := Aside0.mk (below_drew1 HB.out)
      clear HO BZ BO BP HB 
      have HO := n0_
      have BZ := n1_
      have BO := n2_
      have BP := n3_
      have HB := n4_
      clear n0_ n1_ n2_ n3_ n4_
      refine start_ (n := 8) (S := fun w' => w'.cell? ⟨gp, 0, none⟩ = some (.int .i64 p1) ∧ w'.cell? ⟨gp, 1, none⟩ = some (.int .i64 p2) ∧ w'.cell? ⟨gp, 2, none⟩ = some (.int .i64 p3) ∧ w'.cell? ⟨gp, 3, none⟩ = some (.int .i64 p4)) (ds := []) #[false, false, false, false, false, false, false, false] (by kernel_rfl) rfl rfl ⟨B.bc BP 0, B.bc BP 1, B.bc BP 2, B.bc BP 3⟩ (fun hHeld => ?_); refine with_tabW impl_JoinPasses.tab8 impl_JoinPasses.bits8 (fun HT_ HW_ => ?_)
      generalize w5.drew = w6 at HO BZ BO BP HB hHeld ⊢
      refine pure_ (i := 1) (N := some 51) (v := ?_) (a' := ?_) #[false, true, false, false, false, false, false, false] rfl rfl (any_of HT_.out (by kernel_rfl)) (fun _ _ _ h => h) (Or.inl ⟨by rfl, ?_⟩) ?_ ?_
      rotate_left
      · intro w'
        go_simp
        with_reducible rfl
      rotate_left
      · simp only [Act.put, List.setIfInBounds_toArray, List.set_cons_zero, List.set_cons_succ, i64_w, i32_w]
        rfl
      refine pure_ (i := 4) (N := some 54) (v := ?_) (a' := ?_) #[false, true, false, false, true, false, false, false] rfl rfl (any_of HT_.out (by kernel_rfl)) (fun _ _ _ h => h) (Or.inl ⟨by rfl, ?_⟩) ?_ ?_
      rotate_left
      · intro w'
        go_simp
        with_reducible rfl
      rotate_left
      · simp only [Act.put, List.setIfInBounds_toArray, List.set_cons_zero, List.set_cons_succ, i64_w, i32_w]
        rfl
      refine take_ (i := 0) (N := some 50) (v := ?_) (a' := ?_) #[true, true, false, false, true, false, false, false] rfl rfl (take_ofW HT_.out HW_.out (by kernel_rfl)) (fun _ _ _ h => h) (Or.inl ⟨by rfl, ?_⟩) hHeld ?_ ?_
      rotate_left
      · rintro w' ⟨s0, s1, s2, s3⟩
        go_simp
        with_reducible rfl
      rotate_left
      · simp only [Act.put, List.setIfInBounds_toArray, List.set_cons_zero, List.set_cons_succ, i64_w, i32_w]
        rfl
      refine take_ (i := 3) (N := some 53) (v := ?_) (a' := ?_) #[true, true, false, true, true, false, false, false] rfl rfl (take_ofW HT_.out HW_.out (by kernel_rfl)) (fun _ _ _ h => h) (Or.inl ⟨by rfl, ?_⟩) hHeld ?_ ?_
      rotate_left
      · rintro w' ⟨s0, s1, s2, s3⟩
        go_simp
        with_reducible rfl
      rotate_left
      · simp only [Act.put, List.setIfInBounds_toArray, List.set_cons_zero, List.set_cons_succ, i64_w, i32_w]
        rfl
      refine one_ (i := 2) (N := some 52) #[true, true, true, true, true, false, false, false] rfl rfl (one_of HT_.out (by kernel_rfl)) (by decide) (fun K hK => ?_)
      refine goes_ Try.func40 (by kernel_rfl) rfl #[.agg #[.int .i64 p1, .int .i64 p2, .int .i64 p3, .int .i64 p4], .int .i64 a0] (by rfl) rfl rfl B.am ?_
      refine (H3.out _).mono ?_
      rintro e w7 ⟨vc, rfl, hc0, hb⟩
      refine ⟨_, rfl, ?_⟩
      have HCS := Aside0.mk (Kd.R_tight rfl (Kd.R_lower hc0 (below_size (B.bl HB))))
      have HNC := Aside0.mk (show ∀ j, some j = vc.ownBlock → some j ≠ ((.slice (some ⟨g1, 0, none⟩) N cv) : Value).ownBlock from fun j h1 h2 => absurd (Kd.R_lt (B.kr HO) j h2.symm) (Nat.not_lt.2 (Kd.R_base hc0 j h1.symm)))
      clear hc0
      have n0_ := Aside0.mk (Kd.R_below (B.kr HO) hb)
      have n1_ := Aside0.mk (blk_below (B.kb BZ) hb)
      have n2_ := Aside0.mk (blk_below (B.kb BO) hb)
      have n3_ := Aside0.mk (blk_below (B.kb BP) hb)
      have n4_ := Aside0.mk (below_step (B.bl HB) hb)
      clear HO BZ BO BP HB hb
      have HO := n0_
      have BZ := n1_
      have BO := n2_
      have BP := n3_
      have HB := n4_
      clear n0_ n1_ n2_ n3_ n4_
      obtain ⟨Ac, cc, ec⟩ := Kd.R_slice HCS.out
      subst ec
      refine hK.out _ _ ⟨B.bc BP 0, B.bc BP 1, B.bc BP 2, B.bc BP 3⟩ (fun hHeld => ?_)
      clear hK K
      refine norm_ (a' := ?_) ?_ ?_
      rotate_left
      · show Act.put _ (some 52) _ = _
        simp only [Act.put, List.setIfInBounds_toArray, List.set_cons_zero, List.set_cons_succ, i64_w, i32_w]
        rfl
      refine one_ (i := 5) (N := some 55) #[true, true, true, true, true, true, false, false] rfl rfl (one_of HT_.out (by kernel_rfl)) (by decide) (fun K hK => ?_)
      refine goes_ Try.func41 (by kernel_rfl) rfl #[.agg #[.int .i64 p1, .int .i64 p2, .int .i64 p3, .int .i64 p4], .int .i64 a1] (by rfl) rfl rfl B.am ?_
      refine (H4.out _).mono ?_
      rintro e w8 ⟨vr, rfl, hr0, hb⟩
      refine ⟨_, rfl, ?_⟩
      have HRS := Aside0.mk (Kd.R_tight rfl (Kd.R_lower hr0 (below_size (B.bl HB))))
      have HNR := Aside0.mk (show ∀ j, some j = vr.ownBlock → some j ≠ ((.slice (some ⟨g1, 0, none⟩) N cv) : Value).ownBlock from fun j h1 h2 => absurd (Kd.R_lt (B.kr HO) j h2.symm) (Nat.not_lt.2 (Kd.R_base hr0 j h1.symm)))
      clear hr0
      have n0_ := Aside0.mk (Kd.R_below (B.kr HO) hb)
      have n1_ := Aside0.mk (Kd.R_below (B.kr HCS) hb)
      have n2_ := Aside0.mk (blk_below (B.kb BZ) hb)
      have n3_ := Aside0.mk (blk_below (B.kb BO) hb)
      have n4_ := Aside0.mk (blk_below (B.kb BP) hb)
      have n5_ := Aside0.mk (below_step (B.bl HB) hb)
      clear HO HCS BZ BO BP HB hb
      have HO := n0_
      have HCS := n1_
      have BZ := n2_
      have BO := n3_
      have BP := n4_
      have HB := n5_
      clear n0_ n1_ n2_ n3_ n4_ n5_
      obtain ⟨Ar, cr, er⟩ := Kd.R_slice HRS.out
      subst er
      refine hK.out _ _ ⟨B.bc BP 0, B.bc BP 1, B.bc BP 2, B.bc BP 3⟩ (fun hHeld => ?_)
      clear hK K
      refine norm_ (a' := ?_) ?_ ?_
      rotate_left
      · show Act.put _ (some 55) _ = _
        simp only [Act.put, List.setIfInBounds_toArray, List.set_cons_zero, List.set_cons_succ, i64_w, i32_w]
        rfl
      refine pure_ (i := 6) (N := some 14) (v := ?_) (a' := ?_) #[true, true, true, true, true, true, true, false] rfl rfl (any_of HT_.out (by kernel_rfl)) (fun _ _ _ h => h) (Or.inl ⟨by rfl, ?_⟩) ?_ ?_
      rotate_left
      · intro w'
        go_simp
        with_reducible rfl
      rotate_left
      · simp only [Act.put, List.setIfInBounds_toArray, List.set_cons_zero, List.set_cons_succ, i64_w, i32_w]
        rfl
      refine pure_ (i := 7) (N := some 15) (v := ?_) (a' := ?_) #[true, true, true, true, true, true, true, true] rfl rfl (any_of HT_.out (by kernel_rfl)) (fun _ _ _ h => h) (Or.inl ⟨by rfl, ?_⟩) ?_ ?_
      rotate_left
      · intro w'
        go_simp
        with_reducible rfl
      rotate_left
      · simp only [Act.put, List.setIfInBounds_toArray, List.set_cons_zero, List.set_cons_succ, i64_w, i32_w]
        rfl
      refine done_ (done_of HT_.out (by kernel_rfl)) ?_
      clear HT_ HW_ hHeld BP GP NZP NOP H3 H4
      rcases HCASE.out with ⟨hby, e1, e2, e3, e4, e5⟩ | ⟨hby, hln, e1, e2, e3, e4, e5⟩ | ⟨hby, hln, hdl, hj⟩
      · clear HCASE
        subst e1
        subst e2
        subst e3
        subst e4
        subst e5
        have H5 := Aside0.mk (fun (W : World) (hW : Below w.heap.size w W) => impl_areBytes.calls Ai ca dt false W (Kd.C_below HCA.out hW) HLA.out (by rw [joinBytes_ok, hby]))
        clear hby
        go_wp2_with fail
        refine (H5.out _ (B.bl HB)).mono ?_
        rintro e w9 ⟨rfl, hd⟩
        have hb := hd.below
        clear hd H5
        have n0_ := Aside0.mk (Kd.R_below (B.kr HO) hb)
        have n1_ := Aside0.mk (Kd.R_below (B.kr HCS) hb)
        have n2_ := Aside0.mk (Kd.R_below (B.kr HRS) hb)
        have n3_ := Aside0.mk (blk_below (B.kb BZ) hb)
        have n4_ := Aside0.mk (blk_below (B.kb BO) hb)
        have n5_ := Aside0.mk (below_step (B.bl HB) hb)
        clear HO HCS HRS BZ BO HB hb
        have HO := n0_
        have HCS := n1_
        have HRS := n2_
        have BZ := n3_
        have BO := n4_
        have HB := n5_
        clear n0_ n1_ n2_ n3_ n4_ n5_
        have hcz0 : w9.cell? ⟨w.heap.size, 0, none⟩ = some (.int .i64 0) := B.bc BZ 0
        have hcz1 : w9.cell? ⟨w.heap.size, 1, none⟩ = some (.int .i64 0) := B.bc BZ 1
        have hcz2 : w9.cell? ⟨w.heap.size, 2, none⟩ = some (.int .i64 0) := B.bc BZ 2
        have hcz3 : w9.cell? ⟨w.heap.size, 3, none⟩ = some (.slice none 0 0) := B.bc BZ 3
        have hfz0 := blk_frozen BZ.out 0
        have hfz1 := blk_frozen BZ.out 1
        have hfz2 := blk_frozen BZ.out 2
        have hfz3 := blk_frozen BZ.out 3
        go_wp2
        refine bodyPost_ret (results_ct rfl _ _ (w.heap.size) 34 #[.int .i64 0, .int .i64 0, .int .i64 0, .slice none 0 0] (0, 0) _ rfl (by first | exact BZ.out | (refine blk_put (cs := #[.int .i64 0, .int .i64 0, .int .i64 0, .slice none 0 0]) ?_ 3 _ rfl; refine blk_put (cs := #[.int .i64 0, .int .i64 0, .int .i64 0, .slice none 0 0]) ?_ 2 _ rfl; refine blk_put (cs := #[.int .i64 0, .int .i64 0, .int .i64 0, .slice none 0 0]) ?_ 1 _ rfl; refine blk_put (cs := #[.int .i64 0, .int .i64 0, .int .i64 0, .slice none 0 0]) ?_ 0 _ rfl; exact BZ.out)) Try.underlying34 rfl (by kernel_rfl)) rfl ?_
        exact ⟨_, by first | rfl | (simp; done), Kd.R_nil _ _ _ _ _, by first | exact HB.out | exact (below_set (below_set (below_set (below_set HB.out (Nat.le_refl _)) (Nat.le_refl _)) (Nat.le_refl _)) (Nat.le_refl _))⟩
      · clear HCASE
        subst e1
        subst e2
        subst e3
        subst e4
        subst e5
        have H5 := Aside0.mk (fun (W : World) (hW : Below w.heap.size w W) => impl_areBytes.calls Ai ca dt true W (Kd.C_below HCA.out hW) HLA.out (by rw [joinBytes_ok, hby]))
        clear hby
        go_wp2_with fail
        refine (H5.out _ (B.bl HB)).mono ?_
        rintro e w9 ⟨rfl, hd⟩
        have hb := hd.below
        clear hd H5
        have n0_ := Aside0.mk (Kd.R_below (B.kr HO) hb)
        have n1_ := Aside0.mk (Kd.R_below (B.kr HCS) hb)
        have n2_ := Aside0.mk (Kd.R_below (B.kr HRS) hb)
        have n3_ := Aside0.mk (blk_below (B.kb BZ) hb)
        have n4_ := Aside0.mk (blk_below (B.kb BO) hb)
        have n5_ := Aside0.mk (below_step (B.bl HB) hb)
        clear HO HCS HRS BZ BO HB hb
        have HO := n0_
        have HCS := n1_
        have HRS := n2_
        have BZ := n3_
        have BO := n4_
        have HB := n5_
        clear n0_ n1_ n2_ n3_ n4_ n5_
        have hcz0 : w9.cell? ⟨w.heap.size, 0, none⟩ = some (.int .i64 0) := B.bc BZ 0
        have hcz1 : w9.cell? ⟨w.heap.size, 1, none⟩ = some (.int .i64 0) := B.bc BZ 1
        have hcz2 : w9.cell? ⟨w.heap.size, 2, none⟩ = some (.int .i64 0) := B.bc BZ 2
        have hcz3 : w9.cell? ⟨w.heap.size, 3, none⟩ = some (.slice none 0 0) := B.bc BZ 3
        have hfz0 := blk_frozen BZ.out 0
        have hfz1 := blk_frozen BZ.out 1
        have hfz2 := blk_frozen BZ.out 2
        have hfz3 := blk_frozen BZ.out 3
        go_wp2
        refine bodyPost_ret (results_ct rfl _ _ (w.heap.size) 34 #[.int .i64 0, .int .i64 0, .int .i64 0, .slice none 0 0] (0, 0) _ rfl (by first | exact BZ.out | (refine blk_put (cs := #[.int .i64 0, .int .i64 0, .int .i64 0, .slice none 0 0]) ?_ 3 _ rfl; refine blk_put (cs := #[.int .i64 0, .int .i64 0, .int .i64 0, .slice none 0 0]) ?_ 2 _ rfl; refine blk_put (cs := #[.int .i64 0, .int .i64 0, .int .i64 0, .slice none 0 0]) ?_ 1 _ rfl; refine blk_put (cs := #[.int .i64 0, .int .i64 0, .int .i64 0, .slice none 0 0]) ?_ 0 _ rfl; exact BZ.out)) Try.underlying34 rfl (by kernel_rfl)) rfl ?_
        exact ⟨_, by first | rfl | (simp; done), Kd.R_nil _ _ _ _ _, by first | exact HB.out | exact (below_set (below_set (below_set (below_set HB.out (Nat.le_refl _)) (Nat.le_refl _)) (Nat.le_refl _)) (Nat.le_refl _))⟩
      clear HCASE
      have H5 := Aside0.mk (fun (W : World) (hW : Below w.heap.size w W) => impl_areBytes.calls Ai ca dt true W (Kd.C_below HCA.out hW) HLA.out (by rw [joinBytes_ok, hby]))
      have HJ := Aside0.mk hj
      have HDL := Aside0.mk hdl
      clear hby hj hdl
      go_wp2_with fail
      refine (H5.out _ (B.bl HB)).mono ?_
      rintro e w9 ⟨rfl, hd⟩
      have hb := hd.below
      clear hd H5
      have n0_ := Aside0.mk (Kd.R_below (B.kr HO) hb)
      have n1_ := Aside0.mk (Kd.R_below (B.kr HCS) hb)
      have n2_ := Aside0.mk (Kd.R_below (B.kr HRS) hb)
      have n3_ := Aside0.mk (blk_below (B.kb BZ) hb)
      have n4_ := Aside0.mk (blk_below (B.kb BO) hb)
      have n5_ := Aside0.mk (below_step (B.bl HB) hb)
      clear HO HCS HRS BZ BO HB hb
      have HO := n0_
      have HCS := n1_
      have HRS := n2_
      have BZ := n3_
      have BO := n4_
      have HB := n5_
      clear n0_ n1_ n2_ n3_ n4_ n5_
      go_wp2
      clear hln cib
      have HD1 := Aside0.mk (show (D, dt) = (D, dt) from rfl)
      clear HD1
      go_loopg [12, 74] rs.length (fun gg v12 v74 wy => ∃ (y : Int) (E F : List Int) (Af : Option Addr) (cf : Nat), v12 = .slice Af F.length cf ∧ v74 = .int .i64 y ∧ Aside0 (0 ≤ y ∧ y ≤ (rs.length : Int) ∧ rs.length - y.toNat ≤ gg) ∧ Aside0 (passJ a0.toNat a2.toNat (rs.take y.toNat) cs (D, dt) = (E, F)) ∧ Aside0 (B.ImgI a0 a1 a2 E) ∧ Aside0 (F.length ≤ cf) ∧ Aside0 (Kd.C (Kd.int .i64) w Af F.length F) ∧ Aside0 (wy.heap[w.heap.size]? = some (.cells #[.int .i64 0, .int .i64 0, .int .i64 0, .slice none 0 0] 34 (0, 0))) ∧ Aside0 (wy.heap[go]? = some (.cells #[.int .i64 a0, .int .i64 a1, .int .i64 a2, (.slice (some ⟨g1, 0, none⟩) N cv)] 34 (0, 0))) ∧ Aside0 (Kd.R (Kd.int .i64) 3 wy w.heap.size (fun j => some j = (.slice Ac cs.length cc : Value).ownBlock) (.slice Ac cs.length cc : Value) cs) ∧ Aside0 (Kd.R (Kd.int .i64) 3 wy w.heap.size (fun j => some j = (.slice Ar rs.length cr : Value).ownBlock) (.slice Ar rs.length cr : Value) rs) ∧ Aside0 (Kd.R (Kd.int .i64) 3 wy w.heap.size (fun _ => True) (.slice (some ⟨g1, 0, none⟩) N cv) E) ∧ Aside0 (Below w.heap.size w wy))
      case atStart => exact ⟨0, D, dt, Ai, ca, rfl, rfl, ⟨by omega⟩, ⟨rfl⟩, HD, HLA, HCA, BZ, BO, HCS, HRS, HO, HB⟩
      case round =>
        clear HO BZ BO HCS HRS HB HD HLA HCA
        obtain ⟨y, E, F, Af, cf, rfl, rfl, HY, HE, HIE, HLF, HCF, BZ, BO, HCS, HRS, HO, HB⟩ := hrel
        by_cases cy : y < (rs.length : Int)
        · have cyb : decide (y < (rs.length : Int)) = true := decide_eq_true cy
          have HCY := Aside0.mk cy
          have p1' : 0 ≤ y := HY.out.1
          have q1' : y < (rs.length : Int) := cy
          clear cy
          obtain ⟨gr, cr', er, gb, gl, HG⟩ := Kd.R_form HRS.out (by omega)
          injection er with ea_ en_ ec_
          subst ea_
          subst ec_
          clear en_ gb gl HG
          obtain ⟨hx0, hf0⟩ := Kd.R_celln 0 HRS.out y p1' q1'
          replace hx0 := hx0.trans (show _ = some (Value.int .i64 (rd rs y)) from rfl)
          have hyr := HK.out.2.1 (rd rs y) (B.rd_mem rs y p1' q1')
          replace p1' := eq_true p1'
          replace q1' := eq_true q1'
          generalize hz : rd rs y = yv at hx0 hyr
          have HZ := Aside0.mk hz
          have HYV := Aside0.mk hyr
          clear hz hyr
          go_wp2
          clear hx0 hf0 cyb p1' q1'
          go_loopg [12, 80] cs.length (fun gg v12 v80 wx => ∃ (x : Int) (E1 F1 : List Int) (Af : Option Addr) (cf : Nat), v12 = .slice Af F1.length cf ∧ v80 = .int .i64 x ∧ Aside0 (0 ≤ x ∧ x ≤ (cs.length : Int) ∧ cs.length - x.toNat ≤ gg) ∧ Aside0 (rowJ a0.toNat a2.toNat (cs.take x.toNat) (E, F) yv = (E1, F1)) ∧ Aside0 (B.ImgI a0 a1 a2 E1) ∧ Aside0 (F1.length ≤ cf) ∧ Aside0 (Kd.C (Kd.int .i64) w Af F1.length F1) ∧ Aside0 (wx.heap[w.heap.size]? = some (.cells #[.int .i64 0, .int .i64 0, .int .i64 0, .slice none 0 0] 34 (0, 0))) ∧ Aside0 (wx.heap[go]? = some (.cells #[.int .i64 a0, .int .i64 a1, .int .i64 a2, (.slice (some ⟨g1, 0, none⟩) N cv)] 34 (0, 0))) ∧ Aside0 (Kd.R (Kd.int .i64) 3 wx w.heap.size (fun j => some j = (.slice Ac cs.length cc : Value).ownBlock) (.slice Ac cs.length cc : Value) cs) ∧ Aside0 (Kd.R (Kd.int .i64) 3 wx w.heap.size (fun j => some j = (.slice (some ⟨gr, 0, none⟩) rs.length cr : Value).ownBlock) (.slice (some ⟨gr, 0, none⟩) rs.length cr : Value) rs) ∧ Aside0 (Kd.R (Kd.int .i64) 3 wx w.heap.size (fun _ => True) (.slice (some ⟨g1, 0, none⟩) N cv) E1) ∧ Aside0 (Below w.heap.size w wx))
          case atStart => exact ⟨0, E, F, Af, cf, rfl, rfl, ⟨by omega⟩, ⟨rfl⟩, HIE, HLF, HCF, BZ, BO, HCS, HRS, HO, HB⟩
          case round =>
            clear HO BZ BO HCS HRS HB HIE HLF HCF
            clear Af cf
            obtain ⟨x, E1, F1, Af, cf, rfl, rfl, HX, HR, HIE, HLF, HCF, BZ, BO, HCS, HRS, HO, HB⟩ := hrel
            by_cases cx : x < (cs.length : Int)
            · have cxb : decide (x < (cs.length : Int)) = true := decide_eq_true cx
              have HCX := Aside0.mk cx
              have p2' : 0 ≤ x := HX.out.1
              have q2' : x < (cs.length : Int) := cx
              clear cx
              obtain ⟨gc, cc', ec, gb, gl, HG⟩ := Kd.R_form HCS.out (by omega)
              injection ec with ea_ en_ ec_
              subst ea_
              subst ec_
              clear en_ gb gl HG
              obtain ⟨hx0, hf0⟩ := Kd.R_celln 0 HCS.out x p2' q2'
              replace hx0 := hx0.trans (show _ = some (Value.int .i64 (rd cs x)) from rfl)
              have hxr := HK.out.1 (rd cs x) (B.rd_mem cs x p2' q2')
              have HW : Aside0 (wrap64 (x + 1) = x + 1) := ⟨B.w64 (by omega) (by have := HK.out.2.2.2; omega)⟩
              replace p2' := eq_true p2'
              replace q2' := eq_true q2'
              generalize hz : rd cs x = xv at hx0 hxr
              have HXV := Aside0.mk hxr
              have hst := join_next HR.out ⟨HX.out.1, HCX.out⟩ hz
              have hrm := join_room HE.out HR.out HDL.out ⟨HY.out.1, HCY.out⟩ ⟨HX.out.1, HCX.out⟩
              have hsp := setPix_parts E1 F1 a0.toNat a2.toNat xv.toNat yv.toNat
              have hI2 : B.ImgI a0 a1 a2 (B.setPix E1 a0.toNat a2.toNat xv.toNat yv.toNat (F1.take a2.toNat)) := stepJ_img yv xv (E1, F1) HIE.out hxr HYV.out hrm
              have hEN : E1.length = N := by rw [HIE.out.nat, ← HN.out, HI0.out.nat]
              have hcv : E1.length ≤ cv := by rw [hEN]; exact (Kd.R_reads' HO.out).2.1
              have HAT := Aside0.mk (fun (W : World) => at_slice a0 a1 a2 xv yv g1 cv E1 W HIE.out hxr HYV.out hcv)
              rw [hEN] at HAT
              have hix := HIE.out.idx hxr HYV.out
              have HM := Aside0.mk (show 0 < a2.toNat ∧ a2.toNat ≤ F1.length ∧ (yv.toNat * a0.toNat + xv.toNat) * a2.toNat + a2.toNat ≤ E1.length from by
                obtain ⟨_, _, _, x4, x5, _, x7⟩ := hix
                have := HS.out.2.2
                refine ⟨by omega, hrm, ?_⟩
                rw [← x7]
                omega)
              generalize B.setPix E1 a0.toNat a2.toNat xv.toNat yv.toNat (F1.take a2.toNat) = E2 at hst hsp hI2
              generalize (yv.toNat * a0.toNat + xv.toNat) * a2.toNat = off at HAT HM hsp
              have HSP := Aside0.mk hsp
              have HIE2 := Aside0.mk hI2
              obtain ⟨i0, hi0, _, hsz, _⟩ := info_parts info3
              obtain ⟨A2, hcut, hA2, hC2⟩ := print_drop_of (P := Try.prog) (Value.int .i64) 0 32 3 .i64 Try.underlying32 hi0 hsz Af cf F1 a2 (by have := HS.out.2.2; omega) (by have := HM.out.2.1; have := HS.out.2.2; omega) HLF.out
              have HCF2 := Aside0.mk (Kd.C_of_reads (h1 := fun _ => rfl) (hA2 _ (Kd.reads_of_C HCF.out)))
              have HLF2 := Aside0.mk hC2
              generalize F1.drop a2.toNat = F2 at hst hcut HCF2 HLF2
              have HST := Aside0.mk hst
              clear hst hrm hsp hI2 hEN hcv hix hxr hz hi0 hsz hA2 hC2 HR
              have hm0 : wr.cell? ⟨go, 0, none⟩ = some (.int .i64 a0) := B.bc BO 0
              have hm1 : wr.cell? ⟨go, 1, none⟩ = some (.int .i64 a1) := B.bc BO 1
              have hm2 : wr.cell? ⟨go, 2, none⟩ = some (.int .i64 a2) := B.bc BO 2
              have hm3 : wr.cell? ⟨go, 3, none⟩ = some ((.slice (some ⟨g1, 0, none⟩) N cv)) := B.bc BO 3
              go_wp2_with fail
              refine (HAT.out _).mono ?_
              rintro e w10 ⟨c1, rfl, hb⟩
              clear hm0 hm1 hm2 hm3 hx0 hf0 HAT
              have n0_ := Aside0.mk (Kd.R_below (B.kr HO) hb)
              have n1_ := Aside0.mk (Kd.R_below (B.kr HCS) hb)
              have n2_ := Aside0.mk (Kd.R_below (B.kr HRS) hb)
              have n3_ := Aside0.mk (blk_below (B.kb BZ) hb)
              have n4_ := Aside0.mk (blk_below (B.kb BO) hb)
              have n5_ := Aside0.mk (below_step (B.bl HB) hb)
              clear HO HCS HRS BZ BO HB hb
              have HO := n0_
              have HCS := n1_
              have HRS := n2_
              have BZ := n3_
              have BO := n4_
              have HB := n5_
              clear n0_ n1_ n2_ n3_ n4_ n5_
              have HC3 := Aside0.mk (Kd.C_below HCF.out HB.out)
              go_wp2_with ((with_reducible refine gate_builtin (b := .copy) (xs := #[.tmp 87, .tmp 88]) rfl ?_); refine B.R_copy_at (0 : Int) (enc := Value.int .i64) (h1 := fun _ => rfl) (w0 := w) w.heap.size rfl (.tmp 87) (.tmp 88) 32 32 3 rfl Try.underlying32 (by kernel_rfl) g1 N cv off a2.toNat c1 E1 F1 Af F1.length cf (fun _ => True) rfl rfl HM.out.1 HM.out.2.1 HM.out.2.2 ?aO ?aC ?aB ?aS ?_; (case aO => exact HO.out); (case aC => exact HC3.out); (case aB => exact HB.out); (case aS => exact HB.out.size); intro w11 ho hb hg; rw [HSP.out] at ho; have n0_ := Aside0.mk ho; have n1_ := Aside0.mk (Kd.R_grown HCS.out hg HNC.out); have n2_ := Aside0.mk (Kd.R_grown HRS.out hg HNR.out); have n3_ := Aside0.mk (blk_grown BZ.out hg (Kd.R_ne HO.out BZ.out (by decide))); have n4_ := Aside0.mk (blk_grown BO.out hg (Kd.R_ne HO.out BO.out (by decide))); have n5_ := Aside0.mk hb; clear HO HCS HRS BZ BO HB ho hb hg HC3; have HO := n0_; have HCS := n1_; have HRS := n2_; have BZ := n3_; have BO := n4_; have HB := n5_; clear n0_ n1_ n2_ n3_ n4_ n5_)
              go_roundg (cs.length - (x + 1).toNat)
              case measure => have := HX.out; have := HCX.out; omega
              case rel =>
                refine ⟨wrap64 (x + 1), E2, F2, A2, cf - a2.toNat, rfl, rfl, ⟨?_⟩, ⟨?_⟩, HIE2, HLF2, HCF2, BZ, BO, HCS, HRS, HO, HB⟩
                · rw [HW.out]; have := HX.out; have := HCX.out; omega
                · rw [HW.out]; exact HST.out
            · have cxb : decide (x < (cs.length : Int)) = false := decide_eq_false cx
              have ex : x.toNat = cs.length := by have := HX.out; omega
              have HP := Aside0.mk (join_row HE.out HR.out ex ⟨HY.out.1, HCY.out⟩ HZ.out)
              have HW : Aside0 (wrap64 (y + 1) = y + 1) := ⟨B.w64 (by have := HY.out; omega) (by have := HK.out.2.2.1; have := HCY.out; omega)⟩
              clear ex cx
              go_wp2
              go_roundg (rs.length - (y + 1).toNat)
              case measure => have := HY.out; have := HCY.out; omega
              case rel =>
                refine ⟨wrap64 (y + 1), E1, F1, Af, cf, rfl, rfl, ⟨?_⟩, ⟨?_⟩, HIE, HLF, HCF, BZ, BO, HCS, HRS, HO, HB⟩
                · rw [HW.out]; have := HY.out; have := HCY.out; omega
                · rw [HW.out]; exact HP.out
        · have cyb : decide (y < (rs.length : Int)) = false := decide_eq_false cy
          have ey : y.toNat = rs.length := by have := HY.out; omega
          have hp := HE.out
          rw [ey, List.take_length] at hp
          have hj := HJ.out
          rw [hp] at hj
          have HJ2 := Aside0.mk hj
          clear ey cy hp hj
          go_wp2
          go_roundg (7 - (i + 1).toNat)
          case measure => have := HI.out; have := HCI.out; omega
          case rel =>
            refine ⟨wrap64 (i + 1), E, rfl, ⟨?_⟩, ⟨?_⟩, HIE, BZ, BO, HO, HB⟩
            · rw [HW43.out]; have := HI.out; have := HCI.out; omega
            · rw [HW43.out]; exact HJ2.out
    · have q0' : ¬ i < (l3.length : Int) := by rw [HT.out]; exact ci
      have cib : decide (i < (l3.length : Int)) = false := decide_eq_false q0'
      have e7 : i.toNat = 7 := by have := HI.out; omega
      have hj := HJ.out
      rw [e7] at hj
      replace hj : some (a0, a1, a2, D, true) = some (r1, r2, r3, r4, r5) := hj
      simp only [Option.some.injEq, Prod.mk.injEq] at hj
      obtain ⟨e1, e2, e3, e4, e5⟩ := hj
      subst e1
      subst e2
      subst e3
      subst e4
      subst e5
      clear HJ e7 q0' ci
      have hm0 : wr.cell? ⟨go, 0, none⟩ = some (.int .i64 a0) := B.bc BO 0
      have hm1 : wr.cell? ⟨go, 1, none⟩ = some (.int .i64 a1) := B.bc BO 1
      have hm2 : wr.cell? ⟨go, 2, none⟩ = some (.int .i64 a2) := B.bc BO 2
      have hm3 : wr.cell? ⟨go, 3, none⟩ = some ((.slice (some ⟨g1, 0, none⟩) N cv)) := B.bc BO 3
      have hcz0 : wr.cell? ⟨w.heap.size, 0, none⟩ = some (.int .i64 0) := B.bc BZ 0
      have hcz1 : wr.cell? ⟨w.heap.size, 1, none⟩ = some (.int .i64 0) := B.bc BZ 1
      have hcz2 : wr.cell? ⟨w.heap.size, 2, none⟩ = some (.int .i64 0) := B.bc BZ 2
      have hcz3 : wr.cell? ⟨w.heap.size, 3, none⟩ = some (.slice none 0 0) := B.bc BZ 3
      have hfz0 := blk_frozen BZ.out 0
      have hfz1 := blk_frozen BZ.out 1
      have hfz2 := blk_frozen BZ.out 2
      have hfz3 := blk_frozen BZ.out 3
      go_wp2
      refine bodyPost_ret (results_ct rfl _ _ (w.heap.size) 34 #[.int .i64 a0, .int .i64 a1, .int .i64 a2, (.slice (some ⟨g1, 0, none⟩) N cv)] (0, 0) _ rfl (by first | exact BZ.out | (refine blk_put (cs := #[.int .i64 a0, .int .i64 a1, .int .i64 a2, .slice none 0 0]) ?_ 3 _ rfl; refine blk_put (cs := #[.int .i64 a0, .int .i64 a1, .int .i64 0, .slice none 0 0]) ?_ 2 _ rfl; refine blk_put (cs := #[.int .i64 a0, .int .i64 0, .int .i64 0, .slice none 0 0]) ?_ 1 _ rfl; refine blk_put (cs := #[.int .i64 0, .int .i64 0, .int .i64 0, .slice none 0 0]) ?_ 0 _ rfl; exact BZ.out)) Try.underlying34 rfl (by kernel_rfl)) rfl ?_
      exact ⟨_, by first | rfl | (simp; done), Kd.R_mono (Kd.R_far (p := ⟨w.heap.size, 3, none⟩) (Kd.R_far (p := ⟨w.heap.size, 2, none⟩) (Kd.R_far (p := ⟨w.heap.size, 1, none⟩) (Kd.R_far (p := ⟨w.heap.size, 0, none⟩) (Kd.R_types HO.out BZ.out (by decide)) (fun _ hk => hk.2) (.int .i64 a0)) (fun _ hk => hk.2) (.int .i64 a1)) (fun _ hk => hk.2) (.int .i64 a2)) (fun _ hk => hk.2) ((.slice (some ⟨g1, 0, none⟩) N cv))) (fun _ _ => trivial), by first | exact HB.out | exact (below_set (below_set (below_set (below_set HB.out (Nat.le_refl _)) (Nat.le_refl _)) (Nat.le_refl _)) (Nat.le_refl _))⟩
theorem impl_JoinPasses.calls (k : Nat) (a0 : Int) (a1 : Int) (a2 : Int) (A3 : Option Addr) (c3 : Nat) (l3 : List (List Int)) (r1 : Int) (r2 : Int) (r3 : Int) (r4 : List Int) (r5 : Bool) (w : World) (hr3 : Kd.C (Kd.slice 3 (Kd.int .i64)) w A3 l3.length l3) (hc3 : l3.length ≤ c3) (h : impl_JoinPasses.f k a0 a1 a2 l3 = some (r1, r2, r3, r4, r5)) :
    Calls Try.prog 14 #[.int .i64 a0, .int .i64 a1, .int .i64 a2, .slice A3 l3.length c3] w fun e w' => ∃ v3_ : Value, e = .returned (.tuple #[.agg #[.int .i64 r1, .int .i64 r2, .int .i64 r3, v3_], .bool r5]) ∧ Kd.R (Kd.int .i64) 3 w' w.heap.size (fun _ => True) v3_ r4 ∧ Below w.heap.size w w' := by
  unfold impl_JoinPasses.f at h
  by_cases hs : (1 ≤ a0 ∧ a0 ≤ 16) ∧ (1 ≤ a1 ∧ a1 ≤ 16) ∧ (1 ≤ a2 ∧ a2 ≤ 4)
  · have hv : impl_isShape.f a0 a1 a2 = some true := by
      rw [joinShape_ok]
      simp only [Option.some.injEq, Bool.and_eq_true, decide_eq_true_eq]
      exact hs
    by_cases t1 : l3.length = 7
    · rw [if_pos ⟨hs.1, hs.2.1, hs.2.2, t1⟩] at h
      exact join_yes k a0 a1 a2 A3 c3 l3 r1 r2 r3 r4 r5 w hr3 hc3 hv t1 hs.1 hs.2.1 hs.2.2 h
    · rw [if_neg (fun g => t1 g.2.2.2)] at h
      simp only [Option.some.injEq, Prod.mk.injEq] at h
      obtain ⟨rfl, rfl, rfl, rfl, rfl⟩ := h
      exact join_ln a0 a1 a2 A3 c3 l3 w hr3 hc3 hv t1
  · have hv : impl_isShape.f a0 a1 a2 = some false := by
      rw [joinShape_ok]
      refine congrArg some (Bool.eq_false_iff.2 fun g => hs ?_)
      simp only [Bool.and_eq_true, decide_eq_true_eq] at g
      exact g
    rw [if_neg (fun g => hs ⟨g.1, g.2.1, g.2.2.1⟩)] at h
    simp only [Option.some.injEq, Prod.mk.injEq] at h
    obtain ⟨rfl, rfl, rfl, rfl, rfl⟩ := h
    exact join_no a0 a1 a2 A3 c3 l3 w hr3 hc3 hv

/-! ### spec_passSize: function 37 -/
def spec_passSize.f (a0 : Int) (a1 : Int) (a2 : Int) : Option (Int × Int) := (spec_passStart.f a2).bind fun bt294 => (if bt294.2.2.1 = 0 then (none) else (if bt294.2.2.2 = 0 then (none) else (some (mx 0 (wrap64 (Int.tdiv (wrap64 ((wrap64 ((wrap64 (a0 - bt294.1)) + bt294.2.2.1)) - 1)) bt294.2.2.1)), mx 0 (wrap64 (Int.tdiv (wrap64 ((wrap64 ((wrap64 (a1 - bt294.2.1)) + bt294.2.2.2)) - 1)) bt294.2.2.2))))))
set_option maxHeartbeats 8000000 in
set_option maxRecDepth 100000 in
theorem spec_passSize.calls (a0 : Int) (a1 : Int) (a2 : Int) (r1 : Int) (r2 : Int) (w : World) (h : spec_passSize.f a0 a1 a2 = some (r1, r2)) :
    Calls Try.prog 37 #[.int .i64 a0, .int .i64 a1, .int .i64 a2] w fun e w' => e = .returned (.tuple #[.int .i64 r1, .int .i64 r2]) ∧ Below w.heap.size w w' := by
  have HB := Aside0.mk (Below.refl w.heap.size w)
  have H : ((spec_passStart.f a2).bind fun bt294 => (if bt294.2.2.1 = 0 then (none) else (if bt294.2.2.2 = 0 then (none) else (some (mx 0 (wrap64 (Int.tdiv (wrap64 ((wrap64 ((wrap64 (a0 - bt294.1)) + bt294.2.2.1)) - 1)) bt294.2.2.1)), mx 0 (wrap64 (Int.tdiv (wrap64 ((wrap64 ((wrap64 (a1 - bt294.2.1)) + bt294.2.2.2)) - 1)) bt294.2.2.2))))))) = some (r1, r2) := h
  clear h
  replace H := Option.bind_eq_some_iff.mp H
  obtain ⟨⟨t294, t295, t296, t297⟩, A40, H⟩ := H
  replace H : (if t296 = 0 then (none) else (if t297 = 0 then (none) else (some (mx 0 (wrap64 (Int.tdiv (wrap64 ((wrap64 ((wrap64 (a0 - t294)) + t296)) - 1)) t296)), mx 0 (wrap64 (Int.tdiv (wrap64 ((wrap64 ((wrap64 (a1 - t295)) + t297)) - 1)) t297)))))) = some (r1, r2) := H
  have A4 := Aside0.mk A40
  clear A40
  by_cases c5 : t296 = 0
  · rw [if_pos c5] at H
    exact absurd H (by simp)
  rw [if_neg c5] at H
  have c5b0 : (t296 == 0) = false := beq_eq_false_iff_ne.mpr c5
  have c5b1 : (t296 != 0) = true := bne_iff_ne.mpr c5
  obtain ⟨ji6, hji6⟩ : ∃ j_ : Int, (mx 0 (wrap64 (Int.tdiv (wrap64 ((wrap64 ((wrap64 (a0 - t294)) + t296)) - 1)) t296))) = j_ := ⟨_, rfl⟩
  replace H : (if t297 = 0 then (none) else (some (ji6, mx 0 (wrap64 (Int.tdiv (wrap64 ((wrap64 ((wrap64 (a1 - t295)) + t297)) - 1)) t297))))) = some (r1, r2) := by first | (rw [hji6] at H; exact H) | (simp only [hji6] at H ⊢; exact H)
  (try rw [hji6] at A4)
  (try (have hji6l : 0 ≤ ji6 := by (rw [← hji6]; unfold mx; (repeat' split) <;> omega)))
  (try (have hji6m : 0 ≤ ji6 := by omega))
  have hji6_ : (if 0 < (wrap64 (Int.tdiv (wrap64 ((wrap64 ((wrap64 (a0 - t294)) + t296)) - 1)) t296)) then (wrap64 (Int.tdiv (wrap64 ((wrap64 ((wrap64 (a0 - t294)) + t296)) - 1)) t296)) else 0) = ji6 := hji6
  by_cases c7 : t297 = 0
  · rw [if_pos c7] at H
    exact absurd H (by simp)
  rw [if_neg c7] at H
  have c7b0 : (t297 == 0) = false := beq_eq_false_iff_ne.mpr c7
  have c7b1 : (t297 != 0) = true := bne_iff_ne.mpr c7
  obtain ⟨ji8, hji8⟩ : ∃ j_ : Int, (mx 0 (wrap64 (Int.tdiv (wrap64 ((wrap64 ((wrap64 (a1 - t295)) + t297)) - 1)) t297))) = j_ := ⟨_, rfl⟩
  replace H : (some (ji6, ji8)) = some (r1, r2) := by first | (rw [hji8] at H; exact H) | (simp only [hji8] at H ⊢; exact H)
  (try rw [hji8] at A4)
  (try (have hji8l : 0 ≤ ji8 := by (rw [← hji8]; unfold mx; (repeat' split) <;> omega)))
  (try (have hji8m : 0 ≤ ji8 := by omega))
  have hji8_ : (if 0 < (wrap64 (Int.tdiv (wrap64 ((wrap64 ((wrap64 (a1 - t295)) + t297)) - 1)) t297)) then (wrap64 (Int.tdiv (wrap64 ((wrap64 ((wrap64 (a1 - t295)) + t297)) - 1)) t297)) else 0) = ji8 := hji8
  simp only [Option.some.injEq, Prod.mk.injEq] at H
  obtain ⟨rfl, rfl⟩ := H
  go_enter Try.func37, Try.ntmps37
  go_wp2_with (first | (go_at_call 56; (with_reducible refine (spec_passStart.calls a2 t294 t295 t296 t297 _ A4.out).mono ?_); rintro e w9 ⟨rfl, hb⟩; have n0_ := Aside0.mk (below_step (B.bl HB) hb); clear HB; have HB := n0_; clear n0_; (try clear hb); (try clear hb2); (try clear hk); (try clear hi)))
  repeat (go_quiet (first | (go_at_call 56; (with_reducible refine (spec_passStart.calls a2 t294 t295 t296 t297 _ A4.out).mono ?_); rintro e w9 ⟨rfl, hb⟩; have n0_ := Aside0.mk (below_step (B.bl HB) hb); clear HB; have HB := n0_; clear n0_; (try clear hb); (try clear hb2); (try clear hk); (try clear hi))); try go_wp2_with (first | (go_at_call 56; (with_reducible refine (spec_passStart.calls a2 t294 t295 t296 t297 _ A4.out).mono ?_); rintro e w9 ⟨rfl, hb⟩; have n0_ := Aside0.mk (below_step (B.bl HB) hb); clear HB; have HB := n0_; clear n0_; (try clear hb); (try clear hb2); (try clear hk); (try clear hi))))
  go_ret2
  exact ⟨by first | rfl | (simp [errW_none, errW_some] <;> rfl) | (simp only [← hji6, ← hji8]; first | rfl | (simp [errW_none, errW_some] <;> rfl)) | (simp [*, errW_none, errW_some] <;> rfl), B.bl HB⟩

/-! ### spec_setPixel: function 66 -/
def spec_setPixel.l0 : Nat → Int → Int → List Int → Int → Int → Int → Int → List Int → Option (List Int)
  | 0, _, _, _, _, _, _, _, _ => none
  | k + 1, x1, x2, x3, x8, x299000, x299001, x299002, x299003 => if x8 < x299002 then (if 0 ≤ x8 then (if x8 < (x3.length : Int) then (if 0 ≤ (wrap64 ((wrap64 ((wrap64 ((wrap64 (x2 * x299000)) + x1)) * x299002)) + x8)) then (if (wrap64 ((wrap64 ((wrap64 ((wrap64 (x2 * x299000)) + x1)) * x299002)) + x8)) < (x299003.length : Int) then (spec_setPixel.l0 k x1 x2 x3 (wrap64 (x8 + 1)) x299000 x299001 x299002 (x299003.set ((wrap64 ((wrap64 ((wrap64 ((wrap64 (x2 * x299000)) + x1)) * x299002)) + x8)) : Int).toNat (rd x3 x8))) else (none)) else (none)) else (none)) else (none)) else (some x299003)
def spec_setPixel.f (k : Nat) (a0_0 : Int) (a0_1 : Int) (a0_2 : Int) (l0_3 : List Int) (a1 : Int) (a2 : Int) (l3 : List Int) : Option (List Int) := spec_setPixel.l0 k a1 a2 l3 0 a0_0 a0_1 a0_2 l0_3
theorem spec_setPixel.mono_l : ∀ k, (∀ y0 y1 y2 y3 y4 y5 y6 y7, LeO (spec_setPixel.l0 k y0 y1 y2 y3 y4 y5 y6 y7) (spec_setPixel.l0 (k + 1) y0 y1 y2 y3 y4 y5 y6 y7))
  | 0 => fun _ _ _ _ _ _ _ _ r h => by simp [spec_setPixel.l0] at h
  | k + 1 => by
    have ih0 := spec_setPixel.mono_l k
    · intro y0 y1 y2 y3 y4 y5 y6 y7
      unfold spec_setPixel.l0
      repeat' first
      | (with_reducible exact ih0 _ _ _ _ _ _ _ _)
      | (with_reducible exact LeO.refl _)
      | (with_reducible exact LeO.none _)
      | (with_reducible refine LeO.ite ?_ ?_)
      | (with_reducible refine LeO.bind ?_ (fun _ => ?_))
      | exact ih0 _ _ _ _ _ _ _ _
      | exact LeO.none _
      | refine LeO.ite ?_ ?_
      | refine LeO.bind ?_ (fun _ => ?_)
theorem spec_setPixel.mono : ∀ a0 a1 a2 a3 a4 a5 a6 k, LeO (spec_setPixel.f k a0 a1 a2 a3 a4 a5 a6) (spec_setPixel.f (k + 1) a0 a1 a2 a3 a4 a5 a6) := by
  intro a0 a1 a2 a3 a4 a5 a6 k
  have ih0 := spec_setPixel.mono_l k
  unfold spec_setPixel.f
  repeat' first
      | (with_reducible exact ih0 _ _ _ _ _ _ _ _)
      | (with_reducible exact LeO.refl _)
      | (with_reducible exact LeO.none _)
      | (with_reducible refine LeO.ite ?_ ?_)
      | (with_reducible refine LeO.bind ?_ (fun _ => ?_))
      | exact ih0 _ _ _ _ _ _ _ _
      | exact LeO.none _
      | refine LeO.ite ?_ ?_
      | refine LeO.bind ?_ (fun _ => ?_)
def spec_setPixel.T4 : Bool × List (List Nat × List Nat) := (true, [([], []), ([0], [0]), ([], []), ([], []), ([3], [3]), ([2, 4], [2, 4]), ([], []), ([5, 6], [5, 6]), ([], []), ([8], [8]), ([7, 9], [7, 9]), ([], []), ([10, 11], [10, 11]), ([], []), ([], []), ([13, 14], [13, 14]), ([15], [15]), ([1, 12, 0, 1, 2, 3, 4, 5, 6, 7, 8, 9, 10, 11, 12, 13, 14, 15, 16], [1, 12]), ([17, 16, 0, 1, 2, 3, 4, 5, 6, 7, 8, 9, 10, 11, 12, 13, 14, 15, 16], [16, 17])])
def spec_setPixel.B4 : List Nat := [0, 1, 0, 0, 8, 28, 0, 124, 0, 256, 1020, 0, 4092, 0, 0, 24576, 57344, 131071, 262143]
theorem spec_setPixel.tab4 : rtab .any (opsOf Try.f66 4) = spec_setPixel.T4 := by kernel_rfl
theorem spec_setPixel.bits4 : waitsOk spec_setPixel.T4.2 spec_setPixel.B4 = true := by kernel_rfl
set_option maxHeartbeats 8000000 in
set_option maxRecDepth 100000 in
theorem spec_setPixel.calls (k : Nat) (a0_0 : Int) (a0_1 : Int) (a0_2 : Int) (P0_3_ : Nat → Prop) (u9000_ : Value) (l0_3 : List Int) (a1 : Int) (a2 : Int) (A3 : Option Addr) (c3 : Nat) (l3 : List Int) (r : List Int) (w0 w : World) (hB : Below w0.heap.size w0 w) (ho0_3 : Kd.R (Kd.int .i64) 3 w w0.heap.size P0_3_ u9000_ l0_3) (hr3 : ∀ W_, Kept w W_ (fun k_ => P0_3_ k_) → Kd.C (Kd.int .i64) W_ A3 l3.length l3) (hc3 : l3.length ≤ c3) (h : spec_setPixel.f k a0_0 a0_1 a0_2 l0_3 a1 a2 l3 = some r) :
    Calls Try.prog 66 #[.agg #[.int .i64 a0_0, .int .i64 a0_1, .int .i64 a0_2, u9000_], .int .i64 a1, .int .i64 a2, .slice A3 l3.length c3] w fun e w' => e = .returned (.tuple #[]) ∧ Kd.R (Kd.int .i64) 3 w' w0.heap.size (fun k_ => (P0_3_ k_ ∨ w.heap.size ≤ k_)) u9000_ r ∧ Below w0.heap.size w0 w' ∧ Kept w w' (fun k_ => P0_3_ k_) := by
  have hu34 := Try.underlying34
  have HO0_3 := Aside0.mk (show Kd.R (Kd.int .i64) 3 w w0.heap.size (fun k_ => (P0_3_ k_ ∨ w.heap.size ≤ k_)) u9000_ l0_3 from Kd.R_mono ho0_3 (fun k_ hk => (.inl hk)))
  have HR3 := Aside0.mk hr3
  have HC3 := Aside0.mk hc3
  clear hr3 hc3
  have HK := Aside0.mk (Kept.refl w (fun k_ => P0_3_ k_))
  have HW0 := Aside0.mk hB.size
  have HB := Aside0.mk hB
  clear hB
  have H : (spec_setPixel.l0 k a1 a2 l3 0 a0_0 a0_1 a0_2 l0_3) = some r := h
  clear h
  have H' := Aside0.mk H
  clear H
  obtain ⟨Ao5, co5, eo5⟩ := Kd.R_slice HO0_3.out
  subst eo5
  go_enter Try.func66, Try.ntmps66
  go_wp2_with (first | ((with_reducible refine gate_dst (N := 4) rfl ?_); refine box_event ?hg (N := 4) ?hd (cs := #[.int .i64 a0_0, .int .i64 a0_1, .int .i64 a0_2, .slice Ao5 l0_3.length co5]) (t := 34) ?hr ?_; (case hd => rfl); (case hg => rfl); (case hr => first | (go_simp; done) | (go_simp; rfl)); intro gb298 hg w6 hbox hb; have n0_ := Aside0.mk (Kd.R_below (B.kr HO0_3) hb); have n1_ := Aside0.mk (Kept.below (S := (fun k_ => P0_3_ k_)) (by repeat (first | (with_reducible first | exact HK.out | apply Kept.alloc | apply Kept.drewN | apply Kept.drew) | exact HK.out)) hb); have n2_ := Aside0.mk (below_step (B.bl HB) hb); have n3_ := Aside0.mk (hbox); have n4_ := Aside0.mk ((by rw [hg]; exact (by first | exact HK.out.1 | exact (show Kept w _ (fun k_ => P0_3_ k_) from by repeat (first | (with_reducible first | exact HK.out | apply Kept.alloc | apply Kept.drewN | apply Kept.drew) | exact HK.out)).1) : w.heap.size ≤ gb298)); have n5_ := Aside0.mk ((by rw [hg]; exact (below_size (B.bl HB)) : w0.heap.size ≤ gb298)); clear HO0_3 HK HB; have HO0_3 := n0_; have HK := n1_; have HB := n2_; have BK298 := n3_; have GW298 := n4_; have GE298 := n5_; clear n0_ n1_ n2_ n3_ n4_ n5_; clear hb hbox hg))
  go_loopg [8] k (fun kq v8 w' => ∃ (x8_1 : Int) (x299003_1 : List Int), v8 = .int .i64 x8_1 ∧ Aside0 (spec_setPixel.l0 kq a1 a2 l3 x8_1 a0_0 a0_1 a0_2 x299003_1 = some r) ∧ Aside0 (kq ≤ k) ∧ Aside0 (Kd.R (Kd.int .i64) 3 w' w0.heap.size (fun k_ => (P0_3_ k_ ∨ w.heap.size ≤ k_)) (.slice Ao5 l0_3.length co5) x299003_1) ∧ Aside0 (w'.heap[gb298]? = some (.cells #[.int .i64 a0_0, .int .i64 a0_1, .int .i64 a0_2, (.slice Ao5 l0_3.length co5)] 34 (0, 0))) ∧ Aside0 (Kept w w' (fun k_ => P0_3_ k_)) ∧ Aside0 (Below w0.heap.size w0 w'))
  case atStart => exact ⟨(0), (l0_3), (by first | rfl | (simp; done) | (simp [*]; done)), H', ⟨Nat.le_refl _⟩, ⟨B.kr HO0_3⟩, ⟨B.kb BK298⟩, ⟨by repeat (first | (with_reducible first | exact HK.out | apply Kept.alloc | apply Kept.drewN | apply Kept.drew | refine Kept.setCell ?_ (.inr GW298.out) _) | exact HK.out)⟩, ⟨B.bl HB⟩⟩
  case round =>
    clear H'
    try clear p2
    try clear c3
    try clear c6
    obtain ⟨x8_1, x299003_1, rfl, HA, HK1, HO_299003, BK298, HK, HB⟩ := hrel
    have hl299003_1 := (Kd.R_reads' HO_299003.out).1
    rw [hl299003_1] at HO_299003
    (try simp only [hl299003_1])
    (try simp only [hl299003_1] at BK298)
    cases gk with
    | zero => exact absurd HA.out (by simp [spec_setPixel.l0])
    | succ k1 =>
      have H := HA.out
      clear HA
      simp only [spec_setPixel.l0] at H
      by_cases c7 : x8_1 < a0_2
      · rw [if_pos c7] at H
        have c7b0 : decide (x8_1 < a0_2) = true := decide_eq_true c7
        clear c7
        by_cases c8 : 0 ≤ x8_1
        · rw [if_pos c8] at H
          have c8b0 : decide (0 ≤ x8_1) = true := decide_eq_true c8
          clear c8
          by_cases c9 : x8_1 < (l3.length : Int)
          · rw [if_pos c9] at H
            have c9b0 : decide (x8_1 < (l3.length : Int)) = true := decide_eq_true c9
            clear c9
            obtain ⟨ji10, hji10⟩ : ∃ j_ : Int, (wrap64 ((wrap64 ((wrap64 ((wrap64 (a2 * a0_0)) + a1)) * a0_2)) + x8_1)) = j_ := ⟨_, rfl⟩
            replace H : (if 0 ≤ (ji10) then (if (ji10) < (x299003_1.length : Int) then (spec_setPixel.l0 k1 a1 a2 l3 (wrap64 (x8_1 + 1)) a0_0 a0_1 a0_2 (x299003_1.set ((ji10) : Int).toNat (rd l3 x8_1))) else (none)) else (none)) = some r := by first | (rw [hji10] at H; exact H) | (simp only [hji10] at H ⊢; exact H)
            have hji10w : (IntKind.i64.wrap ((wrap64 ((wrap64 ((wrap64 (a2 * a0_0)) + a1)) * a0_2)) + x8_1)) = ji10 := (i64_w _).trans hji10
            by_cases c11 : 0 ≤ (ji10)
            · rw [if_pos c11] at H
              have c11b0 : decide (0 ≤ (ji10)) = true := decide_eq_true c11
              clear c11
              by_cases c12 : (ji10) < (x299003_1.length : Int)
              · rw [if_pos c12] at H
                have c12b0 : decide ((ji10) < (x299003_1.length : Int)) = true := decide_eq_true c12
                clear c12
                obtain ⟨y300, hy300⟩ : ∃ y_ : List Int, y_ = (x299003_1.set ((ji10) : Int).toNat (rd l3 x8_1)) := ⟨_, rfl⟩
                replace H : (spec_setPixel.l0 k1 a1 a2 l3 (wrap64 (x8_1 + 1)) a0_0 a0_1 a0_2 y300) = some r := by first | (rw [hy300]; with_reducible exact H) | (have H2_ := (Option.bind_some _ _).symm.trans H; rw [hy300]; with_reducible exact H2_) | (have H2_ := (Option.bind_some _ _).symm.trans H; with_reducible exact H2_) | with_reducible exact H | (rw [hy300]; exact H) | exact H
                have Ny300 := Aside0.mk hy300
                clear hy300
                have H' := Aside0.mk H
                clear H
                have hcz14_0 : wr.cell? ⟨gb298, 0, none⟩ = some (.int .i64 a0_0) := B.bc BK298 0
                have hcz14_1 : wr.cell? ⟨gb298, 1, none⟩ = some (.int .i64 a0_1) := B.bc BK298 1
                have hcz14_2 : wr.cell? ⟨gb298, 2, none⟩ = some (.int .i64 a0_2) := B.bc BK298 2
                have hcz14_3 : wr.cell? ⟨gb298, 3, none⟩ = some (.slice Ao5 x299003_1.length co5) := B.bc BK298 3
                have hfz14_0 := blk_frozen BK298.out 0
                have hfz14_1 := blk_frozen BK298.out 1
                have hfz14_2 := blk_frozen BK298.out 2
                have hfz14_3 := blk_frozen BK298.out 3
                try go_wp2
                have n0_ := Aside0.mk (Kd.R_drew HO_299003.out)
                have n1_ := Aside0.mk (blk_drew BK298.out)
                have n2_ := Aside0.mk (Kept.drew HK.out)
                have n3_ := Aside0.mk (below_drew1 HB.out)
                clear HO_299003 BK298 HK HB
                have HO_299003 := n0_
                have BK298 := n1_
                have HK := n2_
                have HB := n3_
                clear n0_ n1_ n2_ n3_
                have p299 : 0 ≤ (x8_1 : Int) := of_decide_eq_true (by first | (with_reducible assumption) | assumption)
                have q299 : x8_1 < (l3.length : Int) := of_decide_eq_true (by first | (with_reducible assumption) | assumption)
                obtain ⟨ad299, e299, hx299_0⟩ := Kd.at_int (Kd.C_kept_now HR3.out HK.out) x8_1 p299 q299
                have hw299_0 := hx299_0
                cases e299
                replace p299 := eq_true p299
                replace q299 := eq_true q299
                have p13 : 0 ≤ ((ji10) : Int) := of_decide_eq_true (by first | (with_reducible assumption) | assumption)
                have q13 : ((ji10) : Int) < ((x299003_1.length : Int) : Int) := of_decide_eq_true (by first | (with_reducible assumption) | assumption)
                obtain ⟨go13, co13, eo13, gb13, gl13, cl13, HG13⟩ := Kd.R_form HO_299003.out (by omega)
                (first | cases eo13 | (injection eo13 with ea_ en_ ec_; (first | subst ea_ | (injection ea_ with ea_; subst ea_)); subst ec_; clear en_))
                have GB13 := Aside0.mk gb13
                have GG13 := Aside0.mk HG13
                clear gb13 gl13 HG13
                have HMgo13 := Aside0.mk (show (P0_3_ go13 ∨ w.heap.size ≤ go13) from (HO_299003.out.1 _ rfl))
                obtain ⟨hx13_0, hf13_0⟩ := Kd.R_celln 0 HO_299003.out ((ji10) : Int) p13 q13
                replace p13 := eq_true p13
                replace q13 := eq_true q13
                have HP16 := Kd.R_putn HO_299003.out ((ji10) : Int) (rd l3 x8_1)
                rw [← Ny300.out] at HP16
                have HQ16 := Aside0.mk HP16
                clear HP16
                refine start_ (n := 19) (S := fun w' => w'.cell? ⟨gb298, 0, none⟩ = some (.int .i64 a0_0) ∧ w'.cell? ⟨gb298, 1, none⟩ = some (.int .i64 a0_1) ∧ w'.cell? ⟨gb298, 2, none⟩ = some (.int .i64 a0_2) ∧ w'.cell? ⟨gb298, 3, none⟩ = some (.slice (some ⟨go13, 0, none⟩) x299003_1.length co5) ∧ w'.cell? (ad299.add (x8_1).toNat) = some (.int .i64 (rd l3 x8_1))) (ds := [18]) #[false, false, false, false, false, false, false, false, false, false, false, false, false, false, false, false, false, false, false] (by kernel_rfl) rfl rfl ⟨B.bc BK298 0, B.bc BK298 1, B.bc BK298 2, B.bc BK298 3, (Kd.foot_int (HR3.out _ (by repeat (first | exact HK.out | apply Kept.alloc | apply Kept.drewN | apply Kept.drew | refine Kept.setCell ?_ HMgo13.out _))) x8_1 (of_eq_true p299) (of_eq_true q299))⟩ (fun hHeld => ?_); refine with_tabW spec_setPixel.tab4 spec_setPixel.bits4 (fun HT_ HW_ => ?_)
                generalize wr.drew = w15 at HO_299003 BK298 HK HB GG13 HQ16 hf13_0 hx13_0 hx299_0 hHeld ⊢
                refine pure_ (i := 0) (N := some 15) (v := ?_) (a' := ?_) #[true, false, false, false, false, false, false, false, false, false, false, false, false, false, false, false, false, false, false] rfl rfl (any_of HT_.out (by kernel_rfl)) (fun _ _ _ h => h) (Or.inl ⟨by rfl, ?_⟩) ?_ ?_
                rotate_left
                · intro w'
                  go_simp
                  with_reducible rfl
                rotate_left
                · simp only [Act.put, List.setIfInBounds_toArray, List.set_cons_zero, List.set_cons_succ, i64_w, i32_w]
                  rfl
                refine pure_ (i := 2) (N := some 17) (v := ?_) (a' := ?_) #[true, false, true, false, false, false, false, false, false, false, false, false, false, false, false, false, false, false, false] rfl rfl (any_of HT_.out (by kernel_rfl)) (fun _ _ _ h => h) (Or.inl ⟨by rfl, ?_⟩) ?_ ?_
                rotate_left
                · intro w'
                  go_simp
                  with_reducible rfl
                rotate_left
                · simp only [Act.put, List.setIfInBounds_toArray, List.set_cons_zero, List.set_cons_succ, i64_w, i32_w]
                  rfl
                refine pure_ (i := 3) (N := some 18) (v := ?_) (a' := ?_) #[true, false, true, true, false, false, false, false, false, false, false, false, false, false, false, false, false, false, false] rfl rfl (any_of HT_.out (by kernel_rfl)) (fun _ _ _ h => h) (Or.inl ⟨by rfl, ?_⟩) ?_ ?_
                rotate_left
                · intro w'
                  go_simp
                  with_reducible rfl
                rotate_left
                · simp only [Act.put, List.setIfInBounds_toArray, List.set_cons_zero, List.set_cons_succ, i64_w, i32_w]
                  rfl
                refine pure_ (i := 6) (N := some 21) (v := ?_) (a' := ?_) #[true, false, true, true, false, false, true, false, false, false, false, false, false, false, false, false, false, false, false] rfl rfl (any_of HT_.out (by kernel_rfl)) (fun _ _ _ h => h) (Or.inl ⟨by rfl, ?_⟩) ?_ ?_
                rotate_left
                · intro w'
                  go_simp
                  with_reducible rfl
                rotate_left
                · simp only [Act.put, List.setIfInBounds_toArray, List.set_cons_zero, List.set_cons_succ, i64_w, i32_w]
                  rfl
                refine pure_ (i := 8) (N := some 23) (v := ?_) (a' := ?_) #[true, false, true, true, false, false, true, false, true, false, false, false, false, false, false, false, false, false, false] rfl rfl (any_of HT_.out (by kernel_rfl)) (fun _ _ _ h => h) (Or.inl ⟨by rfl, ?_⟩) ?_ ?_
                rotate_left
                · intro w'
                  go_simp
                  with_reducible rfl
                rotate_left
                · simp only [Act.put, List.setIfInBounds_toArray, List.set_cons_zero, List.set_cons_succ, i64_w, i32_w]
                  rfl
                refine pure_ (i := 11) (N := some 26) (v := ?_) (a' := ?_) #[true, false, true, true, false, false, true, false, true, false, false, true, false, false, false, false, false, false, false] rfl rfl (any_of HT_.out (by kernel_rfl)) (fun _ _ _ h => h) (Or.inl ⟨by rfl, ?_⟩) ?_ ?_
                rotate_left
                · intro w'
                  go_simp
                  with_reducible rfl
                rotate_left
                · simp only [Act.put, List.setIfInBounds_toArray, List.set_cons_zero, List.set_cons_succ, i64_w, i32_w]
                  rfl
                refine pure_ (i := 13) (N := some 28) (v := ?_) (a' := ?_) #[true, false, true, true, false, false, true, false, true, false, false, true, false, true, false, false, false, false, false] rfl rfl (any_of HT_.out (by kernel_rfl)) (fun _ _ _ h => h) (Or.inl ⟨by rfl, ?_⟩) ?_ ?_
                rotate_left
                · intro w'
                  go_simp
                  with_reducible rfl
                rotate_left
                · simp only [Act.put, List.setIfInBounds_toArray, List.set_cons_zero, List.set_cons_succ, i64_w, i32_w]
                  rfl
                refine pure_ (i := 14) (N := some 29) (v := ?_) (a' := ?_) #[true, false, true, true, false, false, true, false, true, false, false, true, false, true, true, false, false, false, false] rfl rfl (any_of HT_.out (by kernel_rfl)) (fun _ _ _ h => h) (Or.inl ⟨by rfl, ?_⟩) ?_ ?_
                rotate_left
                · intro w'
                  go_simp
                  with_reducible rfl
                rotate_left
                · simp only [Act.put, List.setIfInBounds_toArray, List.set_cons_zero, List.set_cons_succ, i64_w, i32_w]
                  rfl
                refine pure_ (i := 15) (N := some 30) (v := ?_) (a' := ?_) #[true, false, true, true, false, false, true, false, true, false, false, true, false, true, true, true, false, false, false] rfl rfl (any_of HT_.out (by kernel_rfl)) (fun _ _ _ h => h) (Or.inl ⟨by rfl, ?_⟩) ?_ ?_
                rotate_left
                · intro w'
                  go_simp
                  with_reducible rfl
                rotate_left
                · simp only [Act.put, List.setIfInBounds_toArray, List.set_cons_zero, List.set_cons_succ, i64_w, i32_w]
                  rfl
                refine take_ (i := 1) (N := some 16) (v := ?_) (a' := ?_) #[true, true, true, true, false, false, true, false, true, false, false, true, false, true, true, true, false, false, false] rfl rfl (take_ofW HT_.out HW_.out (by kernel_rfl)) (fun _ _ _ h => h) (Or.inl ⟨by rfl, ?_⟩) hHeld ?_ ?_
                rotate_left
                · rintro w' ⟨s0, s1, s2, s3, s4⟩
                  go_simp
                  with_reducible rfl
                rotate_left
                · simp only [Act.put, List.setIfInBounds_toArray, List.set_cons_zero, List.set_cons_succ, i64_w, i32_w]
                  rfl
                refine take_ (i := 4) (N := some 19) (v := ?_) (a' := ?_) #[true, true, true, true, true, false, true, false, true, false, false, true, false, true, true, true, false, false, false] rfl rfl (take_ofW HT_.out HW_.out (by kernel_rfl)) (fun _ _ _ h => h) (Or.inl ⟨by rfl, ?_⟩) hHeld ?_ ?_
                rotate_left
                · rintro w' ⟨s0, s1, s2, s3, s4⟩
                  go_simp
                  with_reducible rfl
                rotate_left
                · simp only [Act.put, List.setIfInBounds_toArray, List.set_cons_zero, List.set_cons_succ, i64_w, i32_w]
                  rfl
                refine pure_ (i := 5) (N := some 20) (v := ?_) (a' := ?_) #[true, true, true, true, true, true, true, false, true, false, false, true, false, true, true, true, false, false, false] rfl rfl (any_of HT_.out (by kernel_rfl)) (fun _ _ _ h => h) (Or.inl ⟨by rfl, ?_⟩) ?_ ?_
                rotate_left
                · intro w'
                  go_simp
                  with_reducible rfl
                rotate_left
                · simp only [Act.put, List.setIfInBounds_toArray, List.set_cons_zero, List.set_cons_succ, i64_w, i32_w]
                  rfl
                refine pure_ (i := 7) (N := some 22) (v := ?_) (a' := ?_) #[true, true, true, true, true, true, true, true, true, false, false, true, false, true, true, true, false, false, false] rfl rfl (any_of HT_.out (by kernel_rfl)) (fun _ _ _ h => h) (Or.inl ⟨by rfl, ?_⟩) ?_ ?_
                rotate_left
                · intro w'
                  go_simp
                  with_reducible rfl
                rotate_left
                · simp only [Act.put, List.setIfInBounds_toArray, List.set_cons_zero, List.set_cons_succ, i64_w, i32_w]
                  rfl
                refine take_ (i := 9) (N := some 24) (v := ?_) (a' := ?_) #[true, true, true, true, true, true, true, true, true, true, false, true, false, true, true, true, false, false, false] rfl rfl (take_ofW HT_.out HW_.out (by kernel_rfl)) (fun _ _ _ h => h) (Or.inl ⟨by rfl, ?_⟩) hHeld ?_ ?_
                rotate_left
                · rintro w' ⟨s0, s1, s2, s3, s4⟩
                  go_simp
                  with_reducible rfl
                rotate_left
                · simp only [Act.put, List.setIfInBounds_toArray, List.set_cons_zero, List.set_cons_succ, i64_w, i32_w]
                  rfl
                refine pure_ (i := 10) (N := some 25) (v := ?_) (a' := ?_) #[true, true, true, true, true, true, true, true, true, true, true, true, false, true, true, true, false, false, false] rfl rfl (any_of HT_.out (by kernel_rfl)) (fun _ _ _ h => h) (Or.inl ⟨by rfl, ?_⟩) ?_ ?_
                rotate_left
                · intro w'
                  go_simp
                  with_reducible rfl
                rotate_left
                · simp only [Act.put, List.setIfInBounds_toArray, List.set_cons_zero, List.set_cons_succ, i64_w, i32_w]
                  rfl
                refine pure_ (i := 12) (N := some 27) (v := ?_) (a' := ?_) #[true, true, true, true, true, true, true, true, true, true, true, true, true, true, true, true, false, false, false] rfl rfl (any_of HT_.out (by kernel_rfl)) (fun _ _ _ h => h) (Or.inl ⟨by rfl, ?_⟩) ?_ ?_
                rotate_left
                · intro w'
                  go_simp
                  with_reducible rfl
                rotate_left
                · simp only [Act.put, List.setIfInBounds_toArray, List.set_cons_zero, List.set_cons_succ, i64_w, i32_w]
                  rfl
                refine take_ (i := 16) (N := some 31) (v := ?_) (a' := ?_) #[true, true, true, true, true, true, true, true, true, true, true, true, true, true, true, true, true, false, false] rfl rfl (take_ofW HT_.out HW_.out (by kernel_rfl)) (fun _ _ _ h => h) (Or.inl ⟨by rfl, ?_⟩) hHeld ?_ ?_
                rotate_left
                · rintro w' ⟨s0, s1, s2, s3, s4⟩
                  go_simp
                  with_reducible rfl
                rotate_left
                · simp only [Act.put, List.setIfInBounds_toArray, List.set_cons_zero, List.set_cons_succ, i64_w, i32_w]
                  rfl
                refine pure_ (i := 17) (N := some 32) (v := ?_) (a' := ?_) #[true, true, true, true, true, true, true, true, true, true, true, true, true, true, true, true, true, true, false] rfl rfl (any_of HT_.out (by kernel_rfl)) (fun _ _ _ h => h) (Or.inl ⟨by rfl, ?_⟩) ?_ ?_
                rotate_left
                · intro w'
                  go_simp
                  with_reducible rfl
                rotate_left
                · simp only [Act.put, List.setIfInBounds_toArray, List.set_cons_zero, List.set_cons_succ, i64_w, i32_w]
                  rfl
                refine last_ (i := 18) (N := none) #[true, true, true, true, true, true, true, true, true, true, true, true, true, true, true, true, true, true, true] rfl rfl (one_of HT_.out (by kernel_rfl)) (by decide) (fun K hK => ?_)
                refine skip_ (w1 := ?_) (by rfl) rfl ?_ ?_
                rotate_left
                · go_simp
                  rfl
                refine hK.out _ _ ?_
                clear hK K
                refine done_ (done_of HT_.out (by kernel_rfl)) ?_
                try go_wp2
                (try simp only [← hl299003_1])
                go_roundg k1
                case measure => have := HK1.out; omega
                case rel => exact ⟨(wrap64 (x8_1 + 1)), (y300), (by first | rfl | (simp; done) | (simp [*]; done)), H', ⟨by have := HK1.out; omega⟩, ⟨by (try simp only [hl299003_1]); (with_reducible repeat (first | apply Kd.R_alloc | apply Kd.R_drewN | apply Kd.R_drew)); exact HQ16.out⟩, ⟨by (try simp only [hl299003_1]); (with_reducible repeat (first | refine blk_drewN ?_ _ | refine blk_drew ?_ | refine blk_alloc ?_ _)); refine blk_far ?_ (by have h_ := Kd.R_ne HO_299003.out BK298.out (by decide); intro e_; exact h_ (by rw [e_]; rfl)) _; (with_reducible repeat (first | refine blk_drewN ?_ _ | refine blk_drew ?_ | refine blk_alloc ?_ _)); exact BK298.out⟩, ⟨by repeat (first | (with_reducible first | exact HK.out | apply Kept.alloc | apply Kept.drewN | apply Kept.drew | refine Kept.setCell ?_ HMgo13.out _ | refine Kept.setCell ?_ (.inr GW298.out) _) | exact HK.out)⟩, ⟨B.bl HB⟩⟩
              rw [if_neg c12] at H
              exact absurd H (by simp)
            rw [if_neg c11] at H
            exact absurd H (by simp)
          rw [if_neg c9] at H
          exact absurd H (by simp)
        rw [if_neg c8] at H
        exact absurd H (by simp)
      rw [if_neg c7] at H
      have c7b0 : decide (x8_1 < a0_2) = false := decide_eq_false c7
      clear c7
      obtain rfl := Option.some.inj H
      simp only [Option.some.injEq, Prod.mk.injEq] at H
      obtain ⟨rfl⟩ := H
      have hcz17_0 : wr.cell? ⟨gb298, 0, none⟩ = some (.int .i64 a0_0) := B.bc BK298 0
      have hcz17_1 : wr.cell? ⟨gb298, 1, none⟩ = some (.int .i64 a0_1) := B.bc BK298 1
      have hcz17_2 : wr.cell? ⟨gb298, 2, none⟩ = some (.int .i64 a0_2) := B.bc BK298 2
      have hcz17_3 : wr.cell? ⟨gb298, 3, none⟩ = some (.slice Ao5 x299003_1.length co5) := B.bc BK298 3
      have hfz17_0 := blk_frozen BK298.out 0
      have hfz17_1 := blk_frozen BK298.out 1
      have hfz17_2 := blk_frozen BK298.out 2
      have hfz17_3 := blk_frozen BK298.out 3
      go_wp2
      first | go_end0 | ((try simp only [Exit.inBlock, Exit.then]); refine bodyPost_ret (results_none rfl _ _ _) rfl ?_)
      exact ⟨by first | rfl | (simp [errW_none, errW_some] <;> rfl) | (simp [*, errW_none, errW_some] <;> rfl), (by first | exact (B.kr HO_299003) | (simp only [hl299003_1]; exact (B.kr HO_299003))), B.bl HB, by repeat (first | (with_reducible first | exact HK.out | apply Kept.alloc | apply Kept.drewN | apply Kept.drew | refine Kept.setCell ?_ (.inr GW298.out) _) | exact HK.out)⟩

end Go.Proofs.Ytpadegboplcapaa.Q
