-- Written by a program of this session (the kit's printer, with hand-proved contracts for the functions that it does not take).
import Derived.Test.YtegicfkcdmhjgaaQ0
import Derived.Test.YtegicfkcdmhjgaaQ1
import Derived.Test.YtegicfkcdmhjgaaQ2
import Derived.Test.YtegicfkcdmhjgaaQ3
namespace Go.Proofs.Ytegicfkcdmhjgaa.Q
open Go.RowKit Go.Proofs.YtegicfkcdmhjgaaW.PrintWords Go.Proofs.YtegicfkcdmhjgaaW.PrintLast Go.Proofs.YtegicfkcdmhjgaaW.PrintMore
attribute [local go_sem] max2_int min2_int max_two min_two max_three min_three max_four min_four   -- for this text's walks alone
set_option linter.unusedVariables false
set_option linter.unusedSimpArgs false

/-! ### laws_FnExactSetPixel: function 9 -/
mutual
def laws_FnExactSetPixel.j0 : Nat → Int → Int → List Int → Bool → List Int → Bool → Bool → Int → Int → Int → List Int → Int → Int → Int → List Int → Int → Int → Int → List Int → Int → Int → Int → List Int → Option (Bool)
  | 0, _, _, _, _, _, _, _, _, _, _, _, _, _, _, _, _, _, _, _, _, _, _, _ => none
  | k + 1, x1, x2, x3, x11, x13, x15, x59, x178000, x178001, x178002, x178003, x196000, x196001, x196002, x196003, x203000, x203001, x203002, x203003, x214000, x214001, x214002, x214003 => if x59 = true then (some false) else ((laws_toImage.f k x178000 x178001 x178002 x178003).bind fun bt215 => ((laws_eqImage.f k x203000 x203001 x203002 x203003 bt215.1 bt215.2.1 bt215.2.2.1 bt215.2.2.2).bind fun t221 => (if t221 = true then ((laws_toIntS.f k x3).bind fun t222 => ((laws_eqIntS.f k x13 t222).bind fun t225 => (if t225 = true then ((laws_markImage.f k x203000 x203001 x203002 x203003 1).bind fun bt226 => ((laws_markIntS.f k x13 bt226.1).bind fun bt228 => (if bt228.1 < 0 then (laws_FnExactSetPixel.j1 k x1 x2 x3 x11 true x178000 x178001 x178002 x178003 x196000 x196001 x196002 x196003 x214000 x214001 x214002 x214003) else ((laws_eqImage.f k x214000 x214001 x214002 x214003 x196000 x196001 x196002 x196003).bind fun t230 => (if t230 = true then (laws_FnExactSetPixel.j1 k x1 x2 x3 x11 (x15 != x11) x178000 x178001 x178002 x178003 x196000 x196001 x196002 x196003 x214000 x214001 x214002 x214003) else (laws_FnExactSetPixel.j1 k x1 x2 x3 x11 true x178000 x178001 x178002 x178003 x196000 x196001 x196002 x196003 x214000 x214001 x214002 x214003)))))) else (some false)))) else (some false))))
def laws_FnExactSetPixel.j1 : Nat → Int → Int → List Int → Bool → Bool → Int → Int → Int → List Int → Int → Int → Int → List Int → Int → Int → Int → List Int → Option (Bool)
  | 0, _, _, _, _, _, _, _, _, _, _, _, _, _, _, _, _, _ => none
  | k + 1, x1, x2, x3, x11, x88, x178000, x178001, x178002, x178003, x196000, x196001, x196002, x196003, x214000, x214001, x214002, x214003 => if x88 = true then (some false) else ((laws_markImage.f k x214000 x214001 x214002 x214003 1).bind fun bt231 => ((laws_heldImage.f k x214000 x214001 x214002 bt231.2 1).bind fun t233 => (if t233 < 0 then (some false) else (if t233 = bt231.1 then ((laws_toImage.f k x178000 x178001 x178002 x178003).bind fun bt234 => ((laws_toIntS.f k x3).bind fun t240 => ((impl_SetPixel.f bt234.1 bt234.2.1 bt234.2.2.1 bt234.2.2.2 x1 x2 t240).bind fun bt243 => ((laws_eqImage.f k bt243.1 bt243.2.1 bt243.2.2.1 bt243.2.2.2.1 x196000 x196001 x196002 x196003).bind fun t251 => (if t251 = true then (laws_FnExactSetPixel.j2 k bt231.1 (bt243.2.2.2.2 != x11) x214000 x214001 x214002 bt231.2) else (laws_FnExactSetPixel.j2 k bt231.1 true x214000 x214001 x214002 bt231.2)))))) else (some false)))))
def laws_FnExactSetPixel.j2 : Nat → Int → Bool → Int → Int → Int → List Int → Option (Bool)
  | 0, _, _, _, _, _, _ => none
  | k + 1, x17, x118, x214000, x214001, x214002, x214003 => if x118 = true then (some false) else ((laws_heldImage.f k x214000 x214001 x214002 x214003 1).bind fun t252 => (if t252 < 0 then (some false) else (if t252 = x17 then (some true) else (some false))))
end
def laws_FnExactSetPixel.f (k : Nat) (a0_0 : Int) (a0_1 : Int) (a0_2 : Int) (l0_3 : List Int) (a1 : Int) (a2 : Int) (l3 : List Int) : Option (Bool) := if (l3.length : Int) > 1048576 then (some true) else ((laws_szImage.f a0_0 a0_1 a0_2 l0_3 1048576).bind fun t178 => (if t178 < 0 then (some true) else ((laws_toImage.f k a0_0 a0_1 a0_2 l0_3).bind fun bt179 => ((laws_toIntS.f k l3).bind fun t185 => ((spec_SetPixel.f k bt179.1 bt179.2.1 bt179.2.2.1 bt179.2.2.2 a1 a2 t185).bind fun bt188 => ((laws_toImage.f k a0_0 a0_1 a0_2 l0_3).bind fun bt196 => ((laws_toIntS.f k l3).bind fun t203 => ((impl_SetPixel.f bt196.1 bt196.2.1 bt196.2.2.1 bt196.2.2.2 a1 a2 t203).bind fun bt206 => ((laws_eqImage.f k bt206.1 bt206.2.1 bt206.2.2.1 bt206.2.2.2.1 bt188.1 bt188.2.1 bt188.2.2.1 bt188.2.2.2.1).bind fun t214 => (if t214 = true then (laws_FnExactSetPixel.j0 k a1 a2 l3 bt188.2.2.2.2 t203 bt206.2.2.2.2 (bt206.2.2.2.2 != bt188.2.2.2.2) a0_0 a0_1 a0_2 l0_3 bt188.1 bt188.2.1 bt188.2.2.1 bt188.2.2.2.1 bt196.1 bt196.2.1 bt196.2.2.1 bt196.2.2.2 bt206.1 bt206.2.1 bt206.2.2.1 bt206.2.2.2.1) else (laws_FnExactSetPixel.j0 k a1 a2 l3 bt188.2.2.2.2 t203 bt206.2.2.2.2 true a0_0 a0_1 a0_2 l0_3 bt188.1 bt188.2.1 bt188.2.2.1 bt188.2.2.2.1 bt196.1 bt196.2.1 bt196.2.2.1 bt196.2.2.2 bt206.1 bt206.2.1 bt206.2.2.1 bt206.2.2.2.1)))))))))))
theorem laws_FnExactSetPixel.mono_l : ∀ k, (∀ y0 y1 y2 y3 y4 y5 y6 y7 y8 y9 y10 y11 y12 y13 y14 y15 y16 y17 y18 y19 y20 y21 y22, LeO (laws_FnExactSetPixel.j0 k y0 y1 y2 y3 y4 y5 y6 y7 y8 y9 y10 y11 y12 y13 y14 y15 y16 y17 y18 y19 y20 y21 y22) (laws_FnExactSetPixel.j0 (k + 1) y0 y1 y2 y3 y4 y5 y6 y7 y8 y9 y10 y11 y12 y13 y14 y15 y16 y17 y18 y19 y20 y21 y22)) ∧ (∀ y0 y1 y2 y3 y4 y5 y6 y7 y8 y9 y10 y11 y12 y13 y14 y15 y16, LeO (laws_FnExactSetPixel.j1 k y0 y1 y2 y3 y4 y5 y6 y7 y8 y9 y10 y11 y12 y13 y14 y15 y16) (laws_FnExactSetPixel.j1 (k + 1) y0 y1 y2 y3 y4 y5 y6 y7 y8 y9 y10 y11 y12 y13 y14 y15 y16)) ∧ (∀ y0 y1 y2 y3 y4 y5, LeO (laws_FnExactSetPixel.j2 k y0 y1 y2 y3 y4 y5) (laws_FnExactSetPixel.j2 (k + 1) y0 y1 y2 y3 y4 y5))
  | 0 => ⟨fun _ _ _ _ _ _ _ _ _ _ _ _ _ _ _ _ _ _ _ _ _ _ _ r h => by simp [laws_FnExactSetPixel.j0] at h, fun _ _ _ _ _ _ _ _ _ _ _ _ _ _ _ _ _ r h => by simp [laws_FnExactSetPixel.j1] at h, fun _ _ _ _ _ _ r h => by simp [laws_FnExactSetPixel.j2] at h⟩
  | k + 1 => by
    obtain ⟨ih0, ih1, ih2⟩ := laws_FnExactSetPixel.mono_l k
    refine ⟨?_, ?_, ?_⟩
    · intro y0 y1 y2 y3 y4 y5 y6 y7 y8 y9 y10 y11 y12 y13 y14 y15 y16 y17 y18 y19 y20 y21 y22
      unfold laws_FnExactSetPixel.j0
      repeat' first
      | (with_reducible exact ih0 _ _ _ _ _ _ _ _ _ _ _ _ _ _ _ _ _ _ _ _ _ _ _)
      | (with_reducible exact ih1 _ _ _ _ _ _ _ _ _ _ _ _ _ _ _ _ _)
      | (with_reducible exact ih2 _ _ _ _ _ _)
      | (with_reducible exact laws_eqImage.mono _ _ _ _ _ _ _ _ _)
      | (with_reducible exact laws_eqIntS.mono _ _ _)
      | (with_reducible exact laws_heldImage.mono _ _ _ _ _ _)
      | (with_reducible exact laws_markImage.mono _ _ _ _ _ _)
      | (with_reducible exact laws_markIntS.mono _ _ _)
      | (with_reducible exact laws_toImage.mono _ _ _ _ _)
      | (with_reducible exact laws_toIntS.mono _ _)
      | (with_reducible exact spec_SetPixel.mono _ _ _ _ _ _ _ _)
      | (with_reducible exact LeO.refl _)
      | (with_reducible exact LeO.none _)
      | (with_reducible refine LeO.ite ?_ ?_)
      | (with_reducible refine LeO.bind ?_ (fun _ => ?_))
      | exact ih0 _ _ _ _ _ _ _ _ _ _ _ _ _ _ _ _ _ _ _ _ _ _ _
      | exact ih1 _ _ _ _ _ _ _ _ _ _ _ _ _ _ _ _ _
      | exact ih2 _ _ _ _ _ _
      | exact laws_eqImage.mono _ _ _ _ _ _ _ _ _
      | exact laws_eqIntS.mono _ _ _
      | exact laws_heldImage.mono _ _ _ _ _ _
      | exact laws_markImage.mono _ _ _ _ _ _
      | exact laws_markIntS.mono _ _ _
      | exact laws_toImage.mono _ _ _ _ _
      | exact laws_toIntS.mono _ _
      | exact spec_SetPixel.mono _ _ _ _ _ _ _ _
      | exact LeO.none _
      | refine LeO.ite ?_ ?_
      | refine LeO.bind ?_ (fun _ => ?_)
    · intro y0 y1 y2 y3 y4 y5 y6 y7 y8 y9 y10 y11 y12 y13 y14 y15 y16
      unfold laws_FnExactSetPixel.j1
      repeat' first
      | (with_reducible exact ih0 _ _ _ _ _ _ _ _ _ _ _ _ _ _ _ _ _ _ _ _ _ _ _)
      | (with_reducible exact ih1 _ _ _ _ _ _ _ _ _ _ _ _ _ _ _ _ _)
      | (with_reducible exact ih2 _ _ _ _ _ _)
      | (with_reducible exact laws_eqImage.mono _ _ _ _ _ _ _ _ _)
      | (with_reducible exact laws_eqIntS.mono _ _ _)
      | (with_reducible exact laws_heldImage.mono _ _ _ _ _ _)
      | (with_reducible exact laws_markImage.mono _ _ _ _ _ _)
      | (with_reducible exact laws_markIntS.mono _ _ _)
      | (with_reducible exact laws_toImage.mono _ _ _ _ _)
      | (with_reducible exact laws_toIntS.mono _ _)
      | (with_reducible exact spec_SetPixel.mono _ _ _ _ _ _ _ _)
      | (with_reducible exact LeO.refl _)
      | (with_reducible exact LeO.none _)
      | (with_reducible refine LeO.ite ?_ ?_)
      | (with_reducible refine LeO.bind ?_ (fun _ => ?_))
      | exact ih0 _ _ _ _ _ _ _ _ _ _ _ _ _ _ _ _ _ _ _ _ _ _ _
      | exact ih1 _ _ _ _ _ _ _ _ _ _ _ _ _ _ _ _ _
      | exact ih2 _ _ _ _ _ _
      | exact laws_eqImage.mono _ _ _ _ _ _ _ _ _
      | exact laws_eqIntS.mono _ _ _
      | exact laws_heldImage.mono _ _ _ _ _ _
      | exact laws_markImage.mono _ _ _ _ _ _
      | exact laws_markIntS.mono _ _ _
      | exact laws_toImage.mono _ _ _ _ _
      | exact laws_toIntS.mono _ _
      | exact spec_SetPixel.mono _ _ _ _ _ _ _ _
      | exact LeO.none _
      | refine LeO.ite ?_ ?_
      | refine LeO.bind ?_ (fun _ => ?_)
    intro y0 y1 y2 y3 y4 y5
    unfold laws_FnExactSetPixel.j2
    repeat' first
    | (with_reducible exact ih0 _ _ _ _ _ _ _ _ _ _ _ _ _ _ _ _ _ _ _ _ _ _ _)
    | (with_reducible exact ih1 _ _ _ _ _ _ _ _ _ _ _ _ _ _ _ _ _)
    | (with_reducible exact ih2 _ _ _ _ _ _)
    | (with_reducible exact laws_eqImage.mono _ _ _ _ _ _ _ _ _)
    | (with_reducible exact laws_eqIntS.mono _ _ _)
    | (with_reducible exact laws_heldImage.mono _ _ _ _ _ _)
    | (with_reducible exact laws_markImage.mono _ _ _ _ _ _)
    | (with_reducible exact laws_markIntS.mono _ _ _)
    | (with_reducible exact laws_toImage.mono _ _ _ _ _)
    | (with_reducible exact laws_toIntS.mono _ _)
    | (with_reducible exact spec_SetPixel.mono _ _ _ _ _ _ _ _)
    | (with_reducible exact LeO.refl _)
    | (with_reducible exact LeO.none _)
    | (with_reducible refine LeO.ite ?_ ?_)
    | (with_reducible refine LeO.bind ?_ (fun _ => ?_))
    | exact ih0 _ _ _ _ _ _ _ _ _ _ _ _ _ _ _ _ _ _ _ _ _ _ _
    | exact ih1 _ _ _ _ _ _ _ _ _ _ _ _ _ _ _ _ _
    | exact ih2 _ _ _ _ _ _
    | exact laws_eqImage.mono _ _ _ _ _ _ _ _ _
    | exact laws_eqIntS.mono _ _ _
    | exact laws_heldImage.mono _ _ _ _ _ _
    | exact laws_markImage.mono _ _ _ _ _ _
    | exact laws_markIntS.mono _ _ _
    | exact laws_toImage.mono _ _ _ _ _
    | exact laws_toIntS.mono _ _
    | exact spec_SetPixel.mono _ _ _ _ _ _ _ _
    | exact LeO.none _
    | refine LeO.ite ?_ ?_
    | refine LeO.bind ?_ (fun _ => ?_)
theorem laws_FnExactSetPixel.mono : ∀ a0 a1 a2 a3 a4 a5 a6 k, LeO (laws_FnExactSetPixel.f k a0 a1 a2 a3 a4 a5 a6) (laws_FnExactSetPixel.f (k + 1) a0 a1 a2 a3 a4 a5 a6) := by
  intro a0 a1 a2 a3 a4 a5 a6 k
  obtain ⟨ih0, ih1, ih2⟩ := laws_FnExactSetPixel.mono_l k
  unfold laws_FnExactSetPixel.f
  repeat' first
      | (with_reducible exact ih0 _ _ _ _ _ _ _ _ _ _ _ _ _ _ _ _ _ _ _ _ _ _ _)
      | (with_reducible exact ih1 _ _ _ _ _ _ _ _ _ _ _ _ _ _ _ _ _)
      | (with_reducible exact ih2 _ _ _ _ _ _)
      | (with_reducible exact laws_eqImage.mono _ _ _ _ _ _ _ _ _)
      | (with_reducible exact laws_eqIntS.mono _ _ _)
      | (with_reducible exact laws_heldImage.mono _ _ _ _ _ _)
      | (with_reducible exact laws_markImage.mono _ _ _ _ _ _)
      | (with_reducible exact laws_markIntS.mono _ _ _)
      | (with_reducible exact laws_toImage.mono _ _ _ _ _)
      | (with_reducible exact laws_toIntS.mono _ _)
      | (with_reducible exact spec_SetPixel.mono _ _ _ _ _ _ _ _)
      | (with_reducible exact LeO.refl _)
      | (with_reducible exact LeO.none _)
      | (with_reducible refine LeO.ite ?_ ?_)
      | (with_reducible refine LeO.bind ?_ (fun _ => ?_))
      | exact ih0 _ _ _ _ _ _ _ _ _ _ _ _ _ _ _ _ _ _ _ _ _ _ _
      | exact ih1 _ _ _ _ _ _ _ _ _ _ _ _ _ _ _ _ _
      | exact ih2 _ _ _ _ _ _
      | exact laws_eqImage.mono _ _ _ _ _ _ _ _ _
      | exact laws_eqIntS.mono _ _ _
      | exact laws_heldImage.mono _ _ _ _ _ _
      | exact laws_markImage.mono _ _ _ _ _ _
      | exact laws_markIntS.mono _ _ _
      | exact laws_toImage.mono _ _ _ _ _
      | exact laws_toIntS.mono _ _
      | exact spec_SetPixel.mono _ _ _ _ _ _ _ _
      | exact LeO.none _
      | refine LeO.ite ?_ ?_
      | refine LeO.bind ?_ (fun _ => ?_)
set_option maxHeartbeats 8000000 in
set_option maxRecDepth 100000 in
theorem laws_FnExactSetPixel.calls (k : Nat) (a0_0 : Int) (a0_1 : Int) (a0_2 : Int) (A0_3 : Option Addr) (c0_3 : Nat) (l0_3 : List Int) (a1 : Int) (a2 : Int) (A3 : Option Addr) (c3 : Nat) (l3 : List Int) (r : Bool) (w : World) (hr0_3 : Kd.C (Kd.int .i64) w A0_3 l0_3.length l0_3) (hc0_3 : l0_3.length ≤ c0_3) (hr3 : Kd.C (Kd.int .i64) w A3 l3.length l3) (hc3 : l3.length ≤ c3) (h : laws_FnExactSetPixel.f k a0_0 a0_1 a0_2 l0_3 a1 a2 l3 = some r) (ht_ : Aside0 (r = true)) :
    Calls Try.prog 9 #[.agg #[.int .i64 a0_0, .int .i64 a0_1, .int .i64 a0_2, .slice A0_3 l0_3.length c0_3], .int .i64 a1, .int .i64 a2, .slice A3 l3.length c3] w fun e w' => e = .returned (.bool r) ∧ Below w.heap.size w w' := by
  have hu24 := Try.underlying24
  have hu27 := Try.underlying27
  have HR0_3 := Aside0.mk hr0_3
  have HC0_3 := Aside0.mk hc0_3
  clear hr0_3 hc0_3
  have HR3 := Aside0.mk hr3
  have HC3 := Aside0.mk hc3
  clear hr3 hc3
  have HB := Aside0.mk (Below.refl w.heap.size w)
  have H : (if (l3.length : Int) > 1048576 then (some true) else ((laws_szImage.f a0_0 a0_1 a0_2 l0_3 1048576).bind fun t178 => (if t178 < 0 then (some true) else ((laws_toImage.f k a0_0 a0_1 a0_2 l0_3).bind fun bt179 => ((laws_toIntS.f k l3).bind fun t185 => ((spec_SetPixel.f k bt179.1 bt179.2.1 bt179.2.2.1 bt179.2.2.2 a1 a2 t185).bind fun bt188 => ((laws_toImage.f k a0_0 a0_1 a0_2 l0_3).bind fun bt196 => ((laws_toIntS.f k l3).bind fun t203 => ((impl_SetPixel.f bt196.1 bt196.2.1 bt196.2.2.1 bt196.2.2.2 a1 a2 t203).bind fun bt206 => ((laws_eqImage.f k bt206.1 bt206.2.1 bt206.2.2.1 bt206.2.2.2.1 bt188.1 bt188.2.1 bt188.2.2.1 bt188.2.2.2.1).bind fun t214 => (if t214 = true then (laws_FnExactSetPixel.j0 k a1 a2 l3 bt188.2.2.2.2 t203 bt206.2.2.2.2 (bt206.2.2.2.2 != bt188.2.2.2.2) a0_0 a0_1 a0_2 l0_3 bt188.1 bt188.2.1 bt188.2.2.1 bt188.2.2.2.1 bt196.1 bt196.2.1 bt196.2.2.1 bt196.2.2.2 bt206.1 bt206.2.1 bt206.2.2.1 bt206.2.2.2.1) else (laws_FnExactSetPixel.j0 k a1 a2 l3 bt188.2.2.2.2 t203 bt206.2.2.2.2 true a0_0 a0_1 a0_2 l0_3 bt188.1 bt188.2.1 bt188.2.2.1 bt188.2.2.2.1 bt196.1 bt196.2.1 bt196.2.2.1 bt196.2.2.2 bt206.1 bt206.2.1 bt206.2.2.1 bt206.2.2.2.1)))))))))))) = some r := h
  clear h
  by_cases c5 : (l3.length : Int) > 1048576
  · rw [if_pos c5] at H
    have c5b0 : decide (1048576 < (l3.length : Int)) = true := decide_eq_true c5
    have c5b1 : decide (1048576 < l3.length) = true := decide_eq_true (by omega)
    clear c5
    obtain rfl := Option.some.inj H
    simp only [Option.some.injEq, Prod.mk.injEq] at H
    obtain ⟨rfl⟩ := H
    go_enter Try.func9, Try.ntmps9
    go_wp2_with (first | ((with_reducible refine gate_dst (N := 4) rfl ?_); refine box_event ?hg (N := 4) ?hd (cs := #[.int .i64 a0_0, .int .i64 a0_1, .int .i64 a0_2, .slice A0_3 l0_3.length c0_3]) (t := 24) ?hr ?_; (case hd => rfl); (case hg => rfl); (case hr => first | (go_simp; done) | (go_simp; rfl)); intro gb177 hg w6 hbox hb; have n0_ := Aside0.mk (below_step (B.bl HB) hb); have n1_ := Aside0.mk (hbox); have n2_ := Aside0.mk (B.nle hg (below_size (B.bl HB))); have n3_ := Aside0.mk (B.nle hg (below_size (B.bl HB))); clear HB; have HB := n0_; have BK177 := n1_; have GW177 := n2_; have GE177 := n3_; clear n0_ n1_ n2_ n3_; clear hb hbox hg))
    go_ret
    exact ⟨by first | rfl | (simp [errW_none, errW_some] <;> rfl) | (simp [*, errW_none, errW_some] <;> rfl), B.bl HB⟩
  rw [if_neg c5] at H
  have c5b0 : decide (1048576 < (l3.length : Int)) = false := decide_eq_false c5
  have c5b1 : decide (1048576 < l3.length) = false := decide_eq_false (by omega)
  clear c5
  replace H := Option.bind_eq_some_iff.mp H
  obtain ⟨t178, A70, H⟩ := H
  replace H : (if t178 < 0 then (some true) else ((laws_toImage.f k a0_0 a0_1 a0_2 l0_3).bind fun bt179 => ((laws_toIntS.f k l3).bind fun t185 => ((spec_SetPixel.f k bt179.1 bt179.2.1 bt179.2.2.1 bt179.2.2.2 a1 a2 t185).bind fun bt188 => ((laws_toImage.f k a0_0 a0_1 a0_2 l0_3).bind fun bt196 => ((laws_toIntS.f k l3).bind fun t203 => ((impl_SetPixel.f bt196.1 bt196.2.1 bt196.2.2.1 bt196.2.2.2 a1 a2 t203).bind fun bt206 => ((laws_eqImage.f k bt206.1 bt206.2.1 bt206.2.2.1 bt206.2.2.2.1 bt188.1 bt188.2.1 bt188.2.2.1 bt188.2.2.2.1).bind fun t214 => (if t214 = true then (laws_FnExactSetPixel.j0 k a1 a2 l3 bt188.2.2.2.2 t203 bt206.2.2.2.2 (bt206.2.2.2.2 != bt188.2.2.2.2) a0_0 a0_1 a0_2 l0_3 bt188.1 bt188.2.1 bt188.2.2.1 bt188.2.2.2.1 bt196.1 bt196.2.1 bt196.2.2.1 bt196.2.2.2 bt206.1 bt206.2.1 bt206.2.2.1 bt206.2.2.2.1) else (laws_FnExactSetPixel.j0 k a1 a2 l3 bt188.2.2.2.2 t203 bt206.2.2.2.2 true a0_0 a0_1 a0_2 l0_3 bt188.1 bt188.2.1 bt188.2.2.1 bt188.2.2.2.1 bt196.1 bt196.2.1 bt196.2.2.1 bt196.2.2.2 bt206.1 bt206.2.1 bt206.2.2.1 bt206.2.2.2.1)))))))))) = some r := H
  have A7 := Aside0.mk A70
  clear A70
  by_cases c8 : t178 < 0
  · rw [if_pos c8] at H
    have c8b0 : decide (t178 < 0) = true := decide_eq_true c8
    clear c8
    obtain rfl := Option.some.inj H
    simp only [Option.some.injEq, Prod.mk.injEq] at H
    obtain ⟨rfl⟩ := H
    go_enter Try.func9, Try.ntmps9
    go_wp2_with (first | ((with_reducible refine gate_dst (N := 4) rfl ?_); refine box_event ?hg (N := 4) ?hd (cs := #[.int .i64 a0_0, .int .i64 a0_1, .int .i64 a0_2, .slice A0_3 l0_3.length c0_3]) (t := 24) ?hr ?_; (case hd => rfl); (case hg => rfl); (case hr => first | (go_simp; done) | (go_simp; rfl)); intro gb177 hg w9 hbox hb; have n0_ := Aside0.mk (below_step (B.bl HB) hb); have n1_ := Aside0.mk (hbox); have n2_ := Aside0.mk (B.nle hg (below_size (B.bl HB))); have n3_ := Aside0.mk (B.nle hg (below_size (B.bl HB))); clear HB; have HB := n0_; have BK177 := n1_; have GW177 := n2_; have GE177 := n3_; clear n0_ n1_ n2_ n3_; clear hb hbox hg; have hcz10_0 : w9.cell? ⟨gb177, 0, none⟩ = some (.int .i64 a0_0) := B.bc BK177 0; have hcz10_1 : w9.cell? ⟨gb177, 1, none⟩ = some (.int .i64 a0_1) := B.bc BK177 1; have hcz10_2 : w9.cell? ⟨gb177, 2, none⟩ = some (.int .i64 a0_2) := B.bc BK177 2; have hcz10_3 : w9.cell? ⟨gb177, 3, none⟩ = some (.slice A0_3 l0_3.length c0_3) := B.bc BK177 3; have hfz10_0 := blk_frozen BK177.out 0; have hfz10_1 := blk_frozen BK177.out 1; have hfz10_2 := blk_frozen BK177.out 2; have hfz10_3 := blk_frozen BK177.out 3) | ((with_reducible refine gate_callee (f := 11) rfl ?_); refine goesL_ (some 26) rfl rfl Try.func11 (by kernel_rfl) rfl #[.agg #[.int .i64 a0_0, .int .i64 a0_1, .int .i64 a0_2, .slice A0_3 l0_3.length c0_3], .int .i64 1048576] rfl B.am ?_; (with_reducible refine (laws_szImage.calls a0_0 a0_1 a0_2 _ _ l0_3 1048576 t178 _ ?side1 ?side2 A7.out).mono ?_); (case side1 => exact B.kc (Kd.C_below HR0_3.out HB.out)); (case side2 => exact HC0_3.out); rintro e w11 ⟨rfl, hb⟩; refine ⟨_, rfl, ?_⟩; have n0_ := Aside0.mk (blk_below (B.kb BK177) hb); have n1_ := Aside0.mk (below_step (B.bl HB) hb); clear BK177 HB; have BK177 := n0_; have HB := n1_; clear n0_ n1_; (try clear hb); (try clear hb2); (try clear hk); (try clear hi)))
    go_ret
    exact ⟨by first | rfl | (simp [errW_none, errW_some] <;> rfl) | (simp [*, errW_none, errW_some] <;> rfl), B.bl HB⟩
  rw [if_neg c8] at H
  have c8b0 : decide (t178 < 0) = false := decide_eq_false c8
  clear c8
  replace H := Option.bind_eq_some_iff.mp H
  obtain ⟨⟨t179, t180, t181, t182⟩, A120, H⟩ := H
  replace H : ((laws_toIntS.f k l3).bind fun t185 => ((spec_SetPixel.f k t179 t180 t181 t182 a1 a2 t185).bind fun bt188 => ((laws_toImage.f k a0_0 a0_1 a0_2 l0_3).bind fun bt196 => ((laws_toIntS.f k l3).bind fun t203 => ((impl_SetPixel.f bt196.1 bt196.2.1 bt196.2.2.1 bt196.2.2.2 a1 a2 t203).bind fun bt206 => ((laws_eqImage.f k bt206.1 bt206.2.1 bt206.2.2.1 bt206.2.2.2.1 bt188.1 bt188.2.1 bt188.2.2.1 bt188.2.2.2.1).bind fun t214 => (if t214 = true then (laws_FnExactSetPixel.j0 k a1 a2 l3 bt188.2.2.2.2 t203 bt206.2.2.2.2 (bt206.2.2.2.2 != bt188.2.2.2.2) a0_0 a0_1 a0_2 l0_3 bt188.1 bt188.2.1 bt188.2.2.1 bt188.2.2.2.1 bt196.1 bt196.2.1 bt196.2.2.1 bt196.2.2.2 bt206.1 bt206.2.1 bt206.2.2.1 bt206.2.2.2.1) else (laws_FnExactSetPixel.j0 k a1 a2 l3 bt188.2.2.2.2 t203 bt206.2.2.2.2 true a0_0 a0_1 a0_2 l0_3 bt188.1 bt188.2.1 bt188.2.2.1 bt188.2.2.2.1 bt196.1 bt196.2.1 bt196.2.2.1 bt196.2.2.2 bt206.1 bt206.2.1 bt206.2.2.1 bt206.2.2.2.1)))))))) = some r := H
  have A12 := Aside0.mk A120
  clear A120
  replace H := Option.bind_eq_some_iff.mp H
  obtain ⟨t185, A130, H⟩ := H
  replace H : ((spec_SetPixel.f k t179 t180 t181 t182 a1 a2 t185).bind fun bt188 => ((laws_toImage.f k a0_0 a0_1 a0_2 l0_3).bind fun bt196 => ((laws_toIntS.f k l3).bind fun t203 => ((impl_SetPixel.f bt196.1 bt196.2.1 bt196.2.2.1 bt196.2.2.2 a1 a2 t203).bind fun bt206 => ((laws_eqImage.f k bt206.1 bt206.2.1 bt206.2.2.1 bt206.2.2.2.1 bt188.1 bt188.2.1 bt188.2.2.1 bt188.2.2.2.1).bind fun t214 => (if t214 = true then (laws_FnExactSetPixel.j0 k a1 a2 l3 bt188.2.2.2.2 t203 bt206.2.2.2.2 (bt206.2.2.2.2 != bt188.2.2.2.2) a0_0 a0_1 a0_2 l0_3 bt188.1 bt188.2.1 bt188.2.2.1 bt188.2.2.2.1 bt196.1 bt196.2.1 bt196.2.2.1 bt196.2.2.2 bt206.1 bt206.2.1 bt206.2.2.1 bt206.2.2.2.1) else (laws_FnExactSetPixel.j0 k a1 a2 l3 bt188.2.2.2.2 t203 bt206.2.2.2.2 true a0_0 a0_1 a0_2 l0_3 bt188.1 bt188.2.1 bt188.2.2.1 bt188.2.2.2.1 bt196.1 bt196.2.1 bt196.2.2.1 bt196.2.2.2 bt206.1 bt206.2.1 bt206.2.2.1 bt206.2.2.2.1))))))) = some r := H
  have A13 := Aside0.mk A130
  clear A130
  replace H := Option.bind_eq_some_iff.mp H
  obtain ⟨⟨t188, t189, t190, t191, t194⟩, A140, H⟩ := H
  replace H : ((laws_toImage.f k a0_0 a0_1 a0_2 l0_3).bind fun bt196 => ((laws_toIntS.f k l3).bind fun t203 => ((impl_SetPixel.f bt196.1 bt196.2.1 bt196.2.2.1 bt196.2.2.2 a1 a2 t203).bind fun bt206 => ((laws_eqImage.f k bt206.1 bt206.2.1 bt206.2.2.1 bt206.2.2.2.1 t188 t189 t190 t191).bind fun t214 => (if t214 = true then (laws_FnExactSetPixel.j0 k a1 a2 l3 t194 t203 bt206.2.2.2.2 (bt206.2.2.2.2 != t194) a0_0 a0_1 a0_2 l0_3 t188 t189 t190 t191 bt196.1 bt196.2.1 bt196.2.2.1 bt196.2.2.2 bt206.1 bt206.2.1 bt206.2.2.1 bt206.2.2.2.1) else (laws_FnExactSetPixel.j0 k a1 a2 l3 t194 t203 bt206.2.2.2.2 true a0_0 a0_1 a0_2 l0_3 t188 t189 t190 t191 bt196.1 bt196.2.1 bt196.2.2.1 bt196.2.2.2 bt206.1 bt206.2.1 bt206.2.2.1 bt206.2.2.2.1)))))) = some r := H
  have A14 := Aside0.mk A140
  clear A140
  replace H := Option.bind_eq_some_iff.mp H
  obtain ⟨⟨t196, t197, t198, t199⟩, A150, H⟩ := H
  replace H : ((laws_toIntS.f k l3).bind fun t203 => ((impl_SetPixel.f t196 t197 t198 t199 a1 a2 t203).bind fun bt206 => ((laws_eqImage.f k bt206.1 bt206.2.1 bt206.2.2.1 bt206.2.2.2.1 t188 t189 t190 t191).bind fun t214 => (if t214 = true then (laws_FnExactSetPixel.j0 k a1 a2 l3 t194 t203 bt206.2.2.2.2 (bt206.2.2.2.2 != t194) a0_0 a0_1 a0_2 l0_3 t188 t189 t190 t191 t196 t197 t198 t199 bt206.1 bt206.2.1 bt206.2.2.1 bt206.2.2.2.1) else (laws_FnExactSetPixel.j0 k a1 a2 l3 t194 t203 bt206.2.2.2.2 true a0_0 a0_1 a0_2 l0_3 t188 t189 t190 t191 t196 t197 t198 t199 bt206.1 bt206.2.1 bt206.2.2.1 bt206.2.2.2.1))))) = some r := H
  have A15 := Aside0.mk A150
  clear A150
  replace H := Option.bind_eq_some_iff.mp H
  obtain ⟨t203, A160, H⟩ := H
  replace H : ((impl_SetPixel.f t196 t197 t198 t199 a1 a2 t203).bind fun bt206 => ((laws_eqImage.f k bt206.1 bt206.2.1 bt206.2.2.1 bt206.2.2.2.1 t188 t189 t190 t191).bind fun t214 => (if t214 = true then (laws_FnExactSetPixel.j0 k a1 a2 l3 t194 t203 bt206.2.2.2.2 (bt206.2.2.2.2 != t194) a0_0 a0_1 a0_2 l0_3 t188 t189 t190 t191 t196 t197 t198 t199 bt206.1 bt206.2.1 bt206.2.2.1 bt206.2.2.2.1) else (laws_FnExactSetPixel.j0 k a1 a2 l3 t194 t203 bt206.2.2.2.2 true a0_0 a0_1 a0_2 l0_3 t188 t189 t190 t191 t196 t197 t198 t199 bt206.1 bt206.2.1 bt206.2.2.1 bt206.2.2.2.1)))) = some r := H
  have A16 := Aside0.mk A160
  clear A160
  replace H := Option.bind_eq_some_iff.mp H
  obtain ⟨⟨t206, t207, t208, t209, t212⟩, A170, H⟩ := H
  replace H : ((laws_eqImage.f k t206 t207 t208 t209 t188 t189 t190 t191).bind fun t214 => (if t214 = true then (laws_FnExactSetPixel.j0 k a1 a2 l3 t194 t203 t212 (t212 != t194) a0_0 a0_1 a0_2 l0_3 t188 t189 t190 t191 t196 t197 t198 t199 t206 t207 t208 t209) else (laws_FnExactSetPixel.j0 k a1 a2 l3 t194 t203 t212 true a0_0 a0_1 a0_2 l0_3 t188 t189 t190 t191 t196 t197 t198 t199 t206 t207 t208 t209))) = some r := H
  have A17 := Aside0.mk A170
  clear A170
  have HC18 := Aside0.mk H
  clear H
  go_enter Try.func9, Try.ntmps9
  go_upto_region 11 with (first | ((with_reducible refine gate_dst (N := 4) rfl ?_); refine box_event ?hg (N := 4) ?hd (cs := #[.int .i64 a0_0, .int .i64 a0_1, .int .i64 a0_2, .slice A0_3 l0_3.length c0_3]) (t := 24) ?hr ?_; (case hd => rfl); (case hg => rfl); (case hr => first | (go_simp; done) | (go_simp; rfl)); intro gb177 hg w19 hbox hb; have n0_ := Aside0.mk (below_step (B.bl HB) hb); have n1_ := Aside0.mk (hbox); have n2_ := Aside0.mk (B.nle hg (below_size (B.bl HB))); have n3_ := Aside0.mk (B.nle hg (below_size (B.bl HB))); clear HB; have HB := n0_; have BK177 := n1_; have GW177 := n2_; have GE177 := n3_; clear n0_ n1_ n2_ n3_; clear hb hbox hg; have hcz20_0 : w19.cell? ⟨gb177, 0, none⟩ = some (.int .i64 a0_0) := B.bc BK177 0; have hcz20_1 : w19.cell? ⟨gb177, 1, none⟩ = some (.int .i64 a0_1) := B.bc BK177 1; have hcz20_2 : w19.cell? ⟨gb177, 2, none⟩ = some (.int .i64 a0_2) := B.bc BK177 2; have hcz20_3 : w19.cell? ⟨gb177, 3, none⟩ = some (.slice A0_3 l0_3.length c0_3) := B.bc BK177 3; have hfz20_0 := blk_frozen BK177.out 0; have hfz20_1 := blk_frozen BK177.out 1; have hfz20_2 := blk_frozen BK177.out 2; have hfz20_3 := blk_frozen BK177.out 3) | ((with_reducible refine gate_callee (f := 11) rfl ?_); refine goesL_ (some 26) rfl rfl Try.func11 (by kernel_rfl) rfl #[.agg #[.int .i64 a0_0, .int .i64 a0_1, .int .i64 a0_2, .slice A0_3 l0_3.length c0_3], .int .i64 1048576] rfl B.am ?_; (with_reducible refine (laws_szImage.calls a0_0 a0_1 a0_2 _ _ l0_3 1048576 t178 _ ?side1 ?side2 A7.out).mono ?_); (case side1 => exact B.kc (Kd.C_below HR0_3.out HB.out)); (case side2 => exact HC0_3.out); rintro e w21 ⟨rfl, hb⟩; refine ⟨_, rfl, ?_⟩; have n0_ := Aside0.mk (blk_below (B.kb BK177) hb); have n1_ := Aside0.mk (below_step (B.bl HB) hb); clear BK177 HB; have BK177 := n0_; have HB := n1_; clear n0_ n1_; (try clear hb); (try clear hb2); (try clear hk); (try clear hi); have hcz22_0 : w21.cell? ⟨gb177, 0, none⟩ = some (.int .i64 a0_0) := B.bc BK177 0; have hcz22_1 : w21.cell? ⟨gb177, 1, none⟩ = some (.int .i64 a0_1) := B.bc BK177 1; have hcz22_2 : w21.cell? ⟨gb177, 2, none⟩ = some (.int .i64 a0_2) := B.bc BK177 2; have hcz22_3 : w21.cell? ⟨gb177, 3, none⟩ = some (.slice A0_3 l0_3.length c0_3) := B.bc BK177 3; have hfz22_0 := blk_frozen BK177.out 0; have hfz22_1 := blk_frozen BK177.out 1; have hfz22_2 := blk_frozen BK177.out 2; have hfz22_3 := blk_frozen BK177.out 3) | ((with_reducible refine gate_callee (f := 13) rfl ?_); refine goesL_ (some 31) rfl rfl Try.func13 (by kernel_rfl) rfl #[.agg #[.int .i64 a0_0, .int .i64 a0_1, .int .i64 a0_2, .slice A0_3 l0_3.length c0_3]] rfl B.am ?_; (with_reducible refine (laws_toImage.calls k a0_0 a0_1 a0_2 _ _ l0_3 t179 t180 t181 t182 _ ?side1 ?side2 A12.out).mono ?_); (case side1 => exact B.kc (Kd.C_below HR0_3.out HB.out)); (case side2 => exact HC0_3.out); rintro e w23 ⟨v183, rfl, ho0, hb⟩; refine ⟨_, rfl, ?_⟩; have n0_ := Aside0.mk (Kd.R_lower ho0 (below_size (B.bl HB))); have n1_ := Aside0.mk (blk_below (B.kb BK177) hb); have n2_ := Aside0.mk (below_step (B.bl HB) hb); clear BK177 HB; have HO184 := n0_; have BK177 := n1_; have HB := n2_; clear n0_ n1_ n2_; (try clear hb); (try clear hb2); (try clear hk); (try clear hi); (try clear ho0)) | ((with_reducible refine gate_callee (f := 17) rfl ?_); refine goesL_ (some 35) rfl rfl Try.func17 (by kernel_rfl) rfl #[.slice A3 l3.length c3] rfl B.am ?_; (with_reducible refine (laws_toIntS.calls k _ _ l3 t185 _ ?side1 ?side2 A13.out).mono ?_); (case side1 => exact B.kc (Kd.C_below HR3.out HB.out)); (case side2 => exact HC3.out); rintro e w24 ⟨v186, rfl, ho0, hb⟩; refine ⟨_, rfl, ?_⟩; have n0_ := Aside0.mk (Kd.R_elder' (B.kr HO184) (Kd.R_base ho0) hb); have n1_ := Aside0.mk (Kd.R_lower (Kd.R_new' ho0 (Kd.R_lt (B.kr HO184))) (below_size (B.bl HB))); have n2_ := Aside0.mk (blk_below (B.kb BK177) hb); have n3_ := Aside0.mk (below_step (B.bl HB) hb); clear HO184 BK177 HB; have HO184 := n0_; have HO187 := n1_; have BK177 := n2_; have HB := n3_; clear n0_ n1_ n2_ n3_; (try clear hb); (try clear hb2); (try clear hk); (try clear hi); (try clear ho0); obtain ⟨Ao25, co25, eo25⟩ := Kd.R_slice HO184.out; subst eo25; obtain ⟨Ao26, co26, eo26⟩ := Kd.R_slice HO187.out; subst eo26) | ((with_reducible refine gate_callee (f := 32) rfl ?_); refine goesL_ (some 36) rfl rfl Try.func32 (by kernel_rfl) rfl #[.agg #[.int .i64 t179, .int .i64 t180, .int .i64 t181, .slice Ao25 t182.length co25], .int .i64 a1, .int .i64 a2, .slice Ao26 t185.length co26] rfl B.am ?_; (with_reducible refine (spec_SetPixel.calls k t179 t180 t181 _ _ t182 a1 a2 _ _ t185 t188 t189 t190 t191 t194 _ ?side1 ?side2 ?side3 ?side4 A14.out).mono ?_); (case side1 => exact B.kc ((Kd.R_reads' HO184.out).2.2)); (case side2 => exact (Kd.R_reads' HO184.out).2.1); (case side3 => exact B.kc ((Kd.R_reads' HO187.out).2.2)); (case side4 => exact (Kd.R_reads' HO187.out).2.1); rintro e w27 ⟨v192, rfl, ho0, hb⟩; refine ⟨_, rfl, ?_⟩; have n0_ := Aside0.mk (Kd.R_elder' (B.kr HO184) (Kd.R_base ho0) hb); have n1_ := Aside0.mk (Kd.R_elder' (B.kr HO187) (Kd.R_base ho0) hb); have n2_ := Aside0.mk (Kd.R_lower (Kd.R_new' (Kd.R_new' ho0 (Kd.R_lt (B.kr HO184))) (Kd.R_lt (B.kr HO187))) (below_size (B.bl HB))); have n3_ := Aside0.mk (blk_below (B.kb BK177) hb); have n4_ := Aside0.mk (below_step (B.bl HB) hb); clear HO184 HO187 BK177 HB; have HO184 := n0_; have HO187 := n1_; have HO193 := n2_; have BK177 := n3_; have HB := n4_; clear n0_ n1_ n2_ n3_ n4_; (try clear hb); (try clear hb2); (try clear hk); (try clear hi); (try clear ho0)) | ((with_reducible refine gate_dst (N := 10) rfl ?_); refine box_event ?hg (N := 10) ?hd (cs := #[.int .i64 0, .int .i64 0, .int .i64 0, .slice none 0 0]) (t := 27) ?hr ?_; (case hd => rfl); (case hg => rfl); (case hr => first | (go_simp; done) | (go_simp; rfl)); intro gb195 hg w28 hbox hb; have n0_ := Aside0.mk (Kd.R_below (B.kr HO184) hb); have n1_ := Aside0.mk (Kd.R_below (B.kr HO187) hb); have n2_ := Aside0.mk (Kd.R_below (B.kr HO193) hb); have n3_ := Aside0.mk (blk_below (B.kb BK177) hb); have n4_ := Aside0.mk (below_step (B.bl HB) hb); have n5_ := Aside0.mk (hbox); have n6_ := Aside0.mk (B.nle hg (below_size (B.bl HB))); have n7_ := Aside0.mk (B.nle hg (below_size (B.bl HB))); have n8_ := Aside0.mk (B.nlt hg (blk_lt (B.kb BK177))); have n9_ := Aside0.mk (B.ngt hg (blk_lt (B.kb BK177))); clear HO184 HO187 HO193 BK177 HB; have HO184 := n0_; have HO187 := n1_; have HO193 := n2_; have BK177 := n3_; have HB := n4_; have BK195 := n5_; have GW195 := n6_; have GE195 := n7_; have NB177_195 := n8_; have NB195_177 := n9_; clear n0_ n1_ n2_ n3_ n4_ n5_ n6_ n7_ n8_ n9_; clear hb hbox hg; have hnb29 := NB195_177.out; have hnc29 := NB177_195.out; have hcz30_0 : w28.cell? ⟨gb195, 0, none⟩ = some (.int .i64 0) := B.bc BK195 0; have hcz30_1 : w28.cell? ⟨gb195, 1, none⟩ = some (.int .i64 0) := B.bc BK195 1; have hcz30_2 : w28.cell? ⟨gb195, 2, none⟩ = some (.int .i64 0) := B.bc BK195 2; have hcz30_3 : w28.cell? ⟨gb195, 3, none⟩ = some (.slice none 0 0) := B.bc BK195 3; have hfz30_0 := blk_frozen BK195.out 0; have hfz30_1 := blk_frozen BK195.out 1; have hfz30_2 := blk_frozen BK195.out 2; have hfz30_3 := blk_frozen BK195.out 3; obtain ⟨Ao31, co31, eo31⟩ := Kd.R_slice HO193.out; subst eo31; have hcz32_0 : w28.cell? ⟨gb177, 0, none⟩ = some (.int .i64 a0_0) := B.bc BK177 0; have hcz32_1 : w28.cell? ⟨gb177, 1, none⟩ = some (.int .i64 a0_1) := B.bc BK177 1; have hcz32_2 : w28.cell? ⟨gb177, 2, none⟩ = some (.int .i64 a0_2) := B.bc BK177 2; have hcz32_3 : w28.cell? ⟨gb177, 3, none⟩ = some (.slice A0_3 l0_3.length c0_3) := B.bc BK177 3; have hfz32_0 := blk_frozen BK177.out 0; have hfz32_1 := blk_frozen BK177.out 1; have hfz32_2 := blk_frozen BK177.out 2; have hfz32_3 := blk_frozen BK177.out 3) | ((with_reducible refine gate_callee (f := 13) rfl ?_); refine goesL_ (some 40) rfl rfl Try.func13 (by kernel_rfl) rfl #[.agg #[.int .i64 a0_0, .int .i64 a0_1, .int .i64 a0_2, .slice A0_3 l0_3.length c0_3]] rfl B.am ?_; (with_reducible refine (laws_toImage.calls k a0_0 a0_1 a0_2 _ _ l0_3 t196 t197 t198 t199 _ ?side1 ?side2 A15.out).mono ?_); (case side1 => exact Kd.C_below HR0_3.out (B.bl HB)); (case side2 => exact HC0_3.out); rintro e w33 ⟨v200, rfl, ho0, hb⟩; refine ⟨_, rfl, ?_⟩; have n0_ := Aside0.mk (Kd.R_elder' (B.kr0 (B.rs4 HO184 BK195)) (Kd.R_base ho0) hb); have n1_ := Aside0.mk (Kd.R_elder' (B.kr0 (B.rs4 HO187 BK195)) (Kd.R_base ho0) hb); have n2_ := Aside0.mk (Kd.R_elder' (B.kr0 (B.rs4 HO193 BK195)) (Kd.R_base ho0) hb); have n3_ := Aside0.mk (Kd.R_lower (Kd.R_new' (Kd.R_new' (Kd.R_new' ho0 (Kd.R_lt (B.kr0 (B.rs4 HO184 BK195)))) (Kd.R_lt (B.kr0 (B.rs4 HO187 BK195)))) (Kd.R_lt (B.kr0 (B.rs4 HO193 BK195)))) (below_size (B.bl HB))); have n4_ := Aside0.mk (blk_below (B.kb0 (B.bf4 BK177 NB177_195)) hb); have n5_ := Aside0.mk (blk_below (g := gb195) (o := .cells #[.int .i64 t188, .int .i64 t189, .int .i64 t190, .slice Ao31 t191.length co31] 27 (0, 0)) (B.kb0 (B.bp4 BK195)) hb); have n6_ := Aside0.mk (below_step (B.bl HB) hb); clear HO184 HO187 HO193 BK177 BK195 HB; have HO184 := n0_; have HO187 := n1_; have HO193 := n2_; have HO201 := n3_; have BK177 := n4_; have BK195 := n5_; have HB := n6_; clear n0_ n1_ n2_ n3_ n4_ n5_ n6_; (try clear hb); (try clear hb2); (try clear hk); (try clear hi); (try clear ho0)) | ((with_reducible refine gate_dst (N := 12) rfl ?_); refine box_event ?hg (N := 12) ?hd (cs := #[.int .i64 0, .int .i64 0, .int .i64 0, .slice none 0 0]) (t := 27) ?hr ?_; (case hd => rfl); (case hg => rfl); (case hr => first | (go_simp; done) | (go_simp; rfl)); intro gb202 hg w34 hbox hb; have n0_ := Aside0.mk (Kd.R_below (B.kr HO184) hb); have n1_ := Aside0.mk (Kd.R_below (B.kr HO187) hb); have n2_ := Aside0.mk (Kd.R_below (B.kr HO193) hb); have n3_ := Aside0.mk (Kd.R_below (B.kr HO201) hb); have n4_ := Aside0.mk (blk_below (B.kb BK177) hb); have n5_ := Aside0.mk (blk_below (B.kb BK195) hb); have n6_ := Aside0.mk (below_step (B.bl HB) hb); have n7_ := Aside0.mk (hbox); have n8_ := Aside0.mk (B.nle hg (below_size (B.bl HB))); have n9_ := Aside0.mk (B.nle hg (below_size (B.bl HB))); have n10_ := Aside0.mk (B.nlt hg (blk_lt (B.kb BK177))); have n11_ := Aside0.mk (B.ngt hg (blk_lt (B.kb BK177))); have n12_ := Aside0.mk (B.nlt hg (blk_lt (B.kb BK195))); have n13_ := Aside0.mk (B.ngt hg (blk_lt (B.kb BK195))); clear HO184 HO187 HO193 HO201 BK177 BK195 HB; have HO184 := n0_; have HO187 := n1_; have HO193 := n2_; have HO201 := n3_; have BK177 := n4_; have BK195 := n5_; have HB := n6_; have BK202 := n7_; have GW202 := n8_; have GE202 := n9_; have NB177_202 := n10_; have NB202_177 := n11_; have NB195_202 := n12_; have NB202_195 := n13_; clear n0_ n1_ n2_ n3_ n4_ n5_ n6_ n7_ n8_ n9_ n10_ n11_ n12_ n13_; clear hb hbox hg; have hnb35 := NB202_177.out; have hnc35 := NB177_202.out; have hnb36 := NB202_195.out; have hnc36 := NB195_202.out; have hcz37_0 : w34.cell? ⟨gb202, 0, none⟩ = some (.int .i64 0) := B.bc BK202 0; have hcz37_1 : w34.cell? ⟨gb202, 1, none⟩ = some (.int .i64 0) := B.bc BK202 1; have hcz37_2 : w34.cell? ⟨gb202, 2, none⟩ = some (.int .i64 0) := B.bc BK202 2; have hcz37_3 : w34.cell? ⟨gb202, 3, none⟩ = some (.slice none 0 0) := B.bc BK202 3; have hfz37_0 := blk_frozen BK202.out 0; have hfz37_1 := blk_frozen BK202.out 1; have hfz37_2 := blk_frozen BK202.out 2; have hfz37_3 := blk_frozen BK202.out 3; obtain ⟨Ao38, co38, eo38⟩ := Kd.R_slice HO201.out; subst eo38) | ((with_reducible refine gate_callee (f := 17) rfl ?_); refine goesL_ (some 42) rfl rfl Try.func17 (by kernel_rfl) rfl #[.slice A3 l3.length c3] rfl B.am ?_; (with_reducible refine (laws_toIntS.calls k _ _ l3 t203 _ ?side1 ?side2 A16.out).mono ?_); (case side1 => exact Kd.C_below HR3.out (B.bl HB)); (case side2 => exact HC3.out); rintro e w39 ⟨v204, rfl, ho0, hb⟩; refine ⟨_, rfl, ?_⟩; have n0_ := Aside0.mk (Kd.R_elder' (B.kr0 (B.rs4 HO184 BK202)) (Kd.R_base ho0) hb); have n1_ := Aside0.mk (Kd.R_elder' (B.kr0 (B.rs4 HO187 BK202)) (Kd.R_base ho0) hb); have n2_ := Aside0.mk (Kd.R_elder' (B.kr0 (B.rs4 HO193 BK202)) (Kd.R_base ho0) hb); have n3_ := Aside0.mk (Kd.R_elder' (B.kr0 (B.rs4 HO201 BK202)) (Kd.R_base ho0) hb); have n4_ := Aside0.mk (Kd.R_lower (Kd.R_new' (Kd.R_new' (Kd.R_new' (Kd.R_new' ho0 (Kd.R_lt (B.kr0 (B.rs4 HO184 BK202)))) (Kd.R_lt (B.kr0 (B.rs4 HO187 BK202)))) (Kd.R_lt (B.kr0 (B.rs4 HO193 BK202)))) (Kd.R_lt (B.kr0 (B.rs4 HO201 BK202)))) (below_size (B.bl HB))); have n5_ := Aside0.mk (blk_below (B.kb0 (B.bf4 BK177 NB177_202)) hb); have n6_ := Aside0.mk (blk_below (B.kb0 (B.bf4 BK195 NB195_202)) hb); have n7_ := Aside0.mk (blk_below (g := gb202) (o := .cells #[.int .i64 t196, .int .i64 t197, .int .i64 t198, .slice Ao38 t199.length co38] 27 (0, 0)) (B.kb0 (B.bp4 BK202)) hb); have n8_ := Aside0.mk (below_step (B.bl HB) hb); clear HO184 HO187 HO193 HO201 BK177 BK195 BK202 HB; have HO184 := n0_; have HO187 := n1_; have HO193 := n2_; have HO201 := n3_; have HO205 := n4_; have BK177 := n5_; have BK195 := n6_; have BK202 := n7_; have HB := n8_; clear n0_ n1_ n2_ n3_ n4_ n5_ n6_ n7_ n8_; (try clear hb); (try clear hb2); (try clear hk); (try clear hi); (try clear ho0); have hcz40_0 : w39.cell? ⟨gb202, 0, none⟩ = some (.int .i64 t196) := B.bc BK202 0; have hcz40_1 : w39.cell? ⟨gb202, 1, none⟩ = some (.int .i64 t197) := B.bc BK202 1; have hcz40_2 : w39.cell? ⟨gb202, 2, none⟩ = some (.int .i64 t198) := B.bc BK202 2; have hcz40_3 : w39.cell? ⟨gb202, 3, none⟩ = some (.slice Ao38 t199.length co38) := B.bc BK202 3; have hfz40_0 := blk_frozen BK202.out 0; have hfz40_1 := blk_frozen BK202.out 1; have hfz40_2 := blk_frozen BK202.out 2; have hfz40_3 := blk_frozen BK202.out 3; obtain ⟨Ao41, co41, eo41⟩ := Kd.R_slice HO205.out; subst eo41) | ((with_reducible refine gate_callee (f := 33) rfl ?_); refine goesL_ (some 48) rfl rfl Try.func33 (by kernel_rfl) rfl #[.agg #[.int .i64 t196, .int .i64 t197, .int .i64 t198, .slice Ao38 t199.length co38], .int .i64 a1, .int .i64 a2, .slice Ao41 t203.length co41] rfl B.am ?_; (with_reducible refine (impl_SetPixel.calls t196 t197 t198 _ _ t199 a1 a2 _ _ t203 t206 t207 t208 t209 t212 _ ?side1 ?side2 ?side3 ?side4 A17.out).mono ?_); (case side1 => exact B.kc ((Kd.R_reads' HO201.out).2.2)); (case side2 => exact (Kd.R_reads' HO201.out).2.1); (case side3 => exact B.kc ((Kd.R_reads' HO205.out).2.2)); (case side4 => exact (Kd.R_reads' HO205.out).2.1); rintro e w42 ⟨v210, rfl, ho0, hb⟩; refine ⟨_, rfl, ?_⟩; have n0_ := Aside0.mk (Kd.R_elder' (B.kr HO184) (Kd.R_base ho0) hb); have n1_ := Aside0.mk (Kd.R_elder' (B.kr HO187) (Kd.R_base ho0) hb); have n2_ := Aside0.mk (Kd.R_elder' (B.kr HO193) (Kd.R_base ho0) hb); have n3_ := Aside0.mk (Kd.R_elder' (B.kr HO201) (Kd.R_base ho0) hb); have n4_ := Aside0.mk (Kd.R_elder' (B.kr HO205) (Kd.R_base ho0) hb); have n5_ := Aside0.mk (Kd.R_lower (Kd.R_new' (Kd.R_new' (Kd.R_new' (Kd.R_new' (Kd.R_new' ho0 (Kd.R_lt (B.kr HO184))) (Kd.R_lt (B.kr HO187))) (Kd.R_lt (B.kr HO193))) (Kd.R_lt (B.kr HO201))) (Kd.R_lt (B.kr HO205))) (below_size (B.bl HB))); have n6_ := Aside0.mk (blk_below (B.kb BK177) hb); have n7_ := Aside0.mk (blk_below (B.kb BK195) hb); have n8_ := Aside0.mk (blk_below (B.kb BK202) hb); have n9_ := Aside0.mk (below_step (B.bl HB) hb); clear HO184 HO187 HO193 HO201 HO205 BK177 BK195 BK202 HB; have HO184 := n0_; have HO187 := n1_; have HO193 := n2_; have HO201 := n3_; have HO205 := n4_; have HO211 := n5_; have BK177 := n6_; have BK195 := n7_; have BK202 := n8_; have HB := n9_; clear n0_ n1_ n2_ n3_ n4_ n5_ n6_ n7_ n8_ n9_; (try clear hb); (try clear hb2); (try clear hk); (try clear hi); (try clear ho0)) | ((with_reducible refine gate_dst (N := 14) rfl ?_); refine box_event ?hg (N := 14) ?hd (cs := #[.int .i64 0, .int .i64 0, .int .i64 0, .slice none 0 0]) (t := 27) ?hr ?_; (case hd => rfl); (case hg => rfl); (case hr => first | (go_simp; done) | (go_simp; rfl)); intro gb213 hg w43 hbox hb; have n0_ := Aside0.mk (Kd.R_below (B.kr HO184) hb); have n1_ := Aside0.mk (Kd.R_below (B.kr HO187) hb); have n2_ := Aside0.mk (Kd.R_below (B.kr HO193) hb); have n3_ := Aside0.mk (Kd.R_below (B.kr HO201) hb); have n4_ := Aside0.mk (Kd.R_below (B.kr HO205) hb); have n5_ := Aside0.mk (Kd.R_below (B.kr HO211) hb); have n6_ := Aside0.mk (blk_below (B.kb BK177) hb); have n7_ := Aside0.mk (blk_below (B.kb BK195) hb); have n8_ := Aside0.mk (blk_below (B.kb BK202) hb); have n9_ := Aside0.mk (below_step (B.bl HB) hb); have n10_ := Aside0.mk (hbox); have n11_ := Aside0.mk (B.nle hg (below_size (B.bl HB))); have n12_ := Aside0.mk (B.nle hg (below_size (B.bl HB))); have n13_ := Aside0.mk (B.nlt hg (blk_lt (B.kb BK177))); have n14_ := Aside0.mk (B.ngt hg (blk_lt (B.kb BK177))); have n15_ := Aside0.mk (B.nlt hg (blk_lt (B.kb BK195))); have n16_ := Aside0.mk (B.ngt hg (blk_lt (B.kb BK195))); have n17_ := Aside0.mk (B.nlt hg (blk_lt (B.kb BK202))); have n18_ := Aside0.mk (B.ngt hg (blk_lt (B.kb BK202))); clear HO184 HO187 HO193 HO201 HO205 HO211 BK177 BK195 BK202 HB; have HO184 := n0_; have HO187 := n1_; have HO193 := n2_; have HO201 := n3_; have HO205 := n4_; have HO211 := n5_; have BK177 := n6_; have BK195 := n7_; have BK202 := n8_; have HB := n9_; have BK213 := n10_; have GW213 := n11_; have GE213 := n12_; have NB177_213 := n13_; have NB213_177 := n14_; have NB195_213 := n15_; have NB213_195 := n16_; have NB202_213 := n17_; have NB213_202 := n18_; clear n0_ n1_ n2_ n3_ n4_ n5_ n6_ n7_ n8_ n9_ n10_ n11_ n12_ n13_ n14_ n15_ n16_ n17_ n18_; clear hb hbox hg; have hnb44 := NB213_177.out; have hnc44 := NB177_213.out; have hnb45 := NB213_195.out; have hnc45 := NB195_213.out; have hnb46 := NB213_202.out; have hnc46 := NB202_213.out; have hcz47_0 : w43.cell? ⟨gb213, 0, none⟩ = some (.int .i64 0) := B.bc BK213 0; have hcz47_1 : w43.cell? ⟨gb213, 1, none⟩ = some (.int .i64 0) := B.bc BK213 1; have hcz47_2 : w43.cell? ⟨gb213, 2, none⟩ = some (.int .i64 0) := B.bc BK213 2; have hcz47_3 : w43.cell? ⟨gb213, 3, none⟩ = some (.slice none 0 0) := B.bc BK213 3; have hfz47_0 := blk_frozen BK213.out 0; have hfz47_1 := blk_frozen BK213.out 1; have hfz47_2 := blk_frozen BK213.out 2; have hfz47_3 := blk_frozen BK213.out 3; obtain ⟨Ao48, co48, eo48⟩ := Kd.R_slice HO211.out; subst eo48))
  (try simp only [Act.put, List.setIfInBounds_toArray, List.set_cons_zero, List.set_cons_succ])
  go_cut [59] (fun v59 wc => ∃ (kq : Nat) (x59_17 : Bool), v59 = .bool x59_17 ∧ Aside0 (laws_FnExactSetPixel.j0 kq a1 a2 l3 t194 t203 t212 x59_17 a0_0 a0_1 a0_2 l0_3 t188 t189 t190 t191 t196 t197 t198 t199 t206 t207 t208 t209 = some r) ∧ Aside0 (kq ≤ k) ∧ Aside0 (Kd.R (Kd.int .i64) 3 wc w.heap.size (fun k_ => some k_ ≠ ((.slice Ao31 t191.length co31) : Value).ownBlock ∧ some k_ ≠ ((.slice Ao38 t199.length co38) : Value).ownBlock ∧ some k_ ≠ ((.slice Ao48 t209.length co48) : Value).ownBlock) (.slice Ao41 t203.length co41) t203) ∧ Aside0 (Kd.R (Kd.int .i64) 3 wc w.heap.size (fun k_ => some k_ ≠ ((.slice Ao41 t203.length co41) : Value).ownBlock ∧ some k_ ≠ ((.slice Ao38 t199.length co38) : Value).ownBlock ∧ some k_ ≠ ((.slice Ao48 t209.length co48) : Value).ownBlock) (.slice Ao31 t191.length co31) t191) ∧ Aside0 (Kd.R (Kd.int .i64) 3 wc w.heap.size (fun k_ => some k_ ≠ ((.slice Ao41 t203.length co41) : Value).ownBlock ∧ some k_ ≠ ((.slice Ao31 t191.length co31) : Value).ownBlock ∧ some k_ ≠ ((.slice Ao48 t209.length co48) : Value).ownBlock) (.slice Ao38 t199.length co38) t199) ∧ Aside0 (Kd.R (Kd.int .i64) 3 wc w.heap.size (fun k_ => some k_ ≠ ((.slice Ao41 t203.length co41) : Value).ownBlock ∧ some k_ ≠ ((.slice Ao31 t191.length co31) : Value).ownBlock ∧ some k_ ≠ ((.slice Ao38 t199.length co38) : Value).ownBlock) (.slice Ao48 t209.length co48) t209) ∧ Aside0 (wc.heap[gb177]? = some (.cells #[.int .i64 a0_0, .int .i64 a0_1, .int .i64 a0_2, (.slice A0_3 l0_3.length c0_3)] 24 (0, 0))) ∧ Aside0 (wc.heap[gb195]? = some (.cells #[.int .i64 t188, .int .i64 t189, .int .i64 t190, (.slice Ao31 t191.length co31)] 27 (0, 0))) ∧ Aside0 (wc.heap[gb202]? = some (.cells #[.int .i64 t196, .int .i64 t197, .int .i64 t198, (.slice Ao38 t199.length co38)] 27 (0, 0))) ∧ Aside0 (wc.heap[gb213]? = some (.cells #[.int .i64 t206, .int .i64 t207, .int .i64 t208, (.slice Ao48 t209.length co48)] 27 (0, 0))) ∧ Aside0 (Below w.heap.size w wc))
  case first =>
    have H := HC18.out
    clear HC18
    replace H := Option.bind_eq_some_iff.mp H
    obtain ⟨t214, A490, H⟩ := H
    replace H : (if t214 = true then (laws_FnExactSetPixel.j0 k a1 a2 l3 t194 t203 t212 (t212 != t194) a0_0 a0_1 a0_2 l0_3 t188 t189 t190 t191 t196 t197 t198 t199 t206 t207 t208 t209) else (laws_FnExactSetPixel.j0 k a1 a2 l3 t194 t203 t212 true a0_0 a0_1 a0_2 l0_3 t188 t189 t190 t191 t196 t197 t198 t199 t206 t207 t208 t209)) = some r := H
    have A49 := Aside0.mk A490
    clear A490
    by_cases c50 : t214 = true
    · subst c50
      have H1 : (laws_FnExactSetPixel.j0 k a1 a2 l3 t194 t203 t212 (t212 != t194) a0_0 a0_1 a0_2 l0_3 t188 t189 t190 t191 t196 t197 t198 t199 t206 t207 t208 t209) = some r := by rw [if_pos rfl] at H; exact H
      clear H
      have H := H1
      clear H1
      have H' := Aside0.mk H
      clear H
      have hnb51 := NB213_177.out
      have hnc51 := NB177_213.out
      have hnb52 := NB213_195.out
      have hnc52 := NB195_213.out
      have hnb53 := NB213_202.out
      have hnc53 := NB202_213.out
      have hcz54_0 : w43.cell? ⟨gb213, 0, none⟩ = some (.int .i64 0) := B.bc BK213 0
      have hcz54_1 : w43.cell? ⟨gb213, 1, none⟩ = some (.int .i64 0) := B.bc BK213 1
      have hcz54_2 : w43.cell? ⟨gb213, 2, none⟩ = some (.int .i64 0) := B.bc BK213 2
      have hcz54_3 : w43.cell? ⟨gb213, 3, none⟩ = some (.slice none 0 0) := B.bc BK213 3
      have hfz54_0 := blk_frozen BK213.out 0
      have hfz54_1 := blk_frozen BK213.out 1
      have hfz54_2 := blk_frozen BK213.out 2
      have hfz54_3 := blk_frozen BK213.out 3
      have hnb55 := NB195_177.out
      have hnc55 := NB177_195.out
      have hnb56 := NB195_202.out
      have hnc56 := NB202_195.out
      have hcz57_0 : w43.cell? ⟨gb195, 0, none⟩ = some (.int .i64 t188) := B.bc BK195 0
      have hcz57_1 : w43.cell? ⟨gb195, 1, none⟩ = some (.int .i64 t189) := B.bc BK195 1
      have hcz57_2 : w43.cell? ⟨gb195, 2, none⟩ = some (.int .i64 t190) := B.bc BK195 2
      have hcz57_3 : w43.cell? ⟨gb195, 3, none⟩ = some (.slice Ao31 t191.length co31) := B.bc BK195 3
      have hfz57_0 := blk_frozen BK195.out 0
      have hfz57_1 := blk_frozen BK195.out 1
      have hfz57_2 := blk_frozen BK195.out 2
      have hfz57_3 := blk_frozen BK195.out 3
      go_wp2_with (first | ((with_reducible refine gate_callee (f := 15) rfl ?_); refine goesL_ (some 53) rfl rfl Try.func15 (by kernel_rfl) rfl #[.agg #[.int .i64 t206, .int .i64 t207, .int .i64 t208, .slice Ao48 t209.length co48], .agg #[.int .i64 t188, .int .i64 t189, .int .i64 t190, .slice Ao31 t191.length co31]] rfl B.am ?_; (with_reducible refine (laws_eqImage.calls k t206 t207 t208 _ _ t209 t188 t189 t190 _ _ t191 true _ ?side1 ?side2 ?side3 ?side4 A49.out).mono ?_); (case side1 => refine (Kd.R_reads' (e := 3) (base := w.heap.size) (ok := fun k_ => (((((True ∧ some k_ ≠ (.slice Ao25 t182.length co25 : Value).ownBlock) ∧ some k_ ≠ (.slice Ao26 t185.length co26 : Value).ownBlock) ∧ some k_ ≠ (.slice Ao31 t191.length co31 : Value).ownBlock) ∧ some k_ ≠ (.slice Ao38 t199.length co38 : Value).ownBlock) ∧ some k_ ≠ (.slice Ao41 t203.length co41 : Value).ownBlock)) (n := t209.length) (c := co48) ?_).2.2; exact (B.kr0 (B.rs4 HO211 BK213))); (case side2 => exact (Kd.R_reads' HO211.out).2.1); (case side3 => refine (Kd.R_reads' (e := 3) (base := w.heap.size) (ok := fun k_ => (((((True ∧ some k_ ≠ (.slice Ao25 t182.length co25 : Value).ownBlock) ∧ some k_ ≠ (.slice Ao26 t185.length co26 : Value).ownBlock) ∧ some k_ ≠ (.slice Ao38 t199.length co38 : Value).ownBlock) ∧ some k_ ≠ (.slice Ao41 t203.length co41 : Value).ownBlock) ∧ some k_ ≠ (.slice Ao48 t209.length co48 : Value).ownBlock)) (n := t191.length) (c := co31) ?_).2.2; exact (B.kr0 (B.rs4 HO193 BK213))); (case side4 => exact (Kd.R_reads' HO193.out).2.1); rintro e w58 ⟨rfl, hb⟩; refine ⟨_, rfl, ?_⟩; have n0_ := Aside0.mk (Kd.R_below (B.kr0 (B.rs4 HO184 BK213)) hb); have n1_ := Aside0.mk (Kd.R_below (B.kr0 (B.rs4 HO187 BK213)) hb); have n2_ := Aside0.mk (Kd.R_below (B.kr0 (B.rs4 HO193 BK213)) hb); have n3_ := Aside0.mk (Kd.R_below (B.kr0 (B.rs4 HO201 BK213)) hb); have n4_ := Aside0.mk (Kd.R_below (B.kr0 (B.rs4 HO205 BK213)) hb); have n5_ := Aside0.mk (Kd.R_below (B.kr0 (B.rs4 HO211 BK213)) hb); have n6_ := Aside0.mk (blk_below (B.kb0 (B.bf4 BK177 NB177_213)) hb); have n7_ := Aside0.mk (blk_below (B.kb0 (B.bf4 BK195 NB195_213)) hb); have n8_ := Aside0.mk (blk_below (B.kb0 (B.bf4 BK202 NB202_213)) hb); have n9_ := Aside0.mk (blk_below (g := gb213) (o := .cells #[.int .i64 t206, .int .i64 t207, .int .i64 t208, .slice Ao48 t209.length co48] 27 (0, 0)) (B.kb0 (B.bp4 BK213)) hb); have n10_ := Aside0.mk (below_step (B.bl HB) hb); clear HO184 HO187 HO193 HO201 HO205 HO211 BK177 BK195 BK202 BK213 HB; have HO184 := n0_; have HO187 := n1_; have HO193 := n2_; have HO201 := n3_; have HO205 := n4_; have HO211 := n5_; have BK177 := n6_; have BK195 := n7_; have BK202 := n8_; have BK213 := n9_; have HB := n10_; clear n0_ n1_ n2_ n3_ n4_ n5_ n6_ n7_ n8_ n9_ n10_; (try clear hb); (try clear hb2); (try clear hk); (try clear hi)))
      go_meet
      case rel => exact ⟨_, ((t212 != t194)), (by first | rfl | (simp; done) | (simp [*]; done)), H', ⟨by first | omega | exact Nat.le_refl _⟩, ⟨B.kr0 (Kd.R_mono HO205.out (fun _ hk => ⟨hk.1.1.2, ⟨hk.1.2, hk.2⟩⟩))⟩, ⟨B.kr0 (Kd.R_mono HO193.out (fun _ hk => ⟨hk.1.2, ⟨hk.1.1.2, hk.2⟩⟩))⟩, ⟨B.kr0 (Kd.R_mono HO201.out (fun _ hk => ⟨hk.1.2, ⟨hk.1.1.2, hk.2⟩⟩))⟩, ⟨B.kr0 (Kd.R_mono HO211.out (fun _ hk => ⟨hk.2, ⟨hk.1.1.2, hk.1.2⟩⟩))⟩, ⟨B.kb BK177⟩, ⟨B.kb BK195⟩, ⟨B.kb BK202⟩, ⟨B.kb BK213⟩, ⟨B.bl HB⟩⟩
    replace c50 := Bool.eq_false_iff.mpr c50
    subst c50
    have H1 : (laws_FnExactSetPixel.j0 k a1 a2 l3 t194 t203 t212 true a0_0 a0_1 a0_2 l0_3 t188 t189 t190 t191 t196 t197 t198 t199 t206 t207 t208 t209) = some r := by rw [if_neg (show ¬ (false = true) by decide)] at H; exact H
    clear H
    have H := H1
    clear H1
    exact absurd ht_.out (by revert H; cases k <;> intro H <;> simp [laws_FnExactSetPixel.j0] at H <;> (first | (subst H; decide) | simp [← H] | simp [H]))
  case rest =>
    clear HC18
    try clear c1
    try clear c2
    try clear p2
    try clear c3
    try clear c4
    try clear c5
    try clear c5b0
    try clear c5b1
    try clear c8
    try clear c8b0
    try clear c9
    try clear c11
    try clear c13
    try clear c15
    try clear c17
    try clear c29
    try clear c32
    try clear c33
    try clear c35
    try clear c36
    try clear c44
    try clear c45
    try clear c46
    try clear c50
    try clear c51
    try clear c52
    try clear c53
    try clear c55
    try clear c56
    try clear hcz10_0
    try clear hcz10_1
    try clear hcz10_2
    try clear hcz10_3
    try clear hcz20_0
    try clear hcz20_1
    try clear hcz20_2
    try clear hcz20_3
    try clear hcz22_0
    try clear hcz22_1
    try clear hcz22_2
    try clear hcz22_3
    try clear hcz30_0
    try clear hcz30_1
    try clear hcz30_2
    try clear hcz30_3
    try clear hcz32_0
    try clear hcz32_1
    try clear hcz32_2
    try clear hcz32_3
    try clear hcz37_0
    try clear hcz37_1
    try clear hcz37_2
    try clear hcz37_3
    try clear hcz40_0
    try clear hcz40_1
    try clear hcz40_2
    try clear hcz40_3
    try clear hcz47_0
    try clear hcz47_1
    try clear hcz47_2
    try clear hcz47_3
    try clear hcz54_0
    try clear hcz54_1
    try clear hcz54_2
    try clear hcz54_3
    try clear hcz57_0
    try clear hcz57_1
    try clear hcz57_2
    try clear hcz57_3
    try clear hfz10_0
    try clear hfz10_1
    try clear hfz10_2
    try clear hfz10_3
    try clear hfz20_0
    try clear hfz20_1
    try clear hfz20_2
    try clear hfz20_3
    try clear hfz22_0
    try clear hfz22_1
    try clear hfz22_2
    try clear hfz22_3
    try clear hfz30_0
    try clear hfz30_1
    try clear hfz30_2
    try clear hfz30_3
    try clear hfz32_0
    try clear hfz32_1
    try clear hfz32_2
    try clear hfz32_3
    try clear hfz37_0
    try clear hfz37_1
    try clear hfz37_2
    try clear hfz37_3
    try clear hfz40_0
    try clear hfz40_1
    try clear hfz40_2
    try clear hfz40_3
    try clear hfz47_0
    try clear hfz47_1
    try clear hfz47_2
    try clear hfz47_3
    try clear hfz54_0
    try clear hfz54_1
    try clear hfz54_2
    try clear hfz54_3
    try clear hfz57_0
    try clear hfz57_1
    try clear hfz57_2
    try clear hfz57_3
    obtain ⟨kq, x59_17, rfl, HA, HJ17, HO_13, HO_196003, HO_203003, HO_214003, BK177, BK195, BK202, BK213, HB⟩ := hcut
    cases kq with
    | zero => exact absurd HA.out (by simp [laws_FnExactSetPixel.j0])
    | succ kj17 =>
      have H := HA.out
      clear HA
      simp only [laws_FnExactSetPixel.j0] at H
      by_cases c59 : x59_17 = true
      · subst c59
        have H1 : (some false) = some r := by rw [if_pos rfl] at H; exact H
        clear H
        have H := H1
        clear H1
        obtain rfl := Option.some.inj H
        exact absurd ht_.out (by decide)
      replace c59 := Bool.eq_false_iff.mpr c59
      subst c59
      have H1 : ((laws_toImage.f kj17 a0_0 a0_1 a0_2 l0_3).bind fun bt215 => ((laws_eqImage.f kj17 t196 t197 t198 t199 bt215.1 bt215.2.1 bt215.2.2.1 bt215.2.2.2).bind fun t221 => (if t221 = true then ((laws_toIntS.f kj17 l3).bind fun t222 => ((laws_eqIntS.f kj17 t203 t222).bind fun t225 => (if t225 = true then ((laws_markImage.f kj17 t196 t197 t198 t199 1).bind fun bt226 => ((laws_markIntS.f kj17 t203 bt226.1).bind fun bt228 => (if bt228.1 < 0 then (laws_FnExactSetPixel.j1 kj17 a1 a2 l3 t194 true a0_0 a0_1 a0_2 l0_3 t188 t189 t190 t191 t206 t207 t208 t209) else ((laws_eqImage.f kj17 t206 t207 t208 t209 t188 t189 t190 t191).bind fun t230 => (if t230 = true then (laws_FnExactSetPixel.j1 kj17 a1 a2 l3 t194 (t212 != t194) a0_0 a0_1 a0_2 l0_3 t188 t189 t190 t191 t206 t207 t208 t209) else (laws_FnExactSetPixel.j1 kj17 a1 a2 l3 t194 true a0_0 a0_1 a0_2 l0_3 t188 t189 t190 t191 t206 t207 t208 t209)))))) else (some false)))) else (some false)))) = some r := by rw [if_neg (show ¬ (false = true) by decide)] at H; exact H
      clear H
      have H := H1
      clear H1
      replace H := Option.bind_eq_some_iff.mp H
      obtain ⟨⟨t215, t216, t217, t218⟩, A600, H⟩ := H
      replace H : ((laws_eqImage.f kj17 t196 t197 t198 t199 t215 t216 t217 t218).bind fun t221 => (if t221 = true then ((laws_toIntS.f kj17 l3).bind fun t222 => ((laws_eqIntS.f kj17 t203 t222).bind fun t225 => (if t225 = true then ((laws_markImage.f kj17 t196 t197 t198 t199 1).bind fun bt226 => ((laws_markIntS.f kj17 t203 bt226.1).bind fun bt228 => (if bt228.1 < 0 then (laws_FnExactSetPixel.j1 kj17 a1 a2 l3 t194 true a0_0 a0_1 a0_2 l0_3 t188 t189 t190 t191 t206 t207 t208 t209) else ((laws_eqImage.f kj17 t206 t207 t208 t209 t188 t189 t190 t191).bind fun t230 => (if t230 = true then (laws_FnExactSetPixel.j1 kj17 a1 a2 l3 t194 (t212 != t194) a0_0 a0_1 a0_2 l0_3 t188 t189 t190 t191 t206 t207 t208 t209) else (laws_FnExactSetPixel.j1 kj17 a1 a2 l3 t194 true a0_0 a0_1 a0_2 l0_3 t188 t189 t190 t191 t206 t207 t208 t209)))))) else (some false)))) else (some false))) = some r := H
      have A60 := Aside0.mk A600
      clear A600
      replace H := Option.bind_eq_some_iff.mp H
      obtain ⟨t221, A610, H⟩ := H
      replace H : (if t221 = true then ((laws_toIntS.f kj17 l3).bind fun t222 => ((laws_eqIntS.f kj17 t203 t222).bind fun t225 => (if t225 = true then ((laws_markImage.f kj17 t196 t197 t198 t199 1).bind fun bt226 => ((laws_markIntS.f kj17 t203 bt226.1).bind fun bt228 => (if bt228.1 < 0 then (laws_FnExactSetPixel.j1 kj17 a1 a2 l3 t194 true a0_0 a0_1 a0_2 l0_3 t188 t189 t190 t191 t206 t207 t208 t209) else ((laws_eqImage.f kj17 t206 t207 t208 t209 t188 t189 t190 t191).bind fun t230 => (if t230 = true then (laws_FnExactSetPixel.j1 kj17 a1 a2 l3 t194 (t212 != t194) a0_0 a0_1 a0_2 l0_3 t188 t189 t190 t191 t206 t207 t208 t209) else (laws_FnExactSetPixel.j1 kj17 a1 a2 l3 t194 true a0_0 a0_1 a0_2 l0_3 t188 t189 t190 t191 t206 t207 t208 t209)))))) else (some false)))) else (some false)) = some r := H
      have A61 := Aside0.mk A610
      clear A610
      by_cases c62 : t221 = true
      · subst c62
        have H1 : ((laws_toIntS.f kj17 l3).bind fun t222 => ((laws_eqIntS.f kj17 t203 t222).bind fun t225 => (if t225 = true then ((laws_markImage.f kj17 t196 t197 t198 t199 1).bind fun bt226 => ((laws_markIntS.f kj17 t203 bt226.1).bind fun bt228 => (if bt228.1 < 0 then (laws_FnExactSetPixel.j1 kj17 a1 a2 l3 t194 true a0_0 a0_1 a0_2 l0_3 t188 t189 t190 t191 t206 t207 t208 t209) else ((laws_eqImage.f kj17 t206 t207 t208 t209 t188 t189 t190 t191).bind fun t230 => (if t230 = true then (laws_FnExactSetPixel.j1 kj17 a1 a2 l3 t194 (t212 != t194) a0_0 a0_1 a0_2 l0_3 t188 t189 t190 t191 t206 t207 t208 t209) else (laws_FnExactSetPixel.j1 kj17 a1 a2 l3 t194 true a0_0 a0_1 a0_2 l0_3 t188 t189 t190 t191 t206 t207 t208 t209)))))) else (some false)))) = some r := by rw [if_pos rfl] at H; exact H
        clear H
        have H := H1
        clear H1
        replace H := Option.bind_eq_some_iff.mp H
        obtain ⟨t222, A630, H⟩ := H
        replace H : ((laws_eqIntS.f kj17 t203 t222).bind fun t225 => (if t225 = true then ((laws_markImage.f kj17 t196 t197 t198 t199 1).bind fun bt226 => ((laws_markIntS.f kj17 t203 bt226.1).bind fun bt228 => (if bt228.1 < 0 then (laws_FnExactSetPixel.j1 kj17 a1 a2 l3 t194 true a0_0 a0_1 a0_2 l0_3 t188 t189 t190 t191 t206 t207 t208 t209) else ((laws_eqImage.f kj17 t206 t207 t208 t209 t188 t189 t190 t191).bind fun t230 => (if t230 = true then (laws_FnExactSetPixel.j1 kj17 a1 a2 l3 t194 (t212 != t194) a0_0 a0_1 a0_2 l0_3 t188 t189 t190 t191 t206 t207 t208 t209) else (laws_FnExactSetPixel.j1 kj17 a1 a2 l3 t194 true a0_0 a0_1 a0_2 l0_3 t188 t189 t190 t191 t206 t207 t208 t209)))))) else (some false))) = some r := H
        have A63 := Aside0.mk A630
        clear A630
        replace H := Option.bind_eq_some_iff.mp H
        obtain ⟨t225, A640, H⟩ := H
        replace H : (if t225 = true then ((laws_markImage.f kj17 t196 t197 t198 t199 1).bind fun bt226 => ((laws_markIntS.f kj17 t203 bt226.1).bind fun bt228 => (if bt228.1 < 0 then (laws_FnExactSetPixel.j1 kj17 a1 a2 l3 t194 true a0_0 a0_1 a0_2 l0_3 t188 t189 t190 t191 t206 t207 t208 t209) else ((laws_eqImage.f kj17 t206 t207 t208 t209 t188 t189 t190 t191).bind fun t230 => (if t230 = true then (laws_FnExactSetPixel.j1 kj17 a1 a2 l3 t194 (t212 != t194) a0_0 a0_1 a0_2 l0_3 t188 t189 t190 t191 t206 t207 t208 t209) else (laws_FnExactSetPixel.j1 kj17 a1 a2 l3 t194 true a0_0 a0_1 a0_2 l0_3 t188 t189 t190 t191 t206 t207 t208 t209)))))) else (some false)) = some r := H
        have A64 := Aside0.mk A640
        clear A640
        by_cases c65 : t225 = true
        · subst c65
          have H1 : ((laws_markImage.f kj17 t196 t197 t198 t199 1).bind fun bt226 => ((laws_markIntS.f kj17 t203 bt226.1).bind fun bt228 => (if bt228.1 < 0 then (laws_FnExactSetPixel.j1 kj17 a1 a2 l3 t194 true a0_0 a0_1 a0_2 l0_3 t188 t189 t190 t191 t206 t207 t208 t209) else ((laws_eqImage.f kj17 t206 t207 t208 t209 t188 t189 t190 t191).bind fun t230 => (if t230 = true then (laws_FnExactSetPixel.j1 kj17 a1 a2 l3 t194 (t212 != t194) a0_0 a0_1 a0_2 l0_3 t188 t189 t190 t191 t206 t207 t208 t209) else (laws_FnExactSetPixel.j1 kj17 a1 a2 l3 t194 true a0_0 a0_1 a0_2 l0_3 t188 t189 t190 t191 t206 t207 t208 t209)))))) = some r := by rw [if_pos rfl] at H; exact H
          clear H
          have H := H1
          clear H1
          replace H := Option.bind_eq_some_iff.mp H
          obtain ⟨⟨t226, t227⟩, A660, H⟩ := H
          replace H : ((laws_markIntS.f kj17 t203 t226).bind fun bt228 => (if bt228.1 < 0 then (laws_FnExactSetPixel.j1 kj17 a1 a2 l3 t194 true a0_0 a0_1 a0_2 l0_3 t188 t189 t190 t191 t206 t207 t208 t209) else ((laws_eqImage.f kj17 t206 t207 t208 t209 t188 t189 t190 t191).bind fun t230 => (if t230 = true then (laws_FnExactSetPixel.j1 kj17 a1 a2 l3 t194 (t212 != t194) a0_0 a0_1 a0_2 l0_3 t188 t189 t190 t191 t206 t207 t208 t209) else (laws_FnExactSetPixel.j1 kj17 a1 a2 l3 t194 true a0_0 a0_1 a0_2 l0_3 t188 t189 t190 t191 t206 t207 t208 t209))))) = some r := H
          have A66 := Aside0.mk A660
          clear A660
          replace H := Option.bind_eq_some_iff.mp H
          obtain ⟨⟨t228, t229⟩, A670, H⟩ := H
          replace H : (if t228 < 0 then (laws_FnExactSetPixel.j1 kj17 a1 a2 l3 t194 true a0_0 a0_1 a0_2 l0_3 t188 t189 t190 t191 t206 t207 t208 t209) else ((laws_eqImage.f kj17 t206 t207 t208 t209 t188 t189 t190 t191).bind fun t230 => (if t230 = true then (laws_FnExactSetPixel.j1 kj17 a1 a2 l3 t194 (t212 != t194) a0_0 a0_1 a0_2 l0_3 t188 t189 t190 t191 t206 t207 t208 t209) else (laws_FnExactSetPixel.j1 kj17 a1 a2 l3 t194 true a0_0 a0_1 a0_2 l0_3 t188 t189 t190 t191 t206 t207 t208 t209)))) = some r := H
          have A67 := Aside0.mk A670
          clear A670
          have HC68 := Aside0.mk H
          clear H
          try go_wp2
          have n0_ := Aside0.mk (Kd.R_drew HO_13.out)
          have n1_ := Aside0.mk (Kd.R_drew HO_196003.out)
          have n2_ := Aside0.mk (Kd.R_drew HO_203003.out)
          have n3_ := Aside0.mk (Kd.R_drew HO_214003.out)
          have n4_ := Aside0.mk (blk_drew BK177.out)
          have n5_ := Aside0.mk (blk_drew BK195.out)
          have n6_ := Aside0.mk (blk_drew BK202.out)
          have n7_ := Aside0.mk (blk_drew BK213.out)
          have n8_ := Aside0.mk (below_drew1 HB.out)
          clear HO_13 HO_196003 HO_203003 HO_214003 BK177 BK195 BK202 BK213 HB
          have HO_13 := n0_
          have HO_196003 := n1_
          have HO_203003 := n2_
          have HO_214003 := n3_
          have BK177 := n4_
          have BK195 := n5_
          have BK202 := n6_
          have BK213 := n7_
          have HB := n8_
          clear n0_ n1_ n2_ n3_ n4_ n5_ n6_ n7_ n8_
          refine start_ (n := 5) (S := fun w' => w'.cell? ⟨gb202, 0, none⟩ = some (.int .i64 t196) ∧ w'.cell? ⟨gb202, 1, none⟩ = some (.int .i64 t197) ∧ w'.cell? ⟨gb202, 2, none⟩ = some (.int .i64 t198) ∧ w'.cell? ⟨gb202, 3, none⟩ = some (.slice Ao38 t199.length co38) ∧ w'.cell? ⟨gb177, 0, none⟩ = some (.int .i64 a0_0) ∧ w'.cell? ⟨gb177, 1, none⟩ = some (.int .i64 a0_1) ∧ w'.cell? ⟨gb177, 2, none⟩ = some (.int .i64 a0_2) ∧ w'.cell? ⟨gb177, 3, none⟩ = some (.slice A0_3 l0_3.length c0_3)) (ds := []) #[false, false, false, false, false] (by kernel_rfl) rfl rfl ⟨B.bc BK202 0, B.bc BK202 1, B.bc BK202 2, B.bc BK202 3, B.bc BK177 0, B.bc BK177 1, B.bc BK177 2, B.bc BK177 3⟩ (fun hHeld => ?_)
          generalize wc.drew = w69 at HO_13 HO_196003 HO_203003 HO_214003 BK177 BK195 BK202 BK213 HB hHeld ⊢
          refine take_ (i := 0) (N := some 60) (v := ?_) (a' := ?_) #[true, false, false, false, false] rfl rfl (by kernel_rfl) (fun _ _ _ h => h) (Or.inl ⟨by rfl, ?_⟩) hHeld ?_ ?_
          rotate_left
          · rintro w' ⟨s0, s1, s2, s3, s4, s5, s6, s7⟩
            go_simp
            with_reducible rfl
          rotate_left
          · simp only [Act.put, List.setIfInBounds_toArray, List.set_cons_zero, List.set_cons_succ, i64_w, i32_w]
            rfl
          refine take_ (i := 1) (N := some 61) (v := ?_) (a' := ?_) #[true, true, false, false, false] rfl rfl (by kernel_rfl) (fun _ _ _ h => h) (Or.inl ⟨by rfl, ?_⟩) hHeld ?_ ?_
          rotate_left
          · rintro w' ⟨s0, s1, s2, s3, s4, s5, s6, s7⟩
            go_simp
            with_reducible rfl
          rotate_left
          · simp only [Act.put, List.setIfInBounds_toArray, List.set_cons_zero, List.set_cons_succ, i64_w, i32_w]
            rfl
          refine one_ (i := 2) (N := some 62) #[true, true, true, false, false] rfl rfl (by kernel_rfl) (by decide) (fun K hK => ?_)
          refine goes_ Try.func13 (by kernel_rfl) rfl #[.agg #[.int .i64 a0_0, .int .i64 a0_1, .int .i64 a0_2, .slice A0_3 l0_3.length c0_3]] (by rfl) rfl rfl B.am ?_
          with_reducible refine (laws_toImage.calls kj17 a0_0 a0_1 a0_2 _ _ l0_3 t215 t216 t217 t218 _ ?side1 ?side2 A60.out).mono ?_
          (case side1 => exact B.kc (Kd.C_below HR0_3.out HB.out))
          (case side2 => exact HC0_3.out)
          rintro e w70 ⟨v219, rfl, ho0, hb⟩
          refine ⟨_, rfl, ?_⟩
          have n0_ := Aside0.mk (Kd.R_elder' (B.kr HO_13) (Kd.R_base ho0) hb)
          have n1_ := Aside0.mk (Kd.R_elder' (B.kr HO_196003) (Kd.R_base ho0) hb)
          have n2_ := Aside0.mk (Kd.R_elder' (B.kr HO_203003) (Kd.R_base ho0) hb)
          have n3_ := Aside0.mk (Kd.R_elder' (B.kr HO_214003) (Kd.R_base ho0) hb)
          have n4_ := Aside0.mk (Kd.R_lower (Kd.R_new' (Kd.R_new' (Kd.R_new' (Kd.R_new' ho0 (Kd.R_lt (B.kr HO_13))) (Kd.R_lt (B.kr HO_196003))) (Kd.R_lt (B.kr HO_203003))) (Kd.R_lt (B.kr HO_214003))) (below_size (B.bl HB)))
          have n5_ := Aside0.mk (blk_below (B.kb BK177) hb)
          have n6_ := Aside0.mk (blk_below (B.kb BK195) hb)
          have n7_ := Aside0.mk (blk_below (B.kb BK202) hb)
          have n8_ := Aside0.mk (blk_below (B.kb BK213) hb)
          have n9_ := Aside0.mk (below_step (B.bl HB) hb)
          clear HO_13 HO_196003 HO_203003 HO_214003 BK177 BK195 BK202 BK213 HB
          have HO_13 := n0_
          have HO_196003 := n1_
          have HO_203003 := n2_
          have HO_214003 := n3_
          have HO220 := n4_
          have BK177 := n5_
          have BK195 := n6_
          have BK202 := n7_
          have BK213 := n8_
          have HB := n9_
          clear n0_ n1_ n2_ n3_ n4_ n5_ n6_ n7_ n8_ n9_
          (try clear hb)
          (try clear hb2)
          (try clear hk)
          (try clear hi)
          (try clear ho0)
          obtain ⟨Ao71, co71, eo71⟩ := Kd.R_slice HO220.out
          (first | subst eo71 | (injection eo71 with f1_ f2_ f3_; have f4_ := f1_.symm; have f5_ := f3_.symm; clear f1_ f2_ f3_; subst f4_; subst f5_))
          refine hK.out _ _ ⟨B.bc BK202 0, B.bc BK202 1, B.bc BK202 2, B.bc BK202 3, B.bc BK177 0, B.bc BK177 1, B.bc BK177 2, B.bc BK177 3⟩ (fun hHeld => ?_)
          clear hK K
          refine norm_ (a' := ?_) ?_ ?_
          rotate_left
          · show Act.put _ (some 62) _ = _
            simp only [Act.put, List.setIfInBounds_toArray, List.set_cons_zero, List.set_cons_succ, i64_w, i32_w]
            rfl
          refine one_ (i := 3) (N := some 63) #[true, true, true, true, false] rfl rfl (by kernel_rfl) (by decide) (fun K hK => ?_)
          refine goes_ Try.func15 (by kernel_rfl) rfl #[.agg #[.int .i64 t196, .int .i64 t197, .int .i64 t198, .slice Ao38 t199.length co38], .agg #[.int .i64 t215, .int .i64 t216, .int .i64 t217, .slice Ao71 t218.length co71]] (by rfl) rfl rfl B.am ?_
          with_reducible refine (laws_eqImage.calls kj17 t196 t197 t198 _ _ t199 t215 t216 t217 _ _ t218 true _ ?side1 ?side2 ?side3 ?side4 A61.out).mono ?_
          (case side1 => exact B.kc ((Kd.R_reads' HO_203003.out).2.2))
          (case side2 => exact (Kd.R_reads' HO_203003.out).2.1)
          (case side3 => exact B.kc ((Kd.R_reads' HO220.out).2.2))
          (case side4 => exact (Kd.R_reads' HO220.out).2.1)
          rintro e w72 ⟨rfl, hb⟩
          refine ⟨_, rfl, ?_⟩
          have n0_ := Aside0.mk (Kd.R_below (B.kr HO_13) hb)
          have n1_ := Aside0.mk (Kd.R_below (B.kr HO_196003) hb)
          have n2_ := Aside0.mk (Kd.R_below (B.kr HO_203003) hb)
          have n3_ := Aside0.mk (Kd.R_below (B.kr HO_214003) hb)
          have n4_ := Aside0.mk (Kd.R_below (B.kr HO220) hb)
          have n5_ := Aside0.mk (blk_below (B.kb BK177) hb)
          have n6_ := Aside0.mk (blk_below (B.kb BK195) hb)
          have n7_ := Aside0.mk (blk_below (B.kb BK202) hb)
          have n8_ := Aside0.mk (blk_below (B.kb BK213) hb)
          have n9_ := Aside0.mk (below_step (B.bl HB) hb)
          clear HO_13 HO_196003 HO_203003 HO_214003 HO220 BK177 BK195 BK202 BK213 HB
          have HO_13 := n0_
          have HO_196003 := n1_
          have HO_203003 := n2_
          have HO_214003 := n3_
          have HO220 := n4_
          have BK177 := n5_
          have BK195 := n6_
          have BK202 := n7_
          have BK213 := n8_
          have HB := n9_
          clear n0_ n1_ n2_ n3_ n4_ n5_ n6_ n7_ n8_ n9_
          (try clear hb)
          (try clear hb2)
          (try clear hk)
          (try clear hi)
          refine hK.out _ _ ⟨B.bc BK202 0, B.bc BK202 1, B.bc BK202 2, B.bc BK202 3, B.bc BK177 0, B.bc BK177 1, B.bc BK177 2, B.bc BK177 3⟩ (fun hHeld => ?_)
          clear hK K
          refine norm_ (a' := ?_) ?_ ?_
          rotate_left
          · show Act.put _ (some 63) _ = _
            simp only [Act.put, List.setIfInBounds_toArray, List.set_cons_zero, List.set_cons_succ, i64_w, i32_w]
            rfl
          refine pure_ (i := 4) (N := some 64) (v := ?_) (a' := ?_) #[true, true, true, true, true] rfl rfl (by kernel_rfl) (fun _ _ _ h => h) (Or.inl ⟨by rfl, ?_⟩) ?_ ?_
          rotate_left
          · intro w'
            go_simp
            with_reducible rfl
          rotate_left
          · simp only [Act.put, List.setIfInBounds_toArray, List.set_cons_zero, List.set_cons_succ, i64_w, i32_w]
            rfl
          refine done_ (by kernel_rfl) ?_
          go_upto_region 20 with (first | ((with_reducible refine gate_callee (f := 17) rfl ?_); refine goesL_ (some 67) rfl rfl Try.func17 (by kernel_rfl) rfl #[.slice A3 l3.length c3] rfl B.am ?_; (with_reducible refine (laws_toIntS.calls kj17 _ _ l3 t222 _ ?side1 ?side2 A63.out).mono ?_); (case side1 => exact B.kc (Kd.C_below HR3.out HB.out)); (case side2 => exact HC3.out); rintro e w73 ⟨v223, rfl, ho0, hb⟩; refine ⟨_, rfl, ?_⟩; have n0_ := Aside0.mk (Kd.R_elder' (B.kr HO_13) (Kd.R_base ho0) hb); have n1_ := Aside0.mk (Kd.R_elder' (B.kr HO_196003) (Kd.R_base ho0) hb); have n2_ := Aside0.mk (Kd.R_elder' (B.kr HO_203003) (Kd.R_base ho0) hb); have n3_ := Aside0.mk (Kd.R_elder' (B.kr HO_214003) (Kd.R_base ho0) hb); have n4_ := Aside0.mk (Kd.R_elder' (B.kr HO220) (Kd.R_base ho0) hb); have n5_ := Aside0.mk (Kd.R_lower (Kd.R_new' (Kd.R_new' (Kd.R_new' (Kd.R_new' (Kd.R_new' ho0 (Kd.R_lt (B.kr HO_13))) (Kd.R_lt (B.kr HO_196003))) (Kd.R_lt (B.kr HO_203003))) (Kd.R_lt (B.kr HO_214003))) (Kd.R_lt (B.kr HO220))) (below_size (B.bl HB))); have n6_ := Aside0.mk (blk_below (B.kb BK177) hb); have n7_ := Aside0.mk (blk_below (B.kb BK195) hb); have n8_ := Aside0.mk (blk_below (B.kb BK202) hb); have n9_ := Aside0.mk (blk_below (B.kb BK213) hb); have n10_ := Aside0.mk (below_step (B.bl HB) hb); clear HO_13 HO_196003 HO_203003 HO_214003 HO220 BK177 BK195 BK202 BK213 HB; have HO_13 := n0_; have HO_196003 := n1_; have HO_203003 := n2_; have HO_214003 := n3_; have HO220 := n4_; have HO224 := n5_; have BK177 := n6_; have BK195 := n7_; have BK202 := n8_; have BK213 := n9_; have HB := n10_; clear n0_ n1_ n2_ n3_ n4_ n5_ n6_ n7_ n8_ n9_ n10_; (try clear hb); (try clear hb2); (try clear hk); (try clear hi); (try clear ho0); obtain ⟨Ao74, co74, eo74⟩ := Kd.R_slice HO224.out; subst eo74) | ((with_reducible refine gate_callee (f := 19) rfl ?_); refine goesL_ (some 68) rfl rfl Try.func19 (by kernel_rfl) rfl #[.slice Ao41 t203.length co41, .slice Ao74 t222.length co74] rfl B.am ?_; (with_reducible refine (laws_eqIntS.calls kj17 _ _ t203 _ _ t222 true _ ?side1 ?side2 ?side3 ?side4 A64.out).mono ?_); (case side1 => exact B.kc ((Kd.R_reads' HO_13.out).2.2)); (case side2 => exact (Kd.R_reads' HO_13.out).2.1); (case side3 => exact B.kc ((Kd.R_reads' HO224.out).2.2)); (case side4 => exact (Kd.R_reads' HO224.out).2.1); rintro e w' ⟨rfl, ⟨nd, rfl⟩⟩; refine ⟨_, rfl, ?_⟩; have hnb75 := NB202_177.out; have hnc75 := NB177_202.out; have hnb76 := NB202_195.out; have hnc76 := NB195_202.out; have hnb77 := NB202_213.out; have hnc77 := NB213_202.out; have hcz78_0 : w73.cell? ⟨gb202, 0, none⟩ = some (.int .i64 t196) := B.bc BK202 0; have hcz78_1 : w73.cell? ⟨gb202, 1, none⟩ = some (.int .i64 t197) := B.bc BK202 1; have hcz78_2 : w73.cell? ⟨gb202, 2, none⟩ = some (.int .i64 t198) := B.bc BK202 2; have hcz78_3 : w73.cell? ⟨gb202, 3, none⟩ = some (.slice Ao38 t199.length co38) := B.bc BK202 3; have hfz78_0 := blk_frozen BK202.out 0; have hfz78_1 := blk_frozen BK202.out 1; have hfz78_2 := blk_frozen BK202.out 2; have hfz78_3 := blk_frozen BK202.out 3) | ((with_reducible refine gate_callee (f := 21) rfl ?_); refine goesL_ (some 72) rfl rfl Try.func21 (by kernel_rfl) rfl #[.agg #[.int .i64 t196, .int .i64 t197, .int .i64 t198, .slice Ao38 t199.length co38], .int .i64 1] rfl B.am ?_; (with_reducible refine (laws_markImage.calls kj17 t196 t197 t198 (fun k_ => some k_ = (.slice Ao38 t199.length co38 : Value).ownBlock) (.slice Ao38 t199.length co38) t199 1 t226 t227 w _ ?side1 ?side2 A66.out).mono ?_); (case side1 => exact B.bl HB); (case side2 => exact Kd.R_tight rfl HO_203003.out); rintro e w79 ⟨rfl, hy0, hb, hkp⟩; refine ⟨_, rfl, ?_⟩; have n0_ := Aside0.mk (Kd.R_mono (ok' := fun k_ => some k_ ≠ (.slice Ao31 t191.length co31 : Value).ownBlock ∧ some k_ ≠ (.slice Ao38 t199.length co38 : Value).ownBlock ∧ some k_ ≠ (.slice Ao48 t209.length co48 : Value).ownBlock ∧ some k_ ≠ (.slice Ao71 t218.length co71 : Value).ownBlock ∧ some k_ ≠ (.slice Ao74 t222.length co74 : Value).ownBlock) (Kd.R_keptB (HO_13.out) hkp (fun k_ hk_ hs_ => (hk_.1.1.2.1) hs_)) (fun k_ hk_ => ⟨hk_.1.1.1.1, hk_.1.1.1.2.1, hk_.1.1.1.2.2, hk_.1.1.2, hk_.1.2⟩)); have n1_ := Aside0.mk (Kd.R_mono (ok' := fun k_ => some k_ ≠ (.slice Ao41 t203.length co41 : Value).ownBlock ∧ some k_ ≠ (.slice Ao38 t199.length co38 : Value).ownBlock ∧ some k_ ≠ (.slice Ao48 t209.length co48 : Value).ownBlock ∧ some k_ ≠ (.slice Ao71 t218.length co71 : Value).ownBlock ∧ some k_ ≠ (.slice Ao74 t222.length co74 : Value).ownBlock) (Kd.R_keptB (HO_196003.out) hkp (fun k_ hk_ hs_ => (hk_.1.1.2.1) hs_)) (fun k_ hk_ => ⟨hk_.1.1.1.1, hk_.1.1.1.2.1, hk_.1.1.1.2.2, hk_.1.1.2, hk_.1.2⟩)); have n2_ := Aside0.mk (Kd.R_reok rfl hy0 (fun k_ e_ => HO_203003.out.1 k_ e_)); have n3_ := Aside0.mk (Kd.R_mono (ok' := fun k_ => some k_ ≠ (.slice Ao41 t203.length co41 : Value).ownBlock ∧ some k_ ≠ (.slice Ao31 t191.length co31 : Value).ownBlock ∧ some k_ ≠ (.slice Ao38 t199.length co38 : Value).ownBlock ∧ some k_ ≠ (.slice Ao71 t218.length co71 : Value).ownBlock ∧ some k_ ≠ (.slice Ao74 t222.length co74 : Value).ownBlock) (Kd.R_keptB (HO_214003.out) hkp (fun k_ hk_ hs_ => (hk_.1.1.2.2) hs_)) (fun k_ hk_ => ⟨hk_.1.1.1.1, hk_.1.1.1.2.1, hk_.1.1.1.2.2, hk_.1.1.2, hk_.1.2⟩)); have n4_ := Aside0.mk (blk_kept (B.kb BK177) hkp (fun hs_ => (fun e_ => (Kd.R_ne HO_203003.out BK177.out (by decide)) e_) hs_)); have n5_ := Aside0.mk (blk_kept (B.kb BK195) hkp (fun hs_ => (fun e_ => (Kd.R_ne HO_203003.out BK195.out (by decide)) e_) hs_)); have n6_ := Aside0.mk (blk_kept (B.kb BK202) hkp (fun hs_ => (fun e_ => (Kd.R_ne HO_203003.out BK202.out (by decide)) e_) hs_)); have n7_ := Aside0.mk (blk_kept (B.kb BK213) hkp (fun hs_ => (fun e_ => (Kd.R_ne HO_203003.out BK213.out (by decide)) e_) hs_)); have n8_ := Aside0.mk (Kd.R_mono (ok' := fun k_ => some k_ ≠ (.slice Ao41 t203.length co41 : Value).ownBlock ∧ some k_ ≠ (.slice Ao31 t191.length co31 : Value).ownBlock ∧ some k_ ≠ (.slice Ao38 t199.length co38 : Value).ownBlock ∧ some k_ ≠ (.slice Ao48 t209.length co48 : Value).ownBlock ∧ some k_ ≠ (.slice Ao74 t222.length co74 : Value).ownBlock) (Kd.R_keptB (HO220.out) hkp (fun k_ hk_ hs_ => (hk_.1.1.2) hs_)) (fun k_ hk_ => ⟨hk_.1.1.1.1.1.2, hk_.1.1.1.1.2, hk_.1.1.1.2, hk_.1.1.2, hk_.1.2⟩)); have n9_ := Aside0.mk (Kd.R_mono (ok' := fun k_ => some k_ ≠ (.slice Ao41 t203.length co41 : Value).ownBlock ∧ some k_ ≠ (.slice Ao31 t191.length co31 : Value).ownBlock ∧ some k_ ≠ (.slice Ao38 t199.length co38 : Value).ownBlock ∧ some k_ ≠ (.slice Ao48 t209.length co48 : Value).ownBlock ∧ some k_ ≠ (.slice Ao71 t218.length co71 : Value).ownBlock) (Kd.R_keptB (HO224.out) hkp (fun k_ hk_ hs_ => (hk_.1.1.2) hs_)) (fun k_ hk_ => ⟨hk_.1.1.1.1.1.2, hk_.1.1.1.1.2, hk_.1.1.1.2, hk_.1.1.2, hk_.1.2⟩)); have n10_ := Aside0.mk (hb); clear HO_13 HO_196003 HO_203003 HO_214003 BK177 BK195 BK202 BK213 HO220 HO224 HB; have HO_13 := n0_; have HO_196003 := n1_; have HO_203003 := n2_; have HO_214003 := n3_; have BK177 := n4_; have BK195 := n5_; have BK202 := n6_; have BK213 := n7_; have HO220 := n8_; have HO224 := n9_; have HB := n10_; clear n0_ n1_ n2_ n3_ n4_ n5_ n6_ n7_ n8_ n9_ n10_; (try clear hb); (try clear hkp); (try clear hy0)) | ((with_reducible refine gate_callee (f := 20) rfl ?_); refine goesL_ (some 75) rfl rfl Try.func20 (by kernel_rfl) rfl #[.slice Ao41 t203.length co41, .int .i64 t226] rfl B.am ?_; (with_reducible refine (laws_markIntS.calls kj17 (fun k_ => some k_ = (.slice Ao41 t203.length co41 : Value).ownBlock) (.slice Ao41 t203.length co41) t203 t226 t228 t229 w _ ?side1 ?side2 A67.out).mono ?_); (case side1 => exact B.bl HB); (case side2 => exact Kd.R_tight rfl HO_13.out); rintro e w80 ⟨rfl, hy0, hb, hkp⟩; refine ⟨_, rfl, ?_⟩; have n0_ := Aside0.mk (Kd.R_reok rfl hy0 (fun k_ e_ => HO_13.out.1 k_ e_)); have n1_ := Aside0.mk (Kd.R_mono (ok' := fun k_ => some k_ ≠ (.slice Ao41 t203.length co41 : Value).ownBlock ∧ some k_ ≠ (.slice Ao38 t199.length co38 : Value).ownBlock ∧ some k_ ≠ (.slice Ao48 t209.length co48 : Value).ownBlock ∧ some k_ ≠ (.slice Ao71 t218.length co71 : Value).ownBlock ∧ some k_ ≠ (.slice Ao74 t222.length co74 : Value).ownBlock) (Kd.R_keptB (HO_196003.out) hkp (fun k_ hk_ hs_ => (hk_.1) hs_)) (fun k_ hk_ => ⟨hk_.1.1, hk_.1.2.1, hk_.1.2.2.1, hk_.1.2.2.2.1, hk_.1.2.2.2.2⟩)); have n2_ := Aside0.mk (Kd.R_mono (ok' := fun k_ => some k_ ≠ (.slice Ao41 t203.length co41 : Value).ownBlock ∧ some k_ ≠ (.slice Ao31 t191.length co31 : Value).ownBlock ∧ some k_ ≠ (.slice Ao48 t209.length co48 : Value).ownBlock ∧ some k_ ≠ (.slice Ao71 t218.length co71 : Value).ownBlock ∧ some k_ ≠ (.slice Ao74 t222.length co74 : Value).ownBlock) (Kd.R_keptB (HO_203003.out) hkp (fun k_ hk_ hs_ => (hk_.1.1.1) hs_)) (fun k_ hk_ => ⟨hk_.1.1.1.1, hk_.1.1.1.2.1, hk_.1.1.1.2.2, hk_.1.1.2, hk_.1.2⟩)); have n3_ := Aside0.mk (Kd.R_mono (ok' := fun k_ => some k_ ≠ (.slice Ao41 t203.length co41 : Value).ownBlock ∧ some k_ ≠ (.slice Ao31 t191.length co31 : Value).ownBlock ∧ some k_ ≠ (.slice Ao38 t199.length co38 : Value).ownBlock ∧ some k_ ≠ (.slice Ao71 t218.length co71 : Value).ownBlock ∧ some k_ ≠ (.slice Ao74 t222.length co74 : Value).ownBlock) (Kd.R_keptB (HO_214003.out) hkp (fun k_ hk_ hs_ => (hk_.1) hs_)) (fun k_ hk_ => ⟨hk_.1.1, hk_.1.2.1, hk_.1.2.2.1, hk_.1.2.2.2.1, hk_.1.2.2.2.2⟩)); have n4_ := Aside0.mk (blk_kept (B.kb BK177) hkp (fun hs_ => (fun e_ => (Kd.R_ne HO_13.out BK177.out (by decide)) e_) hs_)); have n5_ := Aside0.mk (blk_kept (B.kb BK195) hkp (fun hs_ => (fun e_ => (Kd.R_ne HO_13.out BK195.out (by decide)) e_) hs_)); have n6_ := Aside0.mk (blk_kept (B.kb BK202) hkp (fun hs_ => (fun e_ => (Kd.R_ne HO_13.out BK202.out (by decide)) e_) hs_)); have n7_ := Aside0.mk (blk_kept (B.kb BK213) hkp (fun hs_ => (fun e_ => (Kd.R_ne HO_13.out BK213.out (by decide)) e_) hs_)); have n8_ := Aside0.mk (Kd.R_mono (ok' := fun k_ => some k_ ≠ (.slice Ao41 t203.length co41 : Value).ownBlock ∧ some k_ ≠ (.slice Ao31 t191.length co31 : Value).ownBlock ∧ some k_ ≠ (.slice Ao38 t199.length co38 : Value).ownBlock ∧ some k_ ≠ (.slice Ao48 t209.length co48 : Value).ownBlock ∧ some k_ ≠ (.slice Ao74 t222.length co74 : Value).ownBlock) (Kd.R_keptB (HO220.out) hkp (fun k_ hk_ hs_ => (hk_.1) hs_)) (fun k_ hk_ => ⟨hk_.1.1, hk_.1.2.1, hk_.1.2.2.1, hk_.1.2.2.2.1, hk_.1.2.2.2.2⟩)); have n9_ := Aside0.mk (Kd.R_mono (ok' := fun k_ => some k_ ≠ (.slice Ao41 t203.length co41 : Value).ownBlock ∧ some k_ ≠ (.slice Ao31 t191.length co31 : Value).ownBlock ∧ some k_ ≠ (.slice Ao38 t199.length co38 : Value).ownBlock ∧ some k_ ≠ (.slice Ao48 t209.length co48 : Value).ownBlock ∧ some k_ ≠ (.slice Ao71 t218.length co71 : Value).ownBlock) (Kd.R_keptB (HO224.out) hkp (fun k_ hk_ hs_ => (hk_.1) hs_)) (fun k_ hk_ => ⟨hk_.1.1, hk_.1.2.1, hk_.1.2.2.1, hk_.1.2.2.2.1, hk_.1.2.2.2.2⟩)); have n10_ := Aside0.mk (hb); clear HO_13 HO_196003 HO_203003 HO_214003 BK177 BK195 BK202 BK213 HO220 HO224 HB; have HO_13 := n0_; have HO_196003 := n1_; have HO_203003 := n2_; have HO_214003 := n3_; have BK177 := n4_; have BK195 := n5_; have BK202 := n6_; have BK213 := n7_; have HO220 := n8_; have HO224 := n9_; have HB := n10_; clear n0_ n1_ n2_ n3_ n4_ n5_ n6_ n7_ n8_ n9_ n10_; (try clear hb); (try clear hkp); (try clear hy0)))
          (try simp only [Act.put, List.setIfInBounds_toArray, List.set_cons_zero, List.set_cons_succ])
          go_cut [88] (fun v88 wc => ∃ (kq : Nat) (x88_67 : Bool), v88 = .bool x88_67 ∧ Aside0 (laws_FnExactSetPixel.j1 kq a1 a2 l3 t194 x88_67 a0_0 a0_1 a0_2 l0_3 t188 t189 t190 t191 t206 t207 t208 t209 = some r) ∧ Aside0 (kq ≤ kj17) ∧ Aside0 (Kd.R (Kd.int .i64) 3 wc w.heap.size (fun k_ => some k_ ≠ ((.slice Ao38 t199.length co38) : Value).ownBlock ∧ some k_ ≠ ((.slice Ao48 t209.length co48) : Value).ownBlock) (.slice Ao31 t191.length co31) t191) ∧ Aside0 (Kd.R (Kd.int .i64) 3 wc w.heap.size (fun k_ => some k_ ≠ ((.slice Ao31 t191.length co31) : Value).ownBlock ∧ some k_ ≠ ((.slice Ao48 t209.length co48) : Value).ownBlock) (.slice Ao38 t199.length co38) t227) ∧ Aside0 (Kd.R (Kd.int .i64) 3 wc w.heap.size (fun k_ => some k_ ≠ ((.slice Ao31 t191.length co31) : Value).ownBlock ∧ some k_ ≠ ((.slice Ao38 t199.length co38) : Value).ownBlock) (.slice Ao48 t209.length co48) t209) ∧ Aside0 (wc.heap[gb177]? = some (.cells #[.int .i64 a0_0, .int .i64 a0_1, .int .i64 a0_2, (.slice A0_3 l0_3.length c0_3)] 24 (0, 0))) ∧ Aside0 (wc.heap[gb195]? = some (.cells #[.int .i64 t188, .int .i64 t189, .int .i64 t190, (.slice Ao31 t191.length co31)] 27 (0, 0))) ∧ Aside0 (wc.heap[gb202]? = some (.cells #[.int .i64 t196, .int .i64 t197, .int .i64 t198, (.slice Ao38 t199.length co38)] 27 (0, 0))) ∧ Aside0 (wc.heap[gb213]? = some (.cells #[.int .i64 t206, .int .i64 t207, .int .i64 t208, (.slice Ao48 t209.length co48)] 27 (0, 0))) ∧ Aside0 (Below w.heap.size w wc))
          case first =>
            have H := HC68.out
            clear HC68
            by_cases c81 : t228 < 0
            · rw [if_pos c81] at H
              have c81b0 : decide (t228 < 0) = true := decide_eq_true c81
              clear c81
              (first | rw [c81b0] | (simp only [i64_w, i32_w]; rw [c81b0]) | skip)
              exact absurd ht_.out (by revert H; cases kj17 <;> intro H <;> simp [laws_FnExactSetPixel.j1] at H <;> (first | (subst H; decide) | simp [← H] | simp [H]))
            rw [if_neg c81] at H
            have c81b0 : decide (t228 < 0) = false := decide_eq_false c81
            clear c81
            (first | rw [c81b0] | (simp only [i64_w, i32_w]; rw [c81b0]) | skip)
            replace H := Option.bind_eq_some_iff.mp H
            obtain ⟨t230, A820, H⟩ := H
            replace H : (if t230 = true then (laws_FnExactSetPixel.j1 kj17 a1 a2 l3 t194 (t212 != t194) a0_0 a0_1 a0_2 l0_3 t188 t189 t190 t191 t206 t207 t208 t209) else (laws_FnExactSetPixel.j1 kj17 a1 a2 l3 t194 true a0_0 a0_1 a0_2 l0_3 t188 t189 t190 t191 t206 t207 t208 t209)) = some r := H
            have A82 := Aside0.mk A820
            clear A820
            by_cases c83 : t230 = true
            · subst c83
              have H1 : (laws_FnExactSetPixel.j1 kj17 a1 a2 l3 t194 (t212 != t194) a0_0 a0_1 a0_2 l0_3 t188 t189 t190 t191 t206 t207 t208 t209) = some r := by rw [if_pos rfl] at H; exact H
              clear H
              have H := H1
              clear H1
              have H' := Aside0.mk H
              clear H
              have hnb84 := NB213_177.out
              have hnc84 := NB177_213.out
              have hnb85 := NB213_195.out
              have hnc85 := NB195_213.out
              have hnb86 := NB213_202.out
              have hnc86 := NB202_213.out
              have hcz87_0 : w80.cell? ⟨gb213, 0, none⟩ = some (.int .i64 t206) := B.bc BK213 0
              have hcz87_1 : w80.cell? ⟨gb213, 1, none⟩ = some (.int .i64 t207) := B.bc BK213 1
              have hcz87_2 : w80.cell? ⟨gb213, 2, none⟩ = some (.int .i64 t208) := B.bc BK213 2
              have hcz87_3 : w80.cell? ⟨gb213, 3, none⟩ = some (.slice Ao48 t209.length co48) := B.bc BK213 3
              have hfz87_0 := blk_frozen BK213.out 0
              have hfz87_1 := blk_frozen BK213.out 1
              have hfz87_2 := blk_frozen BK213.out 2
              have hfz87_3 := blk_frozen BK213.out 3
              have hnb88 := NB195_177.out
              have hnc88 := NB177_195.out
              have hnb89 := NB195_202.out
              have hnc89 := NB202_195.out
              have hcz90_0 : w80.cell? ⟨gb195, 0, none⟩ = some (.int .i64 t188) := B.bc BK195 0
              have hcz90_1 : w80.cell? ⟨gb195, 1, none⟩ = some (.int .i64 t189) := B.bc BK195 1
              have hcz90_2 : w80.cell? ⟨gb195, 2, none⟩ = some (.int .i64 t190) := B.bc BK195 2
              have hcz90_3 : w80.cell? ⟨gb195, 3, none⟩ = some (.slice Ao31 t191.length co31) := B.bc BK195 3
              have hfz90_0 := blk_frozen BK195.out 0
              have hfz90_1 := blk_frozen BK195.out 1
              have hfz90_2 := blk_frozen BK195.out 2
              have hfz90_3 := blk_frozen BK195.out 3
              go_wp2_with (first | (go_at_call 15; (with_reducible refine (laws_eqImage.calls kj17 t206 t207 t208 _ _ t209 t188 t189 t190 _ _ t191 true _ ?side1 ?side2 ?side3 ?side4 A82.out).mono ?_); (case side1 => exact B.kc ((Kd.R_reads' HO_214003.out).2.2)); (case side2 => exact (Kd.R_reads' HO_214003.out).2.1); (case side3 => exact B.kc ((Kd.R_reads' HO_196003.out).2.2)); (case side4 => exact (Kd.R_reads' HO_196003.out).2.1); rintro e w91 ⟨rfl, hb⟩; have n0_ := Aside0.mk (Kd.R_below (B.kr HO_13) hb); have n1_ := Aside0.mk (Kd.R_below (B.kr HO_196003) hb); have n2_ := Aside0.mk (Kd.R_below (B.kr HO_203003) hb); have n3_ := Aside0.mk (Kd.R_below (B.kr HO_214003) hb); have n4_ := Aside0.mk (Kd.R_below (B.kr HO220) hb); have n5_ := Aside0.mk (Kd.R_below (B.kr HO224) hb); have n6_ := Aside0.mk (blk_below (B.kb BK177) hb); have n7_ := Aside0.mk (blk_below (B.kb BK195) hb); have n8_ := Aside0.mk (blk_below (B.kb BK202) hb); have n9_ := Aside0.mk (blk_below (B.kb BK213) hb); have n10_ := Aside0.mk (below_step (B.bl HB) hb); clear HO_13 HO_196003 HO_203003 HO_214003 HO220 HO224 BK177 BK195 BK202 BK213 HB; have HO_13 := n0_; have HO_196003 := n1_; have HO_203003 := n2_; have HO_214003 := n3_; have HO220 := n4_; have HO224 := n5_; have BK177 := n6_; have BK195 := n7_; have BK202 := n8_; have BK213 := n9_; have HB := n10_; clear n0_ n1_ n2_ n3_ n4_ n5_ n6_ n7_ n8_ n9_ n10_; (try clear hb); (try clear hb2); (try clear hk); (try clear hi)))
              go_meet
              case rel => exact ⟨_, ((t212 != t194)), (by first | rfl | (simp; done) | (simp [*]; done)), H', ⟨by have := HJ17.out; first | omega | exact Nat.le_refl _⟩, ⟨B.kr0 (Kd.R_mono HO_196003.out (fun _ hk => ⟨hk.2.1, hk.2.2.1⟩))⟩, ⟨B.kr0 (Kd.R_mono HO_203003.out (fun _ hk => ⟨hk.2.1, hk.2.2.1⟩))⟩, ⟨B.kr0 (Kd.R_mono HO_214003.out (fun _ hk => ⟨hk.2.1, hk.2.2.1⟩))⟩, ⟨B.kb BK177⟩, ⟨B.kb BK195⟩, ⟨B.kb BK202⟩, ⟨B.kb BK213⟩, ⟨B.bl HB⟩⟩
            replace c83 := Bool.eq_false_iff.mpr c83
            subst c83
            have H1 : (laws_FnExactSetPixel.j1 kj17 a1 a2 l3 t194 true a0_0 a0_1 a0_2 l0_3 t188 t189 t190 t191 t206 t207 t208 t209) = some r := by rw [if_neg (show ¬ (false = true) by decide)] at H; exact H
            clear H
            have H := H1
            clear H1
            exact absurd ht_.out (by revert H; cases kj17 <;> intro H <;> simp [laws_FnExactSetPixel.j1] at H <;> (first | (subst H; decide) | simp [← H] | simp [H]))
          case rest =>
            clear HC68
            try clear c1
            try clear c2
            try clear p2
            try clear c3
            try clear c4
            try clear c5
            try clear c5b0
            try clear c5b1
            try clear c6
            try clear c7
            try clear c8
            try clear c8b0
            try clear c9
            try clear c11
            try clear c13
            try clear c15
            try clear c17
            try clear c19
            try clear c20
            try clear c21
            try clear c29
            try clear c32
            try clear c33
            try clear c35
            try clear c36
            try clear c44
            try clear c45
            try clear c46
            try clear c50
            try clear c51
            try clear c52
            try clear c53
            try clear c55
            try clear c56
            try clear c59
            try clear c62
            try clear c65
            try clear c75
            try clear c76
            try clear c77
            try clear c81
            try clear c81b0
            try clear c83
            try clear c84
            try clear c85
            try clear c86
            try clear c88
            try clear c89
            try clear hcz10_0
            try clear hcz10_1
            try clear hcz10_2
            try clear hcz10_3
            try clear hcz20_0
            try clear hcz20_1
            try clear hcz20_2
            try clear hcz20_3
            try clear hcz22_0
            try clear hcz22_1
            try clear hcz22_2
            try clear hcz22_3
            try clear hcz30_0
            try clear hcz30_1
            try clear hcz30_2
            try clear hcz30_3
            try clear hcz32_0
            try clear hcz32_1
            try clear hcz32_2
            try clear hcz32_3
            try clear hcz37_0
            try clear hcz37_1
            try clear hcz37_2
            try clear hcz37_3
            try clear hcz40_0
            try clear hcz40_1
            try clear hcz40_2
            try clear hcz40_3
            try clear hcz47_0
            try clear hcz47_1
            try clear hcz47_2
            try clear hcz47_3
            try clear hcz54_0
            try clear hcz54_1
            try clear hcz54_2
            try clear hcz54_3
            try clear hcz57_0
            try clear hcz57_1
            try clear hcz57_2
            try clear hcz57_3
            try clear hcz78_0
            try clear hcz78_1
            try clear hcz78_2
            try clear hcz78_3
            try clear hcz87_0
            try clear hcz87_1
            try clear hcz87_2
            try clear hcz87_3
            try clear hcz90_0
            try clear hcz90_1
            try clear hcz90_2
            try clear hcz90_3
            try clear hfz10_0
            try clear hfz10_1
            try clear hfz10_2
            try clear hfz10_3
            try clear hfz20_0
            try clear hfz20_1
            try clear hfz20_2
            try clear hfz20_3
            try clear hfz22_0
            try clear hfz22_1
            try clear hfz22_2
            try clear hfz22_3
            try clear hfz30_0
            try clear hfz30_1
            try clear hfz30_2
            try clear hfz30_3
            try clear hfz32_0
            try clear hfz32_1
            try clear hfz32_2
            try clear hfz32_3
            try clear hfz37_0
            try clear hfz37_1
            try clear hfz37_2
            try clear hfz37_3
            try clear hfz40_0
            try clear hfz40_1
            try clear hfz40_2
            try clear hfz40_3
            try clear hfz47_0
            try clear hfz47_1
            try clear hfz47_2
            try clear hfz47_3
            try clear hfz54_0
            try clear hfz54_1
            try clear hfz54_2
            try clear hfz54_3
            try clear hfz57_0
            try clear hfz57_1
            try clear hfz57_2
            try clear hfz57_3
            try clear hfz78_0
            try clear hfz78_1
            try clear hfz78_2
            try clear hfz78_3
            try clear hfz87_0
            try clear hfz87_1
            try clear hfz87_2
            try clear hfz87_3
            try clear hfz90_0
            try clear hfz90_1
            try clear hfz90_2
            try clear hfz90_3
            try clear p2
            obtain ⟨kq, x88_67, rfl, HA, HJ67, HO_196003, HO_203003, HO_214003, BK177, BK195, BK202, BK213, HB⟩ := hcut
            have hl203003_67 := (Kd.R_reads' HO_203003.out).1
            rw [hl203003_67] at HO_203003
            (try simp only [hl203003_67])
            (try simp only [hl203003_67] at BK177)
            (try simp only [hl203003_67] at BK195)
            (try simp only [hl203003_67] at BK202)
            (try simp only [hl203003_67] at BK213)
            (try simp only [hl203003_67] at HO_196003)
            (try simp only [hl203003_67] at HO_214003)
            cases kq with
            | zero => exact absurd HA.out (by simp [laws_FnExactSetPixel.j1])
            | succ kj67 =>
              have H := HA.out
              clear HA
              simp only [laws_FnExactSetPixel.j1] at H
              by_cases c92 : x88_67 = true
              · subst c92
                have H1 : (some false) = some r := by rw [if_pos rfl] at H; exact H
                clear H
                have H := H1
                clear H1
                obtain rfl := Option.some.inj H
                exact absurd ht_.out (by decide)
              replace c92 := Bool.eq_false_iff.mpr c92
              subst c92
              have H1 : ((laws_markImage.f kj67 t206 t207 t208 t209 1).bind fun bt231 => ((laws_heldImage.f kj67 t206 t207 t208 bt231.2 1).bind fun t233 => (if t233 < 0 then (some false) else (if t233 = bt231.1 then ((laws_toImage.f kj67 a0_0 a0_1 a0_2 l0_3).bind fun bt234 => ((laws_toIntS.f kj67 l3).bind fun t240 => ((impl_SetPixel.f bt234.1 bt234.2.1 bt234.2.2.1 bt234.2.2.2 a1 a2 t240).bind fun bt243 => ((laws_eqImage.f kj67 bt243.1 bt243.2.1 bt243.2.2.1 bt243.2.2.2.1 t188 t189 t190 t191).bind fun t251 => (if t251 = true then (laws_FnExactSetPixel.j2 kj67 bt231.1 (bt243.2.2.2.2 != t194) t206 t207 t208 bt231.2) else (laws_FnExactSetPixel.j2 kj67 bt231.1 true t206 t207 t208 bt231.2)))))) else (some false))))) = some r := by rw [if_neg (show ¬ (false = true) by decide)] at H; exact H
              clear H
              have H := H1
              clear H1
              replace H := Option.bind_eq_some_iff.mp H
              obtain ⟨⟨t231, t232⟩, A930, H⟩ := H
              replace H : ((laws_heldImage.f kj67 t206 t207 t208 t232 1).bind fun t233 => (if t233 < 0 then (some false) else (if t233 = t231 then ((laws_toImage.f kj67 a0_0 a0_1 a0_2 l0_3).bind fun bt234 => ((laws_toIntS.f kj67 l3).bind fun t240 => ((impl_SetPixel.f bt234.1 bt234.2.1 bt234.2.2.1 bt234.2.2.2 a1 a2 t240).bind fun bt243 => ((laws_eqImage.f kj67 bt243.1 bt243.2.1 bt243.2.2.1 bt243.2.2.2.1 t188 t189 t190 t191).bind fun t251 => (if t251 = true then (laws_FnExactSetPixel.j2 kj67 t231 (bt243.2.2.2.2 != t194) t206 t207 t208 t232) else (laws_FnExactSetPixel.j2 kj67 t231 true t206 t207 t208 t232)))))) else (some false)))) = some r := H
              have A93 := Aside0.mk A930
              clear A930
              replace H := Option.bind_eq_some_iff.mp H
              obtain ⟨t233, A940, H⟩ := H
              replace H : (if t233 < 0 then (some false) else (if t233 = t231 then ((laws_toImage.f kj67 a0_0 a0_1 a0_2 l0_3).bind fun bt234 => ((laws_toIntS.f kj67 l3).bind fun t240 => ((impl_SetPixel.f bt234.1 bt234.2.1 bt234.2.2.1 bt234.2.2.2 a1 a2 t240).bind fun bt243 => ((laws_eqImage.f kj67 bt243.1 bt243.2.1 bt243.2.2.1 bt243.2.2.2.1 t188 t189 t190 t191).bind fun t251 => (if t251 = true then (laws_FnExactSetPixel.j2 kj67 t231 (bt243.2.2.2.2 != t194) t206 t207 t208 t232) else (laws_FnExactSetPixel.j2 kj67 t231 true t206 t207 t208 t232)))))) else (some false))) = some r := H
              have A94 := Aside0.mk A940
              clear A940
              by_cases c95 : t233 < 0
              · rw [if_pos c95] at H
                have c95b0 : decide (t233 < 0) = true := decide_eq_true c95
                clear c95
                obtain rfl := Option.some.inj H
                exact absurd ht_.out (by decide)
              rw [if_neg c95] at H
              have c95b0 : decide (t233 < 0) = false := decide_eq_false c95
              clear c95
              by_cases c96 : t233 = t231
              · rw [if_pos c96] at H
                have c96b0 : (t233 == t231) = true := beq_iff_eq.mpr c96
                have c96b1 : (t233 != t231) = false := bne_eq_false_iff_eq.mpr c96
                clear c96
                replace H := Option.bind_eq_some_iff.mp H
                obtain ⟨⟨t234, t235, t236, t237⟩, A970, H⟩ := H
                replace H : ((laws_toIntS.f kj67 l3).bind fun t240 => ((impl_SetPixel.f t234 t235 t236 t237 a1 a2 t240).bind fun bt243 => ((laws_eqImage.f kj67 bt243.1 bt243.2.1 bt243.2.2.1 bt243.2.2.2.1 t188 t189 t190 t191).bind fun t251 => (if t251 = true then (laws_FnExactSetPixel.j2 kj67 t231 (bt243.2.2.2.2 != t194) t206 t207 t208 t232) else (laws_FnExactSetPixel.j2 kj67 t231 true t206 t207 t208 t232))))) = some r := H
                have A97 := Aside0.mk A970
                clear A970
                replace H := Option.bind_eq_some_iff.mp H
                obtain ⟨t240, A980, H⟩ := H
                replace H : ((impl_SetPixel.f t234 t235 t236 t237 a1 a2 t240).bind fun bt243 => ((laws_eqImage.f kj67 bt243.1 bt243.2.1 bt243.2.2.1 bt243.2.2.2.1 t188 t189 t190 t191).bind fun t251 => (if t251 = true then (laws_FnExactSetPixel.j2 kj67 t231 (bt243.2.2.2.2 != t194) t206 t207 t208 t232) else (laws_FnExactSetPixel.j2 kj67 t231 true t206 t207 t208 t232)))) = some r := H
                have A98 := Aside0.mk A980
                clear A980
                replace H := Option.bind_eq_some_iff.mp H
                obtain ⟨⟨t243, t244, t245, t246, t249⟩, A990, H⟩ := H
                replace H : ((laws_eqImage.f kj67 t243 t244 t245 t246 t188 t189 t190 t191).bind fun t251 => (if t251 = true then (laws_FnExactSetPixel.j2 kj67 t231 (t249 != t194) t206 t207 t208 t232) else (laws_FnExactSetPixel.j2 kj67 t231 true t206 t207 t208 t232))) = some r := H
                have A99 := Aside0.mk A990
                clear A990
                have HC100 := Aside0.mk H
                clear H
                have hnb101 := NB213_177.out
                have hnc101 := NB177_213.out
                have hnb102 := NB213_195.out
                have hnc102 := NB195_213.out
                have hnb103 := NB213_202.out
                have hnc103 := NB202_213.out
                have hcz104_0 : wc.cell? ⟨gb213, 0, none⟩ = some (.int .i64 t206) := B.bc BK213 0
                have hcz104_1 : wc.cell? ⟨gb213, 1, none⟩ = some (.int .i64 t207) := B.bc BK213 1
                have hcz104_2 : wc.cell? ⟨gb213, 2, none⟩ = some (.int .i64 t208) := B.bc BK213 2
                have hcz104_3 : wc.cell? ⟨gb213, 3, none⟩ = some (.slice Ao48 t209.length co48) := B.bc BK213 3
                have hfz104_0 := blk_frozen BK213.out 0
                have hfz104_1 := blk_frozen BK213.out 1
                have hfz104_2 := blk_frozen BK213.out 2
                have hfz104_3 := blk_frozen BK213.out 3
                go_upto_region 31 with (first | ((with_reducible refine gate_callee (f := 21) rfl ?_); refine goesL_ (some 91) rfl rfl Try.func21 (by kernel_rfl) rfl #[.agg #[.int .i64 t206, .int .i64 t207, .int .i64 t208, .slice Ao48 t209.length co48], .int .i64 1] rfl B.am ?_; (with_reducible refine (laws_markImage.calls kj67 t206 t207 t208 (fun k_ => some k_ = (.slice Ao48 t209.length co48 : Value).ownBlock) (.slice Ao48 t209.length co48) t209 1 t231 t232 w _ ?side1 ?side2 A93.out).mono ?_); (case side1 => exact B.bl HB); (case side2 => exact Kd.R_tight rfl HO_214003.out); rintro e w105 ⟨rfl, hy0, hb, hkp⟩; refine ⟨_, rfl, ?_⟩; have n0_ := Aside0.mk (Kd.R_mono (ok' := fun k_ => some k_ ≠ (.slice Ao38 t227.length co38 : Value).ownBlock ∧ some k_ ≠ (.slice Ao48 t209.length co48 : Value).ownBlock) (Kd.R_keptB (HO_196003.out) hkp (fun k_ hk_ hs_ => (hk_.2) hs_)) (fun k_ hk_ => ⟨hk_.1.1, hk_.1.2⟩)); have n1_ := Aside0.mk (Kd.R_mono (ok' := fun k_ => some k_ ≠ (.slice Ao31 t191.length co31 : Value).ownBlock ∧ some k_ ≠ (.slice Ao48 t209.length co48 : Value).ownBlock) (Kd.R_keptB (HO_203003.out) hkp (fun k_ hk_ hs_ => (hk_.2) hs_)) (fun k_ hk_ => ⟨hk_.1.1, hk_.1.2⟩)); have n2_ := Aside0.mk (Kd.R_reok rfl hy0 (fun k_ e_ => HO_214003.out.1 k_ e_)); have n3_ := Aside0.mk (blk_kept (B.kb BK177) hkp (fun hs_ => (fun e_ => (Kd.R_ne HO_214003.out BK177.out (by decide)) e_) hs_)); have n4_ := Aside0.mk (blk_kept (B.kb BK195) hkp (fun hs_ => (fun e_ => (Kd.R_ne HO_214003.out BK195.out (by decide)) e_) hs_)); have n5_ := Aside0.mk (blk_kept (B.kb BK202) hkp (fun hs_ => (fun e_ => (Kd.R_ne HO_214003.out BK202.out (by decide)) e_) hs_)); have n6_ := Aside0.mk (blk_kept (B.kb BK213) hkp (fun hs_ => (fun e_ => (Kd.R_ne HO_214003.out BK213.out (by decide)) e_) hs_)); have n7_ := Aside0.mk (hb); clear HO_196003 HO_203003 HO_214003 BK177 BK195 BK202 BK213 HB; have HO_196003 := n0_; have HO_203003 := n1_; have HO_214003 := n2_; have BK177 := n3_; have BK195 := n4_; have BK202 := n5_; have BK213 := n6_; have HB := n7_; clear n0_ n1_ n2_ n3_ n4_ n5_ n6_ n7_; (try clear hb); (try clear hkp); (try clear hy0); have hcz106_0 : w105.cell? ⟨gb213, 0, none⟩ = some (.int .i64 t206) := B.bc BK213 0; have hcz106_1 : w105.cell? ⟨gb213, 1, none⟩ = some (.int .i64 t207) := B.bc BK213 1; have hcz106_2 : w105.cell? ⟨gb213, 2, none⟩ = some (.int .i64 t208) := B.bc BK213 2; have hcz106_3 : w105.cell? ⟨gb213, 3, none⟩ = some (.slice Ao48 t209.length co48) := B.bc BK213 3; have hfz106_0 := blk_frozen BK213.out 0; have hfz106_1 := blk_frozen BK213.out 1; have hfz106_2 := blk_frozen BK213.out 2; have hfz106_3 := blk_frozen BK213.out 3) | ((with_reducible refine gate_callee (f := 22) rfl ?_); refine goesL_ (some 94) rfl rfl Try.func22 (by kernel_rfl) rfl #[.agg #[.int .i64 t206, .int .i64 t207, .int .i64 t208, .slice Ao48 t232.length co48], .int .i64 1] rfl (by (try simp only [List.map_toArray, List.map_cons, List.map_nil]); first | done | (rw [show t232.length = t209.length from (Kd.R_reads' HO_214003.out).1.symm] <;> rfl) | rfl | (simp only [List.length_drop, List.length_take]; rfl)) ?_; (with_reducible refine (laws_heldImage.calls kj67 t206 t207 t208 _ _ t232 1 t233 _ ?side1 ?side2 A94.out).mono ?_); (case side1 => exact B.kc ((Kd.R_reads' HO_214003.out).2.2)); (case side2 => rw [show t232.length = t209.length from (Kd.R_reads' HO_214003.out).1.symm]; exact (Kd.R_reads' HO_214003.out).2.1); rintro e w107 ⟨rfl, hb⟩; refine ⟨_, rfl, ?_⟩; have n0_ := Aside0.mk (Kd.R_below (B.kr HO_196003) hb); have n1_ := Aside0.mk (Kd.R_below (B.kr HO_203003) hb); have n2_ := Aside0.mk (Kd.R_below (B.kr HO_214003) hb); have n3_ := Aside0.mk (blk_below (B.kb BK177) hb); have n4_ := Aside0.mk (blk_below (B.kb BK195) hb); have n5_ := Aside0.mk (blk_below (B.kb BK202) hb); have n6_ := Aside0.mk (blk_below (B.kb BK213) hb); have n7_ := Aside0.mk (below_step (B.bl HB) hb); clear HO_196003 HO_203003 HO_214003 BK177 BK195 BK202 BK213 HB; have HO_196003 := n0_; have HO_203003 := n1_; have HO_214003 := n2_; have BK177 := n3_; have BK195 := n4_; have BK202 := n5_; have BK213 := n6_; have HB := n7_; clear n0_ n1_ n2_ n3_ n4_ n5_ n6_ n7_; (try clear hb); (try clear hb2); (try clear hk); (try clear hi); have hnb108 := NB177_195.out; have hnc108 := NB195_177.out; have hnb109 := NB177_202.out; have hnc109 := NB202_177.out; have hcz110_0 : w107.cell? ⟨gb177, 0, none⟩ = some (.int .i64 a0_0) := B.bc BK177 0; have hcz110_1 : w107.cell? ⟨gb177, 1, none⟩ = some (.int .i64 a0_1) := B.bc BK177 1; have hcz110_2 : w107.cell? ⟨gb177, 2, none⟩ = some (.int .i64 a0_2) := B.bc BK177 2; have hcz110_3 : w107.cell? ⟨gb177, 3, none⟩ = some (.slice A0_3 l0_3.length c0_3) := B.bc BK177 3; have hfz110_0 := blk_frozen BK177.out 0; have hfz110_1 := blk_frozen BK177.out 1; have hfz110_2 := blk_frozen BK177.out 2; have hfz110_3 := blk_frozen BK177.out 3) | ((with_reducible refine gate_callee (f := 13) rfl ?_); refine goesL_ (some 102) rfl rfl Try.func13 (by kernel_rfl) rfl #[.agg #[.int .i64 a0_0, .int .i64 a0_1, .int .i64 a0_2, .slice A0_3 l0_3.length c0_3]] rfl B.am ?_; (with_reducible refine (laws_toImage.calls kj67 a0_0 a0_1 a0_2 _ _ l0_3 t234 t235 t236 t237 _ ?side1 ?side2 A97.out).mono ?_); (case side1 => exact B.kc (Kd.C_below HR0_3.out HB.out)); (case side2 => exact HC0_3.out); rintro e w111 ⟨v238, rfl, ho0, hb⟩; refine ⟨_, rfl, ?_⟩; have n0_ := Aside0.mk (Kd.R_elder' (B.kr HO_196003) (Kd.R_base ho0) hb); have n1_ := Aside0.mk (Kd.R_elder' (B.kr HO_203003) (Kd.R_base ho0) hb); have n2_ := Aside0.mk (Kd.R_elder' (B.kr HO_214003) (Kd.R_base ho0) hb); have n3_ := Aside0.mk (Kd.R_lower (Kd.R_new' (Kd.R_new' (Kd.R_new' ho0 (Kd.R_lt (B.kr HO_196003))) (Kd.R_lt (B.kr HO_203003))) (Kd.R_lt (B.kr HO_214003))) (below_size (B.bl HB))); have n4_ := Aside0.mk (blk_below (B.kb BK177) hb); have n5_ := Aside0.mk (blk_below (B.kb BK195) hb); have n6_ := Aside0.mk (blk_below (B.kb BK202) hb); have n7_ := Aside0.mk (blk_below (B.kb BK213) hb); have n8_ := Aside0.mk (below_step (B.bl HB) hb); clear HO_196003 HO_203003 HO_214003 BK177 BK195 BK202 BK213 HB; have HO_196003 := n0_; have HO_203003 := n1_; have HO_214003 := n2_; have HO239 := n3_; have BK177 := n4_; have BK195 := n5_; have BK202 := n6_; have BK213 := n7_; have HB := n8_; clear n0_ n1_ n2_ n3_ n4_ n5_ n6_ n7_ n8_; (try clear hb); (try clear hb2); (try clear hk); (try clear hi); (try clear ho0)) | ((with_reducible refine gate_callee (f := 17) rfl ?_); refine goesL_ (some 106) rfl rfl Try.func17 (by kernel_rfl) rfl #[.slice A3 l3.length c3] rfl B.am ?_; (with_reducible refine (laws_toIntS.calls kj67 _ _ l3 t240 _ ?side1 ?side2 A98.out).mono ?_); (case side1 => exact B.kc (Kd.C_below HR3.out HB.out)); (case side2 => exact HC3.out); rintro e w112 ⟨v241, rfl, ho0, hb⟩; refine ⟨_, rfl, ?_⟩; have n0_ := Aside0.mk (Kd.R_elder' (B.kr HO_196003) (Kd.R_base ho0) hb); have n1_ := Aside0.mk (Kd.R_elder' (B.kr HO_203003) (Kd.R_base ho0) hb); have n2_ := Aside0.mk (Kd.R_elder' (B.kr HO_214003) (Kd.R_base ho0) hb); have n3_ := Aside0.mk (Kd.R_elder' (B.kr HO239) (Kd.R_base ho0) hb); have n4_ := Aside0.mk (Kd.R_lower (Kd.R_new' (Kd.R_new' (Kd.R_new' (Kd.R_new' ho0 (Kd.R_lt (B.kr HO_196003))) (Kd.R_lt (B.kr HO_203003))) (Kd.R_lt (B.kr HO_214003))) (Kd.R_lt (B.kr HO239))) (below_size (B.bl HB))); have n5_ := Aside0.mk (blk_below (B.kb BK177) hb); have n6_ := Aside0.mk (blk_below (B.kb BK195) hb); have n7_ := Aside0.mk (blk_below (B.kb BK202) hb); have n8_ := Aside0.mk (blk_below (B.kb BK213) hb); have n9_ := Aside0.mk (below_step (B.bl HB) hb); clear HO_196003 HO_203003 HO_214003 HO239 BK177 BK195 BK202 BK213 HB; have HO_196003 := n0_; have HO_203003 := n1_; have HO_214003 := n2_; have HO239 := n3_; have HO242 := n4_; have BK177 := n5_; have BK195 := n6_; have BK202 := n7_; have BK213 := n8_; have HB := n9_; clear n0_ n1_ n2_ n3_ n4_ n5_ n6_ n7_ n8_ n9_; (try clear hb); (try clear hb2); (try clear hk); (try clear hi); (try clear ho0); obtain ⟨Ao113, co113, eo113⟩ := Kd.R_slice HO239.out; subst eo113; obtain ⟨Ao114, co114, eo114⟩ := Kd.R_slice HO242.out; subst eo114) | ((with_reducible refine gate_callee (f := 33) rfl ?_); refine goesL_ (some 107) rfl rfl Try.func33 (by kernel_rfl) rfl #[.agg #[.int .i64 t234, .int .i64 t235, .int .i64 t236, .slice Ao113 t237.length co113], .int .i64 a1, .int .i64 a2, .slice Ao114 t240.length co114] rfl B.am ?_; (with_reducible refine (impl_SetPixel.calls t234 t235 t236 _ _ t237 a1 a2 _ _ t240 t243 t244 t245 t246 t249 _ ?side1 ?side2 ?side3 ?side4 A99.out).mono ?_); (case side1 => exact B.kc ((Kd.R_reads' HO239.out).2.2)); (case side2 => exact (Kd.R_reads' HO239.out).2.1); (case side3 => exact B.kc ((Kd.R_reads' HO242.out).2.2)); (case side4 => exact (Kd.R_reads' HO242.out).2.1); rintro e w115 ⟨v247, rfl, ho0, hb⟩; refine ⟨_, rfl, ?_⟩; have n0_ := Aside0.mk (Kd.R_elder' (B.kr HO_196003) (Kd.R_base ho0) hb); have n1_ := Aside0.mk (Kd.R_elder' (B.kr HO_203003) (Kd.R_base ho0) hb); have n2_ := Aside0.mk (Kd.R_elder' (B.kr HO_214003) (Kd.R_base ho0) hb); have n3_ := Aside0.mk (Kd.R_elder' (B.kr HO239) (Kd.R_base ho0) hb); have n4_ := Aside0.mk (Kd.R_elder' (B.kr HO242) (Kd.R_base ho0) hb); have n5_ := Aside0.mk (Kd.R_lower (Kd.R_new' (Kd.R_new' (Kd.R_new' (Kd.R_new' (Kd.R_new' ho0 (Kd.R_lt (B.kr HO_196003))) (Kd.R_lt (B.kr HO_203003))) (Kd.R_lt (B.kr HO_214003))) (Kd.R_lt (B.kr HO239))) (Kd.R_lt (B.kr HO242))) (below_size (B.bl HB))); have n6_ := Aside0.mk (blk_below (B.kb BK177) hb); have n7_ := Aside0.mk (blk_below (B.kb BK195) hb); have n8_ := Aside0.mk (blk_below (B.kb BK202) hb); have n9_ := Aside0.mk (blk_below (B.kb BK213) hb); have n10_ := Aside0.mk (below_step (B.bl HB) hb); clear HO_196003 HO_203003 HO_214003 HO239 HO242 BK177 BK195 BK202 BK213 HB; have HO_196003 := n0_; have HO_203003 := n1_; have HO_214003 := n2_; have HO239 := n3_; have HO242 := n4_; have HO248 := n5_; have BK177 := n6_; have BK195 := n7_; have BK202 := n8_; have BK213 := n9_; have HB := n10_; clear n0_ n1_ n2_ n3_ n4_ n5_ n6_ n7_ n8_ n9_ n10_; (try clear hb); (try clear hb2); (try clear hk); (try clear hi); (try clear ho0)) | ((with_reducible refine gate_dst (N := 19) rfl ?_); refine box_event ?hg (N := 19) ?hd (cs := #[.int .i64 0, .int .i64 0, .int .i64 0, .slice none 0 0]) (t := 27) ?hr ?_; (case hd => rfl); (case hg => rfl); (case hr => first | (go_simp; done) | (go_simp; rfl)); intro gb250 hg w116 hbox hb; have n0_ := Aside0.mk (Kd.R_below (B.kr HO_196003) hb); have n1_ := Aside0.mk (Kd.R_below (B.kr HO_203003) hb); have n2_ := Aside0.mk (Kd.R_below (B.kr HO_214003) hb); have n3_ := Aside0.mk (Kd.R_below (B.kr HO239) hb); have n4_ := Aside0.mk (Kd.R_below (B.kr HO242) hb); have n5_ := Aside0.mk (Kd.R_below (B.kr HO248) hb); have n6_ := Aside0.mk (blk_below (B.kb BK177) hb); have n7_ := Aside0.mk (blk_below (B.kb BK195) hb); have n8_ := Aside0.mk (blk_below (B.kb BK202) hb); have n9_ := Aside0.mk (blk_below (B.kb BK213) hb); have n10_ := Aside0.mk (below_step (B.bl HB) hb); have n11_ := Aside0.mk (hbox); have n12_ := Aside0.mk (B.nle hg (below_size (B.bl HB))); have n13_ := Aside0.mk (B.nle hg (below_size (B.bl HB))); have n14_ := Aside0.mk (B.nlt hg (blk_lt (B.kb BK177))); have n15_ := Aside0.mk (B.ngt hg (blk_lt (B.kb BK177))); have n16_ := Aside0.mk (B.nlt hg (blk_lt (B.kb BK195))); have n17_ := Aside0.mk (B.ngt hg (blk_lt (B.kb BK195))); have n18_ := Aside0.mk (B.nlt hg (blk_lt (B.kb BK202))); have n19_ := Aside0.mk (B.ngt hg (blk_lt (B.kb BK202))); have n20_ := Aside0.mk (B.nlt hg (blk_lt (B.kb BK213))); have n21_ := Aside0.mk (B.ngt hg (blk_lt (B.kb BK213))); clear HO_196003 HO_203003 HO_214003 HO239 HO242 HO248 BK177 BK195 BK202 BK213 HB; have HO_196003 := n0_; have HO_203003 := n1_; have HO_214003 := n2_; have HO239 := n3_; have HO242 := n4_; have HO248 := n5_; have BK177 := n6_; have BK195 := n7_; have BK202 := n8_; have BK213 := n9_; have HB := n10_; have BK250 := n11_; have GW250 := n12_; have GE250 := n13_; have NB177_250 := n14_; have NB250_177 := n15_; have NB195_250 := n16_; have NB250_195 := n17_; have NB202_250 := n18_; have NB250_202 := n19_; have NB213_250 := n20_; have NB250_213 := n21_; clear n0_ n1_ n2_ n3_ n4_ n5_ n6_ n7_ n8_ n9_ n10_ n11_ n12_ n13_ n14_ n15_ n16_ n17_ n18_ n19_ n20_ n21_; clear hb hbox hg; have hnb117 := NB250_177.out; have hnc117 := NB177_250.out; have hnb118 := NB250_195.out; have hnc118 := NB195_250.out; have hnb119 := NB250_202.out; have hnc119 := NB202_250.out; have hnb120 := NB250_213.out; have hnc120 := NB213_250.out; have hcz121_0 : w116.cell? ⟨gb250, 0, none⟩ = some (.int .i64 0) := B.bc BK250 0; have hcz121_1 : w116.cell? ⟨gb250, 1, none⟩ = some (.int .i64 0) := B.bc BK250 1; have hcz121_2 : w116.cell? ⟨gb250, 2, none⟩ = some (.int .i64 0) := B.bc BK250 2; have hcz121_3 : w116.cell? ⟨gb250, 3, none⟩ = some (.slice none 0 0) := B.bc BK250 3; have hfz121_0 := blk_frozen BK250.out 0; have hfz121_1 := blk_frozen BK250.out 1; have hfz121_2 := blk_frozen BK250.out 2; have hfz121_3 := blk_frozen BK250.out 3; obtain ⟨Ao122, co122, eo122⟩ := Kd.R_slice HO248.out; subst eo122))
                (try simp only [Act.put, List.setIfInBounds_toArray, List.set_cons_zero, List.set_cons_succ])
                go_cut [118] (fun v118 wc => ∃ (kq : Nat) (x118_99 : Bool), v118 = .bool x118_99 ∧ Aside0 (laws_FnExactSetPixel.j2 kq t231 x118_99 t206 t207 t208 t232 = some r) ∧ Aside0 (kq ≤ kj67) ∧ Aside0 (Kd.R (Kd.int .i64) 3 wc w.heap.size (fun k_ => some k_ ≠ ((.slice Ao38 t227.length co38) : Value).ownBlock ∧ some k_ ≠ ((.slice Ao48 t209.length co48) : Value).ownBlock ∧ some k_ ≠ ((.slice Ao122 t246.length co122) : Value).ownBlock) (.slice Ao31 t191.length co31) t191) ∧ Aside0 (Kd.R (Kd.int .i64) 3 wc w.heap.size (fun k_ => some k_ ≠ ((.slice Ao31 t191.length co31) : Value).ownBlock ∧ some k_ ≠ ((.slice Ao48 t209.length co48) : Value).ownBlock ∧ some k_ ≠ ((.slice Ao122 t246.length co122) : Value).ownBlock) (.slice Ao38 t227.length co38) t227) ∧ Aside0 (Kd.R (Kd.int .i64) 3 wc w.heap.size (fun k_ => some k_ ≠ ((.slice Ao31 t191.length co31) : Value).ownBlock ∧ some k_ ≠ ((.slice Ao38 t227.length co38) : Value).ownBlock ∧ some k_ ≠ ((.slice Ao122 t246.length co122) : Value).ownBlock) (.slice Ao48 t209.length co48) t232) ∧ Aside0 (Kd.R (Kd.int .i64) 3 wc w.heap.size (fun k_ => some k_ ≠ ((.slice Ao31 t191.length co31) : Value).ownBlock ∧ some k_ ≠ ((.slice Ao38 t227.length co38) : Value).ownBlock ∧ some k_ ≠ ((.slice Ao48 t209.length co48) : Value).ownBlock) (.slice Ao122 t246.length co122) t246) ∧ Aside0 (wc.heap[gb177]? = some (.cells #[.int .i64 a0_0, .int .i64 a0_1, .int .i64 a0_2, (.slice A0_3 l0_3.length c0_3)] 24 (0, 0))) ∧ Aside0 (wc.heap[gb195]? = some (.cells #[.int .i64 t188, .int .i64 t189, .int .i64 t190, (.slice Ao31 t191.length co31)] 27 (0, 0))) ∧ Aside0 (wc.heap[gb202]? = some (.cells #[.int .i64 t196, .int .i64 t197, .int .i64 t198, (.slice Ao38 t227.length co38)] 27 (0, 0))) ∧ Aside0 (wc.heap[gb213]? = some (.cells #[.int .i64 t206, .int .i64 t207, .int .i64 t208, (.slice Ao48 t209.length co48)] 27 (0, 0))) ∧ Aside0 (wc.heap[gb250]? = some (.cells #[.int .i64 t243, .int .i64 t244, .int .i64 t245, (.slice Ao122 t246.length co122)] 27 (0, 0))) ∧ Aside0 (Below w.heap.size w wc))
                case first =>
                  have H := HC100.out
                  clear HC100
                  replace H := Option.bind_eq_some_iff.mp H
                  obtain ⟨t251, A1230, H⟩ := H
                  replace H : (if t251 = true then (laws_FnExactSetPixel.j2 kj67 t231 (t249 != t194) t206 t207 t208 t232) else (laws_FnExactSetPixel.j2 kj67 t231 true t206 t207 t208 t232)) = some r := H
                  have A123 := Aside0.mk A1230
                  clear A1230
                  by_cases c124 : t251 = true
                  · subst c124
                    have H1 : (laws_FnExactSetPixel.j2 kj67 t231 (t249 != t194) t206 t207 t208 t232) = some r := by rw [if_pos rfl] at H; exact H
                    clear H
                    have H := H1
                    clear H1
                    have H' := Aside0.mk H
                    clear H
                    have hnb125 := NB250_177.out
                    have hnc125 := NB177_250.out
                    have hnb126 := NB250_195.out
                    have hnc126 := NB195_250.out
                    have hnb127 := NB250_202.out
                    have hnc127 := NB202_250.out
                    have hnb128 := NB250_213.out
                    have hnc128 := NB213_250.out
                    have hcz129_0 : w116.cell? ⟨gb250, 0, none⟩ = some (.int .i64 0) := B.bc BK250 0
                    have hcz129_1 : w116.cell? ⟨gb250, 1, none⟩ = some (.int .i64 0) := B.bc BK250 1
                    have hcz129_2 : w116.cell? ⟨gb250, 2, none⟩ = some (.int .i64 0) := B.bc BK250 2
                    have hcz129_3 : w116.cell? ⟨gb250, 3, none⟩ = some (.slice none 0 0) := B.bc BK250 3
                    have hfz129_0 := blk_frozen BK250.out 0
                    have hfz129_1 := blk_frozen BK250.out 1
                    have hfz129_2 := blk_frozen BK250.out 2
                    have hfz129_3 := blk_frozen BK250.out 3
                    have hnb130 := NB195_177.out
                    have hnc130 := NB177_195.out
                    have hnb131 := NB195_202.out
                    have hnc131 := NB202_195.out
                    have hnb132 := NB195_213.out
                    have hnc132 := NB213_195.out
                    have hcz133_0 : w116.cell? ⟨gb195, 0, none⟩ = some (.int .i64 t188) := B.bc BK195 0
                    have hcz133_1 : w116.cell? ⟨gb195, 1, none⟩ = some (.int .i64 t189) := B.bc BK195 1
                    have hcz133_2 : w116.cell? ⟨gb195, 2, none⟩ = some (.int .i64 t190) := B.bc BK195 2
                    have hcz133_3 : w116.cell? ⟨gb195, 3, none⟩ = some (.slice Ao31 t191.length co31) := B.bc BK195 3
                    have hfz133_0 := blk_frozen BK195.out 0
                    have hfz133_1 := blk_frozen BK195.out 1
                    have hfz133_2 := blk_frozen BK195.out 2
                    have hfz133_3 := blk_frozen BK195.out 3
                    go_wp2_with (first | ((with_reducible refine gate_callee (f := 15) rfl ?_); refine goesL_ (some 112) rfl rfl Try.func15 (by kernel_rfl) rfl #[.agg #[.int .i64 t243, .int .i64 t244, .int .i64 t245, .slice Ao122 t246.length co122], .agg #[.int .i64 t188, .int .i64 t189, .int .i64 t190, .slice Ao31 t191.length co31]] rfl B.am ?_; (with_reducible refine (laws_eqImage.calls kj67 t243 t244 t245 _ _ t246 t188 t189 t190 _ _ t191 true _ ?side1 ?side2 ?side3 ?side4 A123.out).mono ?_); (case side1 => refine (Kd.R_reads' (e := 3) (base := w.heap.size) (ok := fun k_ => (((((True ∧ some k_ ≠ (.slice Ao31 t191.length co31 : Value).ownBlock) ∧ some k_ ≠ (.slice Ao38 t227.length co38 : Value).ownBlock) ∧ some k_ ≠ (.slice Ao48 t209.length co48 : Value).ownBlock) ∧ some k_ ≠ (.slice Ao113 t237.length co113 : Value).ownBlock) ∧ some k_ ≠ (.slice Ao114 t240.length co114 : Value).ownBlock)) (n := t246.length) (c := co122) ?_).2.2; exact (B.kr0 (B.rs4 HO248 BK250))); (case side2 => exact (Kd.R_reads' HO248.out).2.1); (case side3 => refine (Kd.R_reads' (e := 3) (base := w.heap.size) (ok := fun k_ => ((((some k_ ≠ (.slice Ao38 t227.length co38 : Value).ownBlock ∧ some k_ ≠ (.slice Ao48 t209.length co48 : Value).ownBlock) ∧ some k_ ≠ (.slice Ao113 t237.length co113 : Value).ownBlock) ∧ some k_ ≠ (.slice Ao114 t240.length co114 : Value).ownBlock) ∧ some k_ ≠ (.slice Ao122 t246.length co122 : Value).ownBlock)) (n := t191.length) (c := co31) ?_).2.2; exact (B.kr0 (B.rs4 HO_196003 BK250))); (case side4 => exact (Kd.R_reads' HO_196003.out).2.1); rintro e w134 ⟨rfl, hb⟩; refine ⟨_, rfl, ?_⟩; have n0_ := Aside0.mk (Kd.R_below (B.kr0 (B.rs4 HO_196003 BK250)) hb); have n1_ := Aside0.mk (Kd.R_below (B.kr0 (B.rs4 HO_203003 BK250)) hb); have n2_ := Aside0.mk (Kd.R_below (B.kr0 (B.rs4 HO_214003 BK250)) hb); have n3_ := Aside0.mk (Kd.R_below (B.kr0 (B.rs4 HO239 BK250)) hb); have n4_ := Aside0.mk (Kd.R_below (B.kr0 (B.rs4 HO242 BK250)) hb); have n5_ := Aside0.mk (Kd.R_below (B.kr0 (B.rs4 HO248 BK250)) hb); have n6_ := Aside0.mk (blk_below (B.kb0 (B.bf4 BK177 NB177_250)) hb); have n7_ := Aside0.mk (blk_below (B.kb0 (B.bf4 BK195 NB195_250)) hb); have n8_ := Aside0.mk (blk_below (B.kb0 (B.bf4 BK202 NB202_250)) hb); have n9_ := Aside0.mk (blk_below (B.kb0 (B.bf4 BK213 NB213_250)) hb); have n10_ := Aside0.mk (blk_below (g := gb250) (o := .cells #[.int .i64 t243, .int .i64 t244, .int .i64 t245, .slice Ao122 t246.length co122] 27 (0, 0)) (B.kb0 (B.bp4 BK250)) hb); have n11_ := Aside0.mk (below_step (B.bl HB) hb); clear HO_196003 HO_203003 HO_214003 HO239 HO242 HO248 BK177 BK195 BK202 BK213 BK250 HB; have HO_196003 := n0_; have HO_203003 := n1_; have HO_214003 := n2_; have HO239 := n3_; have HO242 := n4_; have HO248 := n5_; have BK177 := n6_; have BK195 := n7_; have BK202 := n8_; have BK213 := n9_; have BK250 := n10_; have HB := n11_; clear n0_ n1_ n2_ n3_ n4_ n5_ n6_ n7_ n8_ n9_ n10_ n11_; (try clear hb); (try clear hb2); (try clear hk); (try clear hi)))
                    go_meet
                    case rel => exact ⟨_, ((t249 != t194)), (by first | rfl | (simp; done) | (simp [*]; done)), H', ⟨by have := HJ17.out; have := HJ67.out; first | omega | exact Nat.le_refl _⟩, ⟨by (try simp only [hl203003_67]); (with_reducible repeat (first | apply Kd.R_alloc | apply Kd.R_drewN | apply Kd.R_drew)); exact Kd.R_mono HO_196003.out (fun _ hk => ⟨hk.1.1.1.1, ⟨hk.1.1.1.2, hk.2⟩⟩)⟩, ⟨by (try simp only [hl203003_67]); (with_reducible repeat (first | apply Kd.R_alloc | apply Kd.R_drewN | apply Kd.R_drew)); exact Kd.R_mono HO_203003.out (fun _ hk => ⟨hk.1.1.1.1, ⟨hk.1.1.1.2, hk.2⟩⟩)⟩, ⟨by (try simp only [hl203003_67]); (with_reducible repeat (first | apply Kd.R_alloc | apply Kd.R_drewN | apply Kd.R_drew)); exact Kd.R_mono HO_214003.out (fun _ hk => ⟨hk.1.1.1.1, ⟨hk.1.1.1.2, hk.2⟩⟩)⟩, ⟨by (try simp only [hl203003_67]); (with_reducible repeat (first | apply Kd.R_alloc | apply Kd.R_drewN | apply Kd.R_drew)); exact Kd.R_mono HO248.out (fun _ hk => ⟨hk.1.1.1.1.2, ⟨hk.1.1.1.2, hk.1.1.2⟩⟩)⟩, ⟨by (try simp only [hl203003_67]); (with_reducible repeat (first | refine blk_drewN ?_ _ | refine blk_drew ?_ | refine blk_alloc ?_ _)); exact BK177.out⟩, ⟨by (try simp only [hl203003_67]); (with_reducible repeat (first | refine blk_drewN ?_ _ | refine blk_drew ?_ | refine blk_alloc ?_ _)); exact BK195.out⟩, ⟨by (try simp only [hl203003_67]); (with_reducible repeat (first | refine blk_drewN ?_ _ | refine blk_drew ?_ | refine blk_alloc ?_ _)); exact BK202.out⟩, ⟨by (try simp only [hl203003_67]); (with_reducible repeat (first | refine blk_drewN ?_ _ | refine blk_drew ?_ | refine blk_alloc ?_ _)); exact BK213.out⟩, ⟨by (try simp only [hl203003_67]); (with_reducible repeat (first | refine blk_drewN ?_ _ | refine blk_drew ?_ | refine blk_alloc ?_ _)); exact BK250.out⟩, ⟨B.bl HB⟩⟩
                  replace c124 := Bool.eq_false_iff.mpr c124
                  subst c124
                  have H1 : (laws_FnExactSetPixel.j2 kj67 t231 true t206 t207 t208 t232) = some r := by rw [if_neg (show ¬ (false = true) by decide)] at H; exact H
                  clear H
                  have H := H1
                  clear H1
                  exact absurd ht_.out (by revert H; cases kj67 <;> intro H <;> simp [laws_FnExactSetPixel.j2] at H <;> (first | (subst H; decide) | simp [← H] | simp [H]))
                case rest =>
                  clear HC100
                  try clear c1
                  try clear c2
                  try clear p2
                  try clear c3
                  try clear c4
                  try clear c5
                  try clear c5b0
                  try clear c5b1
                  try clear c6
                  try clear c7
                  try clear c8
                  try clear c8b0
                  try clear c9
                  try clear c10
                  try clear c11
                  try clear c12
                  try clear c13
                  try clear c15
                  try clear c17
                  try clear c19
                  try clear c20
                  try clear c21
                  try clear c22
                  try clear c29
                  try clear c32
                  try clear c33
                  try clear c35
                  try clear c36
                  try clear c44
                  try clear c45
                  try clear c46
                  try clear c50
                  try clear c51
                  try clear c52
                  try clear c53
                  try clear c55
                  try clear c56
                  try clear c59
                  try clear c62
                  try clear c65
                  try clear c75
                  try clear c76
                  try clear c77
                  try clear c81
                  try clear c81b0
                  try clear c83
                  try clear c84
                  try clear c85
                  try clear c86
                  try clear c88
                  try clear c89
                  try clear c92
                  try clear c95
                  try clear c95b0
                  try clear c96
                  try clear c96b0
                  try clear c96b1
                  try clear c101
                  try clear c102
                  try clear c103
                  try clear c108
                  try clear c109
                  try clear c117
                  try clear c118
                  try clear c119
                  try clear c120
                  try clear c124
                  try clear c125
                  try clear c126
                  try clear c127
                  try clear c128
                  try clear c130
                  try clear c131
                  try clear c132
                  try clear hcz104_0
                  try clear hcz104_1
                  try clear hcz104_2
                  try clear hcz104_3
                  try clear hcz106_0
                  try clear hcz106_1
                  try clear hcz106_2
                  try clear hcz106_3
                  try clear hcz10_0
                  try clear hcz10_1
                  try clear hcz10_2
                  try clear hcz10_3
                  try clear hcz110_0
                  try clear hcz110_1
                  try clear hcz110_2
                  try clear hcz110_3
                  try clear hcz121_0
                  try clear hcz121_1
                  try clear hcz121_2
                  try clear hcz121_3
                  try clear hcz129_0
                  try clear hcz129_1
                  try clear hcz129_2
                  try clear hcz129_3
                  try clear hcz133_0
                  try clear hcz133_1
                  try clear hcz133_2
                  try clear hcz133_3
                  try clear hcz20_0
                  try clear hcz20_1
                  try clear hcz20_2
                  try clear hcz20_3
                  try clear hcz22_0
                  try clear hcz22_1
                  try clear hcz22_2
                  try clear hcz22_3
                  try clear hcz30_0
                  try clear hcz30_1
                  try clear hcz30_2
                  try clear hcz30_3
                  try clear hcz32_0
                  try clear hcz32_1
                  try clear hcz32_2
                  try clear hcz32_3
                  try clear hcz37_0
                  try clear hcz37_1
                  try clear hcz37_2
                  try clear hcz37_3
                  try clear hcz40_0
                  try clear hcz40_1
                  try clear hcz40_2
                  try clear hcz40_3
                  try clear hcz47_0
                  try clear hcz47_1
                  try clear hcz47_2
                  try clear hcz47_3
                  try clear hcz54_0
                  try clear hcz54_1
                  try clear hcz54_2
                  try clear hcz54_3
                  try clear hcz57_0
                  try clear hcz57_1
                  try clear hcz57_2
                  try clear hcz57_3
                  try clear hcz78_0
                  try clear hcz78_1
                  try clear hcz78_2
                  try clear hcz78_3
                  try clear hcz87_0
                  try clear hcz87_1
                  try clear hcz87_2
                  try clear hcz87_3
                  try clear hcz90_0
                  try clear hcz90_1
                  try clear hcz90_2
                  try clear hcz90_3
                  try clear hfz104_0
                  try clear hfz104_1
                  try clear hfz104_2
                  try clear hfz104_3
                  try clear hfz106_0
                  try clear hfz106_1
                  try clear hfz106_2
                  try clear hfz106_3
                  try clear hfz10_0
                  try clear hfz10_1
                  try clear hfz10_2
                  try clear hfz10_3
                  try clear hfz110_0
                  try clear hfz110_1
                  try clear hfz110_2
                  try clear hfz110_3
                  try clear hfz121_0
                  try clear hfz121_1
                  try clear hfz121_2
                  try clear hfz121_3
                  try clear hfz129_0
                  try clear hfz129_1
                  try clear hfz129_2
                  try clear hfz129_3
                  try clear hfz133_0
                  try clear hfz133_1
                  try clear hfz133_2
                  try clear hfz133_3
                  try clear hfz20_0
                  try clear hfz20_1
                  try clear hfz20_2
                  try clear hfz20_3
                  try clear hfz22_0
                  try clear hfz22_1
                  try clear hfz22_2
                  try clear hfz22_3
                  try clear hfz30_0
                  try clear hfz30_1
                  try clear hfz30_2
                  try clear hfz30_3
                  try clear hfz32_0
                  try clear hfz32_1
                  try clear hfz32_2
                  try clear hfz32_3
                  try clear hfz37_0
                  try clear hfz37_1
                  try clear hfz37_2
                  try clear hfz37_3
                  try clear hfz40_0
                  try clear hfz40_1
                  try clear hfz40_2
                  try clear hfz40_3
                  try clear hfz47_0
                  try clear hfz47_1
                  try clear hfz47_2
                  try clear hfz47_3
                  try clear hfz54_0
                  try clear hfz54_1
                  try clear hfz54_2
                  try clear hfz54_3
                  try clear hfz57_0
                  try clear hfz57_1
                  try clear hfz57_2
                  try clear hfz57_3
                  try clear hfz78_0
                  try clear hfz78_1
                  try clear hfz78_2
                  try clear hfz78_3
                  try clear hfz87_0
                  try clear hfz87_1
                  try clear hfz87_2
                  try clear hfz87_3
                  try clear hfz90_0
                  try clear hfz90_1
                  try clear hfz90_2
                  try clear hfz90_3
                  try clear p2
                  obtain ⟨kq, x118_99, rfl, HA, HJ99, HO_196003, HO_203003, HO_214003, HO_251003, BK177, BK195, BK202, BK213, BK250, HB⟩ := hcut
                  have hl214003_99 := (Kd.R_reads' HO_214003.out).1
                  rw [hl214003_99] at HO_214003
                  (try simp only [hl214003_99])
                  (try simp only [hl214003_99] at BK177)
                  (try simp only [hl214003_99] at BK195)
                  (try simp only [hl214003_99] at BK202)
                  (try simp only [hl214003_99] at BK213)
                  (try simp only [hl214003_99] at BK250)
                  (try simp only [hl214003_99] at HO_196003)
                  (try simp only [hl214003_99] at HO_203003)
                  (try simp only [hl214003_99] at HO_251003)
                  cases kq with
                  | zero => exact absurd HA.out (by simp [laws_FnExactSetPixel.j2])
                  | succ kj99 =>
                    have H := HA.out
                    clear HA
                    simp only [laws_FnExactSetPixel.j2] at H
                    by_cases c135 : x118_99 = true
                    · subst c135
                      have H1 : (some false) = some r := by rw [if_pos rfl] at H; exact H
                      clear H
                      have H := H1
                      clear H1
                      obtain rfl := Option.some.inj H
                      exact absurd ht_.out (by decide)
                    replace c135 := Bool.eq_false_iff.mpr c135
                    subst c135
                    have H1 : ((laws_heldImage.f kj99 t206 t207 t208 t232 1).bind fun t252 => (if t252 < 0 then (some false) else (if t252 = t231 then (some true) else (some false)))) = some r := by rw [if_neg (show ¬ (false = true) by decide)] at H; exact H
                    clear H
                    have H := H1
                    clear H1
                    replace H := Option.bind_eq_some_iff.mp H
                    obtain ⟨t252, A1360, H⟩ := H
                    replace H : (if t252 < 0 then (some false) else (if t252 = t231 then (some true) else (some false))) = some r := H
                    have A136 := Aside0.mk A1360
                    clear A1360
                    by_cases c137 : t252 < 0
                    · rw [if_pos c137] at H
                      have c137b0 : decide (t252 < 0) = true := decide_eq_true c137
                      clear c137
                      obtain rfl := Option.some.inj H
                      exact absurd ht_.out (by decide)
                    rw [if_neg c137] at H
                    have c137b0 : decide (t252 < 0) = false := decide_eq_false c137
                    clear c137
                    by_cases c138 : t252 = t231
                    · rw [if_pos c138] at H
                      have c138b0 : (t252 == t231) = true := beq_iff_eq.mpr c138
                      have c138b1 : (t252 != t231) = false := bne_eq_false_iff_eq.mpr c138
                      clear c138
                      obtain rfl := Option.some.inj H
                      simp only [Option.some.injEq, Prod.mk.injEq] at H
                      obtain ⟨rfl⟩ := H
                      have hnb139 := NB213_177.out
                      have hnc139 := NB177_213.out
                      have hnb140 := NB213_195.out
                      have hnc140 := NB195_213.out
                      have hnb141 := NB213_202.out
                      have hnc141 := NB202_213.out
                      have hnb142 := NB213_250.out
                      have hnc142 := NB250_213.out
                      have hcz143_0 : wc.cell? ⟨gb213, 0, none⟩ = some (.int .i64 t206) := B.bc BK213 0
                      have hcz143_1 : wc.cell? ⟨gb213, 1, none⟩ = some (.int .i64 t207) := B.bc BK213 1
                      have hcz143_2 : wc.cell? ⟨gb213, 2, none⟩ = some (.int .i64 t208) := B.bc BK213 2
                      have hcz143_3 : wc.cell? ⟨gb213, 3, none⟩ = some (.slice Ao48 t232.length co48) := B.bc BK213 3
                      have hfz143_0 := blk_frozen BK213.out 0
                      have hfz143_1 := blk_frozen BK213.out 1
                      have hfz143_2 := blk_frozen BK213.out 2
                      have hfz143_3 := blk_frozen BK213.out 3
                      go_wp2_with (first | ((with_reducible refine gate_callee (f := 22) rfl ?_); refine goesL_ (some 121) rfl rfl Try.func22 (by kernel_rfl) rfl #[.agg #[.int .i64 t206, .int .i64 t207, .int .i64 t208, .slice Ao48 t232.length co48], .int .i64 1] rfl B.am ?_; (with_reducible refine (laws_heldImage.calls kj99 t206 t207 t208 _ _ t232 1 t252 _ ?side1 ?side2 A136.out).mono ?_); (case side1 => exact B.kc ((Kd.R_reads' HO_214003.out).2.2)); (case side2 => exact (Kd.R_reads' HO_214003.out).2.1); rintro e w144 ⟨rfl, hb⟩; refine ⟨_, rfl, ?_⟩; have n0_ := Aside0.mk (Kd.R_below (B.kr HO_196003) hb); have n1_ := Aside0.mk (Kd.R_below (B.kr HO_203003) hb); have n2_ := Aside0.mk (Kd.R_below (B.kr HO_214003) hb); have n3_ := Aside0.mk (Kd.R_below (B.kr HO_251003) hb); have n4_ := Aside0.mk (blk_below (B.kb BK177) hb); have n5_ := Aside0.mk (blk_below (B.kb BK195) hb); have n6_ := Aside0.mk (blk_below (B.kb BK202) hb); have n7_ := Aside0.mk (blk_below (B.kb BK213) hb); have n8_ := Aside0.mk (blk_below (B.kb BK250) hb); have n9_ := Aside0.mk (below_step (B.bl HB) hb); clear HO_196003 HO_203003 HO_214003 HO_251003 BK177 BK195 BK202 BK213 BK250 HB; have HO_196003 := n0_; have HO_203003 := n1_; have HO_214003 := n2_; have HO_251003 := n3_; have BK177 := n4_; have BK195 := n5_; have BK202 := n6_; have BK213 := n7_; have BK250 := n8_; have HB := n9_; clear n0_ n1_ n2_ n3_ n4_ n5_ n6_ n7_ n8_ n9_; (try clear hb); (try clear hb2); (try clear hk); (try clear hi)))
                      go_ret
                      exact ⟨by first | rfl | (simp [errW_none, errW_some] <;> rfl) | (simp [*, errW_none, errW_some] <;> rfl), B.bl HB⟩
                    rw [if_neg c138] at H
                    have c138b0 : (t252 == t231) = false := beq_eq_false_iff_ne.mpr c138
                    have c138b1 : (t252 != t231) = true := bne_iff_ne.mpr c138
                    obtain rfl := Option.some.inj H
                    exact absurd ht_.out (by decide)
              rw [if_neg c96] at H
              have c96b0 : (t233 == t231) = false := beq_eq_false_iff_ne.mpr c96
              have c96b1 : (t233 != t231) = true := bne_iff_ne.mpr c96
              obtain rfl := Option.some.inj H
              exact absurd ht_.out (by decide)
        replace c65 := Bool.eq_false_iff.mpr c65
        subst c65
        have H1 : (some false) = some r := by rw [if_neg (show ¬ (false = true) by decide)] at H; exact H
        clear H
        have H := H1
        clear H1
        obtain rfl := Option.some.inj H
        exact absurd ht_.out (by decide)
      replace c62 := Bool.eq_false_iff.mpr c62
      subst c62
      have H1 : (some false) = some r := by rw [if_neg (show ¬ (false = true) by decide)] at H; exact H
      clear H
      have H := H1
      clear H1
      obtain rfl := Option.some.inj H
      exact absurd ht_.out (by decide)

end Go.Proofs.Ytegicfkcdmhjgaa.Q
