/- The image that JoinPasses makes of the passes of a valid image is the image; at every code. -/
import Derived.Test.YtpadegboplcapaaLoopsE
import Derived.Test.YtpadegboplcapaaDrawI
import Derived.Test.YtpadegboplcapaaPassD
import Derived.Test.YtpadegboplcapaaJoinD
import Derived.Test.YtpadegboplcapaaQ10
namespace Go.Proofs.Ytpadegboplcapaa.Pure
open Go.RowKit Go.Proofs.Ytpadegboplcapaa.Q Go.Proofs.Ytpadegboplcapaa.B Go.Proofs.YtpadegboplcapaaW.PrintWords Go.Proofs.YtpadegboplcapaaW.PrintLast Go.Proofs.YtpadegboplcapaaW.PrintMore
set_option linter.unusedVariables false

theorem DrawPass_ok (l : List Int) (h : ∀ x ∈ l, (Lit.int .u8 x).wf = true) : ∃ w h p D n, Ev (fun k => spec_DrawPassData.f k l) (w, h, p, D, n) ∧ D.length ≤ 256 := by
  obtain ⟨b, hl, hb⟩ := newReader_ok l h
  obtain ⟨w, h, p, D, q, hq, hD, q0, q1⟩ := anyImage_ok b hb 0 (by omega) (by omega)
  obtain ⟨z, hz, _⟩ := pick_ok b q 9 hb (by omega) (by omega) (by omega)
  refine ⟨w, h, p, D, wrap64 (z - 1), ?_, hD⟩
  unfold spec_DrawPassData.f
  rw [hl]
  simp only [Option.bind_some]
  rw [ev_bind_iff hq, ev_bind_iff hz]
  exact Ev.now _
def passes (W H P : Nat) (D : List Int) (n : Nat) : List (List Int) := (List.range n).map fun k => dataN W H P D k
theorem passes_length (W H P : Nat) (D : List Int) (n : Nat) : (passes W H P D n).length = n := by simp [passes]
theorem passes_at (W H P : Nat) (D : List Int) (k : Nat) (hk : k < 7) : rd_L1 (passes W H P D 7) (k : Int) = dataN W H P D k := by
  unfold rd_L1 passes
  rw [Int.toNat_natCast, List.getD_eq_getElem?_getD, List.getElem?_map, List.getElem?_range hk]
  rfl
theorem FnPassRoundTrip : laws_FnPassRoundTrip.Pure := by
  intro l0 _ _ hw0
  refine Ev.rounds (g := fun k => laws_FnPassRoundTrip.f k l0) (r := true) ?_
  unfold laws_FnPassRoundTrip.f
  by_cases hl : (l0.length : Int) > 1048576
  · exact ev_pos hl (Ev.now _)
  refine ev_neg hl ?_
  obtain ⟨w, h, p, D, n, hd, hD⟩ := DrawPass_ok l0 hw0
  have h1 := specPass_ev w h p D n (by omega)
  have h2 := implPass_ev w h p D n
  have hlen := passP_length w h p D n
  rw [ev_bind_iff hd]
  simp only
  rw [ev_bind_iff h2, ev_bind_iff h1, ev_bind_iff (laws_equalInts_same _ (by omega))]
  refine ev_pos rfl ?_
  have hval : Ev (fun _ => impl_ValidImage.f w h p D) (okImg w h p D) := by
    unfold impl_ValidImage.f
    rw [isImage_ok]
    exact Ev.now _
  rw [ev_bind_iff hval]
  by_cases hv : okImg w h p D = true
  · rw [hv]
    refine Ev.step (f := fun k => laws_FnPassRoundTrip.l0 k (([] : List (List Int))) 0 w h p D) (fun k => by simp only [laws_FnPassRoundTrip.j0, Bool.not_true, Bool.false_eq_true, if_false]) ?_
    obtain ⟨ho, hb⟩ := okImg_img hv
    obtain ⟨W, H, P, rfl, rfl, rfl, o⟩ := ho.toN
    refine ev_for (fun k (s : List (List Int)) i => laws_FnPassRoundTrip.l0 k s (i : Int) (W : Int) (H : Int) (P : Int) D) 7 (fun i => passes W H P D i) (fun i hi r g => ?_) true ?_
    · have hp := implPass_ev (W : Int) (H : Int) (P : Int) D (i : Int)
      rw [passP_N hv hi] at hp
      have e : passes W H P D (i + 1) = passes W H P D i ++ [dataN W H P D i] := by
        unfold passes
        rw [List.range_succ, List.map_append]
        rfl
      rw [e] at g
      have hpl := passes_length W H P D i
      generalize passes W H P D i = s at hpl g ⊢
      refine Ev.step (f := fun k => (impl_PassData.f k (W : Int) (H : Int) (P : Int) D (i : Int)).bind fun t => laws_FnPassRoundTrip.l0 k (s ++ [t]) ((i + 1 : Nat) : Int) (W : Int) (H : Int) (P : Int) D) (fun k => ?_) ?_
      · simp only [laws_FnPassRoundTrip.l0]
        rw [if_pos (by omega), pup1 i (by omega)]
        simp only [if_pos (show s.length < 5864062014805 by omega)]
      · rw [ev_bind_iff hp]
        exact g
    · have hj := implJoin_ev (W : Int) (H : Int) (P : Int) (passes W H P D 7)
      obtain ⟨j1, j2⟩ := join_back (l3 := passes W H P D 7) o hb (fun k hk => passes_at W H P D k hk)
      rw [joinP_N o.1 o.2.1 o.2.2.1 (passes_length W H P D 7), if_pos j1, j2] at hj
      refine Ev.step (f := fun k => (impl_JoinPasses.f k (W : Int) (H : Int) (P : Int) (passes W H P D 7)).bind fun b => (if b.2.2.2.2 = true then ((laws_equalImage.f k b.1 b.2.1 b.2.2.1 b.2.2.2.1 (W : Int) (H : Int) (P : Int) D).bind fun t => (some t)) else (some false))) (fun k => ?_) ?_
      · simp only [laws_FnPassRoundTrip.l0]
        rw [if_neg (by omega)]
      · rw [ev_bind_iff hj]
        refine ev_pos rfl ?_
        rw [ev_bind_iff (equalImage_same (W : Int) (H : Int) (P : Int) D (by omega))]
        exact Ev.now _
  · rw [Bool.eq_false_iff.2 hv]
    refine Ev.step (f := fun k => (impl_PassData.f k w h p D n).bind fun t => (spec_PassData.f k w h p D n).bind fun t' => (laws_equalInts.f k t t').bind fun t => some t) (fun k => by simp only [laws_FnPassRoundTrip.j0, Bool.not_false, if_true]) ?_
    rw [ev_bind_iff h2, ev_bind_iff h1, ev_bind_iff (laws_equalInts_same _ (by omega))]
    exact Ev.now _

end Go.Proofs.Ytpadegboplcapaa.Pure
