/- Steps that a walk takes at many places, each as one lemma: a known block, a known row or the frame, carried over draws, allocations and stores. No conditions. -/
import Derived.Test.YtpadegboplcapaaBase
namespace Go.Proofs.Ytpadegboplcapaa.B
open Go.RowKit Go.Proofs.YtpadegboplcapaaW.PrintWords Go.Proofs.YtpadegboplcapaaW.PrintLast Go.Proofs.YtpadegboplcapaaW.PrintMore
set_option linter.unusedVariables false

theorem kb {w W : World} {g : Nat} {o : Obj} (h : Aside0 (w.heap[g]? = some o)) (e : w.heap[g]? = some o → W.heap[g]? = some o := by intro h; (with_reducible repeat (first | refine blk_drewN ?_ _ | refine blk_drew ?_ | refine blk_alloc ?_ _)); exact h) : W.heap[g]? = some o := e h.out
theorem bl {w W W' : World} (h : Aside0 (Below w.heap.size w W)) (e : Below w.heap.size w W → Below w.heap.size w W' := by intro h; repeat (first | (with_reducible first | exact h | apply below_alloc | apply pw_below_drewN | apply below_drew1 | refine below_set ?_ (Aside0.out (by assumption))) | exact h)) : Below w.heap.size w W' := e h.out
theorem kr {α : Type} {d : Kd α} {e base : Nat} {w W : World} {ok : Nat → Prop} {v : Value} {xs : List α} (h : Aside0 (d.R e w base ok v xs)) (f : d.R e w base ok v xs → d.R e W base ok v xs := by intro h; (with_reducible repeat (first | apply Kd.R_alloc | apply Kd.R_drewN | apply Kd.R_drew)); exact h) : d.R e W base ok v xs := f h.out
theorem kr0 {α : Type} {d : Kd α} {e base : Nat} {w W : World} {ok : Nat → Prop} {v : Value} {xs : List α} (h : d.R e w base ok v xs) (f : d.R e w base ok v xs → d.R e W base ok v xs := by intro h; (with_reducible repeat (first | apply Kd.R_alloc | apply Kd.R_drewN | apply Kd.R_drew)); exact h) : d.R e W base ok v xs := f h
theorem kq {α : Type} {d : Kd α} {e base : Nat} {w W : World} {ok : Nat → Prop} {v : Value} {xs : List α} (h : Aside0 (d.Q e w base ok v xs)) (f : d.Q e w base ok v xs → d.Q e W base ok v xs := by intro h; (with_reducible repeat (first | apply Kd.Q_alloc | apply Kd.Q_drewN | apply Kd.Q_drew)); exact h) : d.Q e W base ok v xs := f h.out
theorem st {p q : Prop} (h : Aside0 p) (e : p → q := by intro h; repeat (first | (with_reducible first | exact h | apply IsS74.alloc | apply IsS74.drewN | apply IsS74.drew | apply IsS74.set_1 | refine IsS74.far ?_ (Aside0.out (by assumption)) _) | exact h)) : q := e h.out
theorem kk {w W W' : World} {g : Nat} {o : Option Nat} (h : Aside0 (KeepBut w W g o)) (e : KeepBut w W g o → KeepBut w W' g o := by intro h; repeat (first | (with_reducible first | exact h | apply KeepBut.set_ | apply keep_drewN | apply keep_drew | apply keep_alloc | refine keep_far ?_ (Aside0.out (by assumption)) _) | exact h)) : KeepBut w W' g o := e h.out
theorem bs {n : Nat} {w W W' : World} (h : Aside0 (Below n w W)) (e : Below n w W → Below n w W' := by intro h; repeat (first | (with_reducible first | exact h | apply below_alloc | apply pw_below_drewN | apply below_drew1 | refine below_set ?_ (Aside0.out (by assumption)) | refine below_set ?_ (IsS74.ge (Aside0.out (by assumption)))) | exact h)) : Below n w W' := e h.out
theorem cf4 {w : World} {a : Addr} {g i j k l : Nat} {u1 u2 u3 u4 v : Value} (hn : Aside0 (a.block ≠ g)) (h : w.cell? a = some v) : ((((w.setCell ⟨g, i, none⟩ u1).setCell ⟨g, j, none⟩ u2).setCell ⟨g, k, none⟩ u3).setCell ⟨g, l, none⟩ u4).cell? a = some v :=
  (cell_far (p := ⟨g, l, none⟩) hn.out _).trans ((cell_far (p := ⟨g, k, none⟩) hn.out _).trans ((cell_far (p := ⟨g, j, none⟩) hn.out _).trans ((cell_far (p := ⟨g, i, none⟩) hn.out _).trans h)))
theorem kb0 {w W : World} {g : Nat} {o : Obj} (h : w.heap[g]? = some o) (e : w.heap[g]? = some o → W.heap[g]? = some o := by intro h; (with_reducible repeat (first | refine blk_drewN ?_ _ | refine blk_drew ?_ | refine blk_alloc ?_ _)); exact h) : W.heap[g]? = some o := e h
theorem bf4 {w : World} {g g' i j k l : Nat} {u1 u2 u3 u4 : Value} {t : TypeId} {cs : Array Value} (h : Aside0 (w.heap[g]? = some (.cells cs t (0, 0)))) (hn : Aside0 (g ≠ g')) : ((((w.setCell ⟨g', i, none⟩ u1).setCell ⟨g', j, none⟩ u2).setCell ⟨g', k, none⟩ u3).setCell ⟨g', l, none⟩ u4).heap[g]? = some (.cells cs t (0, 0)) :=
  blk_far (blk_far (blk_far (blk_far h.out hn.out _) hn.out _) hn.out _) hn.out _
theorem bp4 {w : World} {g : Nat} {a b c d u1 u2 u3 u4 : Value} {t : TypeId} (h : Aside0 (w.heap[g]? = some (.cells #[a, b, c, d] t (0, 0)))) : ((((w.setCell ⟨g, 0, none⟩ u1).setCell ⟨g, 1, none⟩ u2).setCell ⟨g, 2, none⟩ u3).setCell ⟨g, 3, none⟩ u4).heap[g]? = some (.cells #[u1, u2, u3, u4] t (0, 0)) :=
  blk_put (cs := #[u1, u2, u3, d]) (blk_put (cs := #[u1, u2, c, d]) (blk_put (cs := #[u1, b, c, d]) (blk_put (cs := #[a, b, c, d]) h.out 0 _ rfl) 1 _ rfl) 2 _ rfl) 3 _ rfl
theorem rf4 {α : Type} {q : Kd α} {e base : Nat} {w : World} {ok : Nat → Prop} {v : Value} {xs : List α} {g : Nat} {i j k l : Nat} {u1 u2 u3 u4 : Value} {t : TypeId} {cs : Array Value} (h : Aside0 (q.R e w base ok v xs)) (hb : Aside0 (w.heap[g]? = some (.cells cs t (0, 0)))) (ht : ∀ n, n ∈ e :: q.E → n ≠ t := by decide) : q.R e ((((w.setCell ⟨g, i, none⟩ u1).setCell ⟨g, j, none⟩ u2).setCell ⟨g, k, none⟩ u3).setCell ⟨g, l, none⟩ u4) base (fun n => ok n ∧ n ≠ g) v xs :=
  Kd.R_far (p := ⟨g, l, none⟩) (Kd.R_far (p := ⟨g, k, none⟩) (Kd.R_far (p := ⟨g, j, none⟩) (Kd.R_far (p := ⟨g, i, none⟩) (Kd.R_types h.out hb.out ht) (fun _ hk => hk.2) u1) (fun _ hk => hk.2) u2) (fun _ hk => hk.2) u3) (fun _ hk => hk.2) u4
theorem rs4 {α : Type} {q : Kd α} {e base : Nat} {w : World} {ok : Nat → Prop} {v : Value} {xs : List α} {g : Nat} {i j k l : Nat} {u1 u2 u3 u4 : Value} {t : TypeId} {cs : Array Value} (h : Aside0 (q.R e w base ok v xs)) (hb : Aside0 (w.heap[g]? = some (.cells cs t (0, 0)))) (ht : ∀ n, n ∈ e :: q.E → n ≠ t := by decide) : q.R e ((((w.setCell ⟨g, i, none⟩ u1).setCell ⟨g, j, none⟩ u2).setCell ⟨g, k, none⟩ u3).setCell ⟨g, l, none⟩ u4) base ok v xs := Kd.R_mono (rf4 h hb ht) (fun _ h => h.1)
theorem nlt {a b n : Nat} (hg : b = n) (h : a < n) : a ≠ b := by rw [hg]; exact Nat.ne_of_lt h
theorem ngt {a b n : Nat} (hg : b = n) (h : a < n) : b ≠ a := by rw [hg]; exact Nat.ne_of_gt h
theorem nle {a b n : Nat} (hg : b = n) (h : a ≤ n) : a ≤ b := by rw [hg]; exact h
theorem kc {α : Type} {d : Kd α} {w W : World} {A : Option Addr} {n : Nat} {xs : List α} (h : d.C w A n xs) (e : d.C w A n xs → d.C W A n xs := by intro h; repeat (first | exact h | (with_reducible refine Kd.C_alloc ?_ _) | (with_reducible refine Kd.C_drewN ?_ _) | (with_reducible refine Kd.C_drew ?_))) : d.C W A n xs := e h
theorem am {α : Type} {x y : α} (e : x = y := by (try simp only [List.map_toArray, List.map_cons, List.map_nil]); first | done | rfl | (simp only [List.length_drop, List.length_take]; rfl)) : x = y := e
theorem bc {w : World} {g : Nat} {t : TypeId} {cs : Array Value} {v : Value} (h : Aside0 (w.heap[g]? = some (.cells cs t (0, 0)))) (i : Nat) (e : cs[i]? = some v := by rfl) : w.cell? ⟨g, i, none⟩ = some v := (blk_cell h.out i).trans e

/-- copy(v[off:off+m], ys), v a row of scalars of one's own: m cells from off on are ys' then. -/
theorem R_copy_at {P : Program} {ops : Array Oper} {rest : List Oper} {o : Oper} {a : Act} {Q : Exit → Act → World → Prop} {α : Type} {enc : α → Value} {h1 : ∀ x, (enc x).oneCell' = true} (d : α) {w0 W : World} (base : Nat) (hgd : o.guard = none) (s x : Operand) (t t' e : TypeId)
    (ho : o.op = .call { callee := .builtin .copy, args := #[s, x], argTypes := #[t, t'] }) (ht : P.underlying t = some (.slice e)) (hinfo : (P.info? e).map (·.size) = some 1)
    (g n cap off m cc : Nat) (xs ys : List α) (A : Option Addr) (m' c : Nat) (ok : Nat → Prop) (hs : a.eval s = .slice (some ⟨g, off, none⟩) m cc) (hx : a.eval x = .slice A m' c)
    (hm : 0 < m) (hmm : m ≤ m') (hfit : off + m ≤ xs.length)
    (HO : (Kd.scalar enc h1).R e W base ok (.slice (some ⟨g, 0, none⟩) n cap) xs) (HR : (Kd.scalar enc h1).C W A m' ys) (HB : Below base w0 W) (hbase : base ≤ W.heap.size)
    (h : ∀ w1, (Kd.scalar enc h1).R e w1 base ok (.slice (some ⟨g, 0, none⟩) n cap) (xs.take off ++ (ys.take m ++ xs.drop (off + m))) → Below base w0 w1 → W.grownBy w1 (some g) → wpList P ops Q rest (a.put o.dst (.int .i64 ((m : Nat) : Int))) w1) :
    wpList P ops Q (o :: rest) a W := by
  have hR := Kd.reads_of_C (enc := enc) (d := d) (h1 := h1) HR
  have hml : ys.length = m' := hR.1
  have hown := Kd.own_of_R HO
  obtain ⟨ad, hA, hc⟩ := hR.2.2 (by omega)
  rcases hown.2 with ⟨hv, _⟩ | ⟨g', cap', cur, hv, hb, hh, hnc, hcm, hcs, htake⟩
  · cases hv
  injection hv with e1 e2 e3
  injection e1 with e1
  injection e1 with e1
  subst e1
  subst e2
  subst e3
  have hcs1 : cur.size = cap := by omega
  have hkl : (encs enc (ys.take m)).length = m := by rw [encs_length, List.length_take]; omega
  have hsrc : ∀ j u, (encs enc (ys.take m))[j]? = some u → W.cell? (ad.add j) = some u := by
    intro j u hu
    have hj : j < (ys.take m).length := by
      rcases Nat.lt_or_ge j (ys.take m).length with h | h
      · exact h
      · rw [List.getElem?_eq_none (by rw [encs_length]; exact h)] at hu
        cases hu
    have hjm : j < m := by rw [List.length_take] at hj; omega
    rw [encs_get (d := d) _ j hj] at hu
    rw [hc j (by omega), ← hu]
    simp [List.getD_eq_getElem?_getD, hjm]
  have hr := run_copy_cells (P := P) W t t' o.type e g off m cc ad m' c (encs enc (ys.take m)) ht hinfo (by rw [hkl]; exact (Nat.min_eq_right hmm).symm) hsrc
    (fun j hj => by rw [cell_of_row W g _ cur e (0, 0) hh]; simp; omega) (fun j _ => blk_frozen hh _) (by intro u hu; simp only [encs, List.mem_map] at hu; obtain ⟨q, _, rfl⟩ := hu; exact h1 q)
  obtain ⟨cur', h3, h4, h5⟩ := setCells_row (encs enc (ys.take m)) off W cur hh (by rw [hkl]; omega)
  obtain ⟨s1, s2, s3, s4⟩ := setCells_same g (encs enc (ys.take m)) off W
  have hg : W.grownBy (W.setCells g off (encs enc (ys.take m))) (some g) := ⟨s1, s2, s3, by rw [s4]; exact Nat.le_refl _, fun k _ hk => setCells_far _ _ k (fun he => hk (by rw [he]))⟩
  have hln : (xs.take off ++ (ys.take m ++ xs.drop (off + m))).length = xs.length := by
    rw [List.length_append, List.length_append, List.length_take, List.length_take, List.length_drop]
    omega
  have hrow : (Kd.scalar enc h1).R e (W.setCells g off (encs enc (ys.take m))) base ok (.slice (some ⟨g, 0, none⟩) xs.length cap) (xs.take off ++ (ys.take m ++ xs.drop (off + m))) := by
    refine Kd.R_of_own ?_ HO.1
    rw [hln]
    refine ⟨by rw [encs_length, hln, Nat.mul_one], .inr ⟨g, cap, cur', rfl, hb, h3, hnc, hcm, by rw [h4, hcs], ?_⟩⟩
    have htk : encs enc xs = cur.toList.take xs.length := by rw [← htake, Nat.mul_one]
    have e4 : encs enc (xs.take off) = cur.toList.take off := by
      rw [show encs enc (xs.take off) = (encs enc xs).take off by simp [encs, List.map_take], htk, List.take_take, Nat.min_eq_left (by omega)]
    have e5 : encs enc (xs.drop (off + m)) = (cur.toList.drop (off + m)).take (xs.length - (off + m)) := by
      rw [show encs enc (xs.drop (off + m)) = (encs enc xs).drop (off + m) by simp [encs, List.map_drop], htk, List.drop_take]
    have hoff : (cur.toList.take off).length = off := by rw [List.length_take, Array.length_toList]; omega
    rw [h5, hkl, encs_append, encs_append, e4, e5, Nat.mul_one, List.append_assoc, List.take_append, hoff, List.take_append, hkl, List.take_of_length_le (by rw [hoff]; omega), List.take_of_length_le (l := encs enc (ys.take m)) (by rw [hkl]; omega)]
    rw [show xs.length - off - m = xs.length - (off + m) by omega]
  refine wpList_plain hgd fun K hK => ?_
  unfold Oper.wp execOp
  have hr' : (Builtin.copy_ #[t, t'] o.type #[.slice (some ⟨g, off, none⟩) m cc, .slice A m' c]).run P W = .ok (goInt ((m : Nat) : Int)) (W.setCells g off (encs enc (ys.take m))) := by rw [hA, hr, hkl]
  simp only [ho, resolve, invoke, builtin, Sem.run_bind, Sem.run_pure, Result.andThen_ok, List.map_toArray, List.map_cons, List.map_nil, hs, hx, hr']
  exact hK _ _ (h _ hrow (HB.grown hg hbase (own_base hown)) hg)

/-- A row told apart from one that grew: still apart, where it lay in the older memory. -/
theorem apart_grown {W : World} {a v v1 : Value} (h : ∀ j, some j = a.ownBlock → some j ≠ v.ownBlock) (hl : ∀ j, a.ownBlock = some j → j < W.heap.size) (hat : v1.ownBlock = v.ownBlock ∨ ∃ b, v1.ownBlock = some b ∧ W.heap.size ≤ b) : ∀ j, some j = a.ownBlock → some j ≠ v1.ownBlock := by
  intro j hj
  rcases hat with e | ⟨b, e, hb⟩
  · rw [e]
    exact h j hj
  · rw [e]
    intro e2
    injection e2 with e2
    have := hl j hj.symm
    omega

end Go.Proofs.Ytpadegboplcapaa.B
