/- What the proof of the law needs, trimmed and merged by wip/pack.py out of the texts YtingjpcgehgiiaaExtFlip, YtingjpcgehgiiaaExtSplit, YtingjpcgehgiiaaLit, YtingjpcgehgiiaaExtAlive. No condition. -/
import Derived.Test.YtingjpcgehgiiaaKCurveMakes0
import Derived.Test.YtingjpcgehgiiaaKCurveMakes1
import Derived.Test.YtingjpcgehgiiaaKCurveMakes2
import Derived.Test.YtingjpcgehgiiaaKCurveMakes3
import Derived.Test.YtingjpcgehgiiaaKCurveMakes4
import Derived.Test.YtingjpcgehgiiaaKCurveMakes5
import Derived.Test.YtingjpcgehgiiaaKCurveMakes6
import Derived.Test.YtingjpcgehgiiaaKCurveMakes7
import Derived.Test.YtingjpcgehgiiaaKCurveMakes8
import Derived.Test.YtingjpcgehgiiaaKCurveMakes9
section
namespace Go.Proofs.Ytingjpcgehgiiaa.Pr
open Go.RowKit Go.Shelf Go.Proofs.YtingjpcgehgiiaaW.PrintWords Go.Proofs.YtingjpcgehgiiaaW.PrintLast Go.Proofs.YtingjpcgehgiiaaW.PrintMore
attribute [local go_sem] Oper.semAt_some
set_option linter.unusedVariables false
set_option linter.unusedSimpArgs false
def flip_T3 : Bool × List (List Nat × List Nat) := (true, [([], []), ([0], [0]), ([1], [1]), ([], []), ([], []), ([4, 1], [4]), ([3, 5, 5], [3, 5]), ([2, 6], [2, 6]), ([], []), ([8, 7, 6, 0, 1, 2, 3, 4, 5, 6, 7, 8], [7, 8])])
def flip_B3 : List Nat := [0, 1, 3, 0, 0, 19, 59, 127, 0, 511]
theorem flip_tab3 : rtab .any (opsOf Try.f41 3) = flip_T3 := by kernel_rfl
theorem flip_bits3 : waitsOk flip_T3.2 flip_B3 = true := by kernel_rfl
theorem wp_noout {P : Program} {c : Code} {K : Act → World → Prop} {Q : Exit → Act → World → Prop} {a : Act} {w : World} (h : c.wp P (Exit.then K (fun _ _ _ => False)) a w) : c.wp P (Exit.then K Q) a w :=
  Code.wp_mono (fun e a w hq => by cases e <;> first | exact hq | exact hq.elim) h
set_option maxHeartbeats 8000000 in
set_option maxRecDepth 100000 in
theorem flip_bad (a0_0 a0_1 : Int) (A0_2 : Option Addr) (c0_2 : Nat) (l0_2 : List Int) (w : World) (hr0_2 : Kd.C (Kd.int .i64) w A0_2 l0_2.length l0_2) (hc0_2 : l0_2.length ≤ c0_2) (hv : curve_Valid.f a0_0 a0_1 l0_2 = some false) :
    Calls Try.prog 41 #[.agg #[.int .i64 a0_0, .int .i64 a0_1, .slice A0_2 l0_2.length c0_2]] w fun e w' => ∃ v_ : Value, e = .returned (.tuple #[.agg #[.int .i64 0, .int .i64 0, v_], .int .i64 2]) ∧ Kd.R (Kd.int .i64) 3 w' w.heap.size (fun _ => True) v_ [] ∧ Below w.heap.size w w' := by
  have HR0 := Aside0.mk hr0_2; have HC0 := Aside0.mk hc0_2; have hu24 := Try.underlying24; have V0 := Aside0.mk hv; clear hr0_2 hc0_2 hv; go_enter Try.func41, Try.ntmps41
  go_wp2_with (first | ((with_reducible refine gate_dst (N := 1) rfl ?_); refine box_event ?hg (N := 1) ?hd (cs := #[.int .i64 a0_0, .int .i64 a0_1, .slice A0_2 l0_2.length c0_2]) (t := 24) ?hr ?_; (case hd => rfl); (case hg => rfl); (case hr => first | (go_simp; done) | (go_simp; rfl)); intro g2 hg w1 hbox hb; have HB1 := Aside0.mk hb; have BKa1 := Aside0.mk hbox; clear hb hg hbox) | ((with_reducible refine gate_dst (N := 2) rfl ?_); refine box_event ?hg (N := 2) ?hd (cs := #[.int .i64 0, .int .i64 0, .slice none 0 0]) (t := 24) ?hr ?_; (case hd => rfl); (case hg => rfl); (case hr => first | (go_simp; done) | (go_simp; rfl)); intro g4 hg w2 hbox hb; have HB2 := Aside0.mk (below_then HB1.out HB1.out.size hb); have BKa2 := Aside0.mk (blk_below BKa1.out hb); have BKb2 := Aside0.mk hbox; have GE := Aside0.mk (show w.heap.size ≤ g4 by rw [hg]; exact HB1.out.size); clear hb hg hbox HB1 BKa1; have hx0 : w2.cell? ⟨g2, 0, none⟩ = some (.int .i64 a0_0) := (blk_cell BKa2.out 0).trans rfl; have hx1 : w2.cell? ⟨g2, 1, none⟩ = some (.int .i64 a0_1) := (blk_cell BKa2.out 1).trans rfl; have hx2 : w2.cell? ⟨g2, 2, none⟩ = some (.slice A0_2 l0_2.length c0_2) := (blk_cell BKa2.out 2).trans rfl))
  go_wp2_with (go_at_call 16; (with_reducible refine (curve_Valid.calls a0_0 a0_1 _ _ l0_2 _ _ (Kd.C_below HR0.out HB2.out) HC0.out V0.out).mono ?_); rintro e w4 ⟨rfl, hb4⟩; have HB4 := Aside0.mk (below_then HB2.out HB2.out.size hb4); have BKb4 := Aside0.mk (blk_below BKb2.out hb4); clear hb4 HB2 BKa2 BKb2 hx0 hx1 hx2; have hz0 : w4.cell? ⟨g4, 0, none⟩ = some (.int .i64 0) := (blk_cell BKb4.out 0).trans rfl; have hf0 := blk_frozen BKb4.out 0; have hz1 : w4.cell? ⟨g4, 1, none⟩ = some (.int .i64 0) := (blk_cell BKb4.out 1).trans rfl; have hf1 := blk_frozen BKb4.out 1; have hz2 : w4.cell? ⟨g4, 2, none⟩ = some (.slice none 0 0) := (blk_cell BKb4.out 2).trans rfl; have hf2 := blk_frozen BKb4.out 2)
  go_wp2
  obtain ⟨e1, e2, e3⟩ := store_curve (x := 0) (y := 0) (v := .slice none 0 0) HB4.out GE.out BKb4.out (Kd.R_nil _ _ _ _ _); refine bodyPost_ret (results_ct rfl _ _ g4 24 _ (0, 0) _ rfl e1 Try.underlying24 rfl (by kernel_rfl)) rfl ?_; exact ⟨_, rfl, e2, e3⟩
set_option maxHeartbeats 8000000 in
set_option maxRecDepth 100000 in
theorem flip_in (n : Nat) (hn : 4 ≤ n) (a0_0 a0_1 : Int) (A0_2 : Option Addr) (c0_2 : Nat) (l0_2 : List Int) (hi va r1 r2 : Int) (r3 : List Int) (r4 : Int) (w : World) (hr0_2 : Kd.C (Kd.int .i64) w A0_2 l0_2.length l0_2) (hc0_2 : l0_2.length ≤ c0_2) (hv : curve_Valid.f a0_0 a0_1 l0_2 = some true) (hto : curve_to.f a0_0 a0_1 l0_2 = some hi) (hat : curve_at.f a0_0 a0_1 l0_2 hi = some va) (hlen : l0_2.length ≤ 64)
    (hm : curve_made.f (wrap64 (-hi)) va (negs l0_2.reverse) = some (r1, r2, r3, r4)) :
    CallsIn Fence.wide n Try.prog 41 #[.agg #[.int .i64 a0_0, .int .i64 a0_1, .slice A0_2 l0_2.length c0_2]] w fun e w' => ∃ v_ : Value, e = .returned (.tuple #[.agg #[.int .i64 r1, .int .i64 r2, v_], .int .i64 r4]) ∧ Kd.R (Kd.int .i64) 3 w' w.heap.size (fun _ => True) v_ r3 ∧ Below w.heap.size w w' := by
  have h1 : 1 ≤ n := by omega
  have HR0 := Aside0.mk hr0_2; have HC0 := Aside0.mk hc0_2; have hu24 := Try.underlying24; have V0 := Aside0.mk hv; have HTO := Aside0.mk hto; have HAT := Aside0.mk hat; have HLEN := Aside0.mk hlen; have HM := Aside0.mk hm; clear hr0_2 hc0_2 hv hto hat hlen hm; refine callsIn_of_wp_marks Try.func41 rfl trivial ?_ rfl; simp only [Try.ntmps41, List.size_toArray, List.length_cons, List.length_nil, Nat.reduceAdd, Nat.reduceSub, Array.replicate_succ, Array.replicate_zero, List.push_toArray, List.append_toArray, List.nil_append, List.cons_append]; refine wpIn_wide.2 ?_; go_wp2_with (first | ((with_reducible refine gate_dst (N := 1) rfl ?_); refine box_event ?hg (N := 1) ?hd (cs := #[.int .i64 a0_0, .int .i64 a0_1, .slice A0_2 l0_2.length c0_2]) (t := 24) ?hr ?_; (case hd => rfl); (case hg => rfl); (case hr => first | (go_simp; done) | (go_simp; rfl)); intro g2 hg w1 hbox hb; have HB1 := Aside0.mk hb; have BKa1 := Aside0.mk hbox; clear hb hg hbox) | ((with_reducible refine gate_dst (N := 2) rfl ?_); refine box_event ?hg (N := 2) ?hd (cs := #[.int .i64 0, .int .i64 0, .slice none 0 0]) (t := 24) ?hr ?_; (case hd => rfl); (case hg => rfl); (case hr => first | (go_simp; done) | (go_simp; rfl)); intro g4 hg w2 hbox hb; have HB2 := Aside0.mk (below_then HB1.out HB1.out.size hb); have BKa2 := Aside0.mk (blk_below BKa1.out hb); have BKb2 := Aside0.mk hbox; have GE := Aside0.mk (show w.heap.size ≤ g4 by rw [hg]; exact HB1.out.size); clear hb hg hbox HB1 BKa1; have hx0 : w2.cell? ⟨g2, 0, none⟩ = some (.int .i64 a0_0) := (blk_cell BKa2.out 0).trans rfl; have hx1 : w2.cell? ⟨g2, 1, none⟩ = some (.int .i64 a0_1) := (blk_cell BKa2.out 1).trans rfl; have hx2 : w2.cell? ⟨g2, 2, none⟩ = some (.slice A0_2 l0_2.length c0_2) := (blk_cell BKa2.out 2).trans rfl))
  go_upto_region 3 with (go_at_call 16; (with_reducible refine (curve_Valid.calls a0_0 a0_1 _ _ l0_2 _ _ (Kd.C_below HR0.out HB2.out) HC0.out V0.out).mono ?_); rintro e wq ⟨rfl, hb4⟩; have HB := Aside0.mk (below_then HB2.out HB2.out.size hb4); have B4 := Aside0.mk (blk_below BKb2.out hb4); have B2 := Aside0.mk (blk_below BKa2.out hb4); clear hb4 HB2 BKa2 BKb2 hx0 hx1 hx2; have hx0 : wq.cell? ⟨g2, 0, none⟩ = some (.int .i64 a0_0) := (blk_cell B2.out 0).trans rfl; have hx1 : wq.cell? ⟨g2, 1, none⟩ = some (.int .i64 a0_1) := (blk_cell B2.out 1).trans rfl; have hx2 : wq.cell? ⟨g2, 2, none⟩ = some (.slice A0_2 l0_2.length c0_2) := (blk_cell B2.out 2).trans rfl; clear B2)
  refine wp_noout ?_; refine start_ (n := 10) (S := fun w' => (w'.cell? ⟨g2, 0, none⟩ = some (.int .i64 a0_0) ∧ w'.cell? ⟨g2, 1, none⟩ = some (.int .i64 a0_1) ∧ w'.cell? ⟨g2, 2, none⟩ = some (.slice A0_2 l0_2.length c0_2))) (ds := []) #[false, false, false, false, false, false, false, false, false, false] (by kernel_rfl) rfl rfl ⟨hx0, hx1, hx2⟩ (fun hHeld => ?_); refine with_tabW flip_tab3 flip_bits3 (fun HT_ HW_ => ?_); clear hx0 hx1 hx2; have n0_ := Aside0.mk (blk_drew B4.out); have n1_ := Aside0.mk (below_drew1 HB.out); clear B4 HB; have B4 := n0_; have HB := n1_; clear n0_ n1_; generalize wq.drew = wd at B4 HB hHeld ⊢; refine take_ (i := 0) (N := some 11) (v := ?_) (a' := ?_) #[true, false, false, false, false, false, false, false, false, false] rfl rfl (take_ofW HT_.out HW_.out (by kernel_rfl)) (fun _ _ _ h => h) (Or.inl ⟨by rfl, ?_⟩) hHeld ?_ ?_; rotate_left
  · rintro w' ⟨s0, s1_, s2_⟩; go_simp
    with_reducible rfl
  rotate_left
  · simp only [Act.put, zs1, zs2, zs3, i64_w, i32_w]; rfl
  refine take_ (i := 3) (N := some 14) (v := ?_) (a' := ?_) #[true, false, false, true, false, false, false, false, false, false] rfl rfl (take_ofW HT_.out HW_.out (by kernel_rfl)) (fun _ _ _ h => h) (Or.inl ⟨by rfl, ?_⟩) hHeld ?_ ?_; rotate_left
  · rintro w' ⟨s0, s1_, s2_⟩; go_simp
    with_reducible rfl
  rotate_left
  · simp only [Act.put, zs1, zs2, zs3, i64_w, i32_w]; rfl
  refine take_ (i := 4) (N := some 15) (v := ?_) (a' := ?_) #[true, false, false, true, true, false, false, false, false, false] rfl rfl (take_ofW HT_.out HW_.out (by kernel_rfl)) (fun _ _ _ h => h) (Or.inl ⟨by rfl, ?_⟩) hHeld ?_ ?_; rotate_left
  · rintro w' ⟨s0, s1_, s2_⟩; go_simp
    with_reducible rfl
  rotate_left
  · simp only [Act.put, zs1, zs2, zs3, i64_w, i32_w]; rfl
  refine join_ (σ := Nat) 1 #[true, true, true, true, true, true, true, true, true, false] (fun s_ => [(12, .int .i64 hi), (13, .int .i64 (wrap64 (-hi))), (16, .int .i64 hi), (17, .int .i64 va), (18, .agg #[.int .i64 (wrap64 (-hi)), .int .i64 va, .slice none 0 0]), (4, .pointer (some ⟨s_, 0, none⟩))]) (fun s_ w' => (w'.cell? ⟨g2, 0, none⟩ = some (.int .i64 a0_0) ∧ w'.cell? ⟨g2, 1, none⟩ = some (.int .i64 a0_1) ∧ w'.cell? ⟨g2, 2, none⟩ = some (.slice A0_2 l0_2.length c0_2)) ∧ (w'.heap[g4]? = some (.cells #[.int .i64 0, .int .i64 0, .slice none 0 0] 24 (0, 0))) ∧ (w'.heap[s_]? = some (.cells #[.int .i64 0, .int .i64 0, .slice none 0 0] 24 (0, 0))) ∧ (w.heap.size ≤ s_) ∧ (g4 ≠ s_) ∧ (g2 ≠ s_) ∧ (Below w.heap.size w w')) ?_ ?_; rotate_left
  · intro J_c1c2c3a; refine join_ (σ := Unit) 2 #[true, true, true, true, true, true, true, true, false, false] (fun s_ => [(12, .int .i64 hi), (13, .int .i64 (wrap64 (-hi))), (16, .int .i64 hi), (17, .int .i64 va), (18, .agg #[.int .i64 (wrap64 (-hi)), .int .i64 va, .slice none 0 0])]) (fun s_ w' => (w'.cell? ⟨g2, 0, none⟩ = some (.int .i64 a0_0) ∧ w'.cell? ⟨g2, 1, none⟩ = some (.int .i64 a0_1) ∧ w'.cell? ⟨g2, 2, none⟩ = some (.slice A0_2 l0_2.length c0_2)) ∧ (w'.heap[g4]? = some (.cells #[.int .i64 0, .int .i64 0, .slice none 0 0] 24 (0, 0))) ∧ (Below w.heap.size w w')) ?_ ?_; rotate_left
    · intro J_c1c2c3; refine join_ (σ := Nat) 3 #[true, true, true, true, true, true, false, false, true, false] (fun s_ => [(12, .int .i64 hi), (13, .int .i64 (wrap64 (-hi))), (16, .int .i64 hi), (4, .pointer (some ⟨s_, 0, none⟩))]) (fun s_ w' => (w'.cell? ⟨g2, 0, none⟩ = some (.int .i64 a0_0) ∧ w'.cell? ⟨g2, 1, none⟩ = some (.int .i64 a0_1) ∧ w'.cell? ⟨g2, 2, none⟩ = some (.slice A0_2 l0_2.length c0_2)) ∧ (w'.heap[g4]? = some (.cells #[.int .i64 0, .int .i64 0, .slice none 0 0] 24 (0, 0))) ∧ (w'.heap[s_]? = some (.cells #[.int .i64 0, .int .i64 0, .slice none 0 0] 24 (0, 0))) ∧ (w.heap.size ≤ s_) ∧ (g4 ≠ s_) ∧ (g2 ≠ s_) ∧ (Below w.heap.size w w')) ?_ ?_; rotate_left
      · intro J_c1c2a; refine join_ (σ := Nat) 4 #[true, true, true, true, true, false, false, false, true, false] (fun s_ => [(12, .int .i64 hi), (13, .int .i64 (wrap64 (-hi))), (4, .pointer (some ⟨s_, 0, none⟩))]) (fun s_ w' => (w'.cell? ⟨g2, 0, none⟩ = some (.int .i64 a0_0) ∧ w'.cell? ⟨g2, 1, none⟩ = some (.int .i64 a0_1) ∧ w'.cell? ⟨g2, 2, none⟩ = some (.slice A0_2 l0_2.length c0_2)) ∧ (w'.heap[g4]? = some (.cells #[.int .i64 0, .int .i64 0, .slice none 0 0] 24 (0, 0))) ∧ (w'.heap[s_]? = some (.cells #[.int .i64 0, .int .i64 0, .slice none 0 0] 24 (0, 0))) ∧ (w.heap.size ≤ s_) ∧ (g4 ≠ s_) ∧ (g2 ≠ s_) ∧ (Below w.heap.size w w')) ?_ ?_; rotate_left
        · intro J_c1a; refine join_ (σ := Unit) 4 #[true, true, true, true, true, true, false, false, false, false] (fun s_ => [(12, .int .i64 hi), (13, .int .i64 (wrap64 (-hi))), (16, .int .i64 hi)]) (fun s_ w' => (w'.cell? ⟨g2, 0, none⟩ = some (.int .i64 a0_0) ∧ w'.cell? ⟨g2, 1, none⟩ = some (.int .i64 a0_1) ∧ w'.cell? ⟨g2, 2, none⟩ = some (.slice A0_2 l0_2.length c0_2)) ∧ (w'.heap[g4]? = some (.cells #[.int .i64 0, .int .i64 0, .slice none 0 0] 24 (0, 0))) ∧ (Below w.heap.size w w')) ?_ ?_; rotate_left
          · intro J_c1c2; refine join_ (σ := Unit) 5 #[true, true, true, true, true, false, false, false, false, false] (fun s_ => [(12, .int .i64 hi), (13, .int .i64 (wrap64 (-hi)))]) (fun s_ w' => (w'.cell? ⟨g2, 0, none⟩ = some (.int .i64 a0_0) ∧ w'.cell? ⟨g2, 1, none⟩ = some (.int .i64 a0_1) ∧ w'.cell? ⟨g2, 2, none⟩ = some (.slice A0_2 l0_2.length c0_2)) ∧ (w'.heap[g4]? = some (.cells #[.int .i64 0, .int .i64 0, .slice none 0 0] 24 (0, 0))) ∧ (Below w.heap.size w w')) ?_ ?_; rotate_left
            · intro J_c1; refine join_ (σ := Nat) 6 #[true, false, false, true, true, false, false, false, true, false] (fun s_ => [(4, .pointer (some ⟨s_, 0, none⟩))]) (fun s_ w' => (w'.cell? ⟨g2, 0, none⟩ = some (.int .i64 a0_0) ∧ w'.cell? ⟨g2, 1, none⟩ = some (.int .i64 a0_1) ∧ w'.cell? ⟨g2, 2, none⟩ = some (.slice A0_2 l0_2.length c0_2)) ∧ (w'.heap[g4]? = some (.cells #[.int .i64 0, .int .i64 0, .slice none 0 0] 24 (0, 0))) ∧ (w'.heap[s_]? = some (.cells #[.int .i64 0, .int .i64 0, .slice none 0 0] 24 (0, 0))) ∧ (w.heap.size ≤ s_) ∧ (g4 ≠ s_) ∧ (g2 ≠ s_) ∧ (Below w.heap.size w w')) ?_ ?_; rotate_left
              · intro J_a; refine two_ (i := 1) (j := 8) (Ni := some 12) (Nj := some 4) #[true, true, false, true, true, false, false, false, false, false] #[true, false, false, true, true, false, false, false, true, false] rfl rfl rfl rfl (two_of HT_.out (by kernel_rfl)) (by decide) (by decide) (fun K hK => ?_) (fun K hK => ?_)
                · skip; refine gO Try.func58 #[.agg #[.int .i64 a0_0, .int .i64 a0_1, .slice A0_2 l0_2.length c0_2]] ?_
                  with_reducible refine (curve_to.calls a0_0 a0_1 A0_2 c0_2 l0_2 _ _ (Kd.C_below HR0.out HB.out) HC0.out HTO.out).mono ?_
                  rintro e w_ ⟨rfl, hb⟩; refine ⟨_, rfl, ?_⟩; have n0_ := Aside0.mk (blk_below B4.out hb); have n1_ := Aside0.mk (below_step HB.out hb); refine hK.out _ _ ⟨bca_ hb hHeld.1, bca_ hb hHeld.2.1, bca_ hb hHeld.2.2⟩ (fun hHeld2 => ?_); clear hK K; refine norm_ (a' := ?_) ?_ ?_; rotate_left
                  · show Act.put _ (some 12) _ = _; simp only [Act.put, zs1, zs2, zs3, i64_w, i32_w]; rfl
                  refine pure_ (i := 2) (N := some 13) (v := ?_) (a' := ?_) #[true, true, true, true, true, false, false, false, false, false] rfl rfl (any_of HT_.out (by kernel_rfl)) (fun _ _ _ h => h) (Or.inl ⟨by rfl, ?_⟩) ?_ ?_; rotate_left
                  · intro w'; go_simp
                    with_reducible rfl
                  rotate_left
                  · simp only [Act.put, zs1, zs2, zs3, i64_w, i32_w]; rfl
                  exact norm_ (by first | (simp only [putAll, Act.put, zs1, zs2, zs3]; done) | (simp only [putAll, Act.put, zs1, zs2, zs3]; rfl)) (J_c1 () _ ⟨hHeld2, n0_.out, n1_.out⟩)
                · skip; refine box_step ?hg (N := 4) ?hd (cs := #[.int .i64 0, .int .i64 0, .slice none 0 0]) (t := 24) ?hr ?_; (case hd => rfl); (case hg => rfl); (case hr => first | (go_simp; done) | (go_simp; rfl)); intro g8 hg w_ hbox hb; have n0_ := Aside0.mk (blk_below B4.out hb); have n1_ := Aside0.mk (hbox); have n2_ := Aside0.mk ((show w.heap.size ≤ g8 by rw [hg]; exact below_size HB.out)); have n3_ := Aside0.mk ((show g4 ≠ g8 by rw [hg]; exact Nat.ne_of_lt (blk_lt B4.out))); have n4_ := Aside0.mk ((show g2 ≠ g8 by rw [hg]; exact Nat.ne_of_lt (World.block_lt_of_cell? _ _ hHeld.1))); have n5_ := Aside0.mk (below_step HB.out hb); refine hK.out _ _ ⟨bca_ hb hHeld.1, bca_ hb hHeld.2.1, bca_ hb hHeld.2.2⟩ (fun hHeld2 => ?_); clear hK K; refine norm_ (a' := ?_) ?_ ?_; rotate_left
                  · show Act.put _ (some 4) _ = _; simp only [Act.put, zs1, zs2, zs3, i64_w, i32_w]; rfl
                  exact norm_ (by first | (simp only [putAll, Act.put, zs1, zs2, zs3]; done) | (simp only [putAll, Act.put, zs1, zs2, zs3]; rfl)) (J_a g8 _ ⟨hHeld2, n0_.out, n1_.out, n2_.out, n3_.out, n4_.out, n5_.out⟩)
              · skip; rintro g8 w_ ⟨hS_, h0_, h1_, h2_, h3_, h4_, h5_⟩; clear B4 HB hHeld; have hHeld : (w_.cell? ⟨g2, 0, none⟩ = some (.int .i64 a0_0) ∧ w_.cell? ⟨g2, 1, none⟩ = some (.int .i64 a0_1) ∧ w_.cell? ⟨g2, 2, none⟩ = some (.slice A0_2 l0_2.length c0_2)) := hS_; have B4 : Aside0 (w_.heap[g4]? = some (.cells #[.int .i64 0, .int .i64 0, .slice none 0 0] 24 (0, 0))) := ⟨h0_⟩; have X8 : Aside0 (w_.heap[g8]? = some (.cells #[.int .i64 0, .int .i64 0, .slice none 0 0] 24 (0, 0))) := ⟨h1_⟩; have E8 : Aside0 (w.heap.size ≤ g8) := ⟨h2_⟩; have N48 : Aside0 (g4 ≠ g8) := ⟨h3_⟩; have N28 : Aside0 (g2 ≠ g8) := ⟨h4_⟩; have HB : Aside0 (Below w.heap.size w w_) := ⟨h5_⟩; clear hS_ h0_ h1_ h2_ h3_ h4_ h5_; refine norm_ (a' := ?_) ?_ ?_; rotate_left
                · simp only [putAll, Act.put, zs1, zs2, zs3]; rfl
                refine one_ (i := 1) (N := some 12) #[true, true, false, true, true, false, false, false, true, false] rfl rfl (one_of HT_.out (by kernel_rfl)) (by decide) (fun K hK => ?_); refine gO Try.func58 #[.agg #[.int .i64 a0_0, .int .i64 a0_1, .slice A0_2 l0_2.length c0_2]] ?_
                with_reducible refine (curve_to.calls a0_0 a0_1 A0_2 c0_2 l0_2 _ _ (Kd.C_below HR0.out HB.out) HC0.out HTO.out).mono ?_
                rintro e w_ ⟨rfl, hb⟩; refine ⟨_, rfl, ?_⟩; have n0_ := Aside0.mk (blk_below B4.out hb); have n1_ := Aside0.mk (blk_below X8.out hb); have n2_ := Aside0.mk (E8.out); have n3_ := Aside0.mk (N48.out); have n4_ := Aside0.mk (N28.out); have n5_ := Aside0.mk (below_step HB.out hb); refine hK.out _ _ ⟨bca_ hb hHeld.1, bca_ hb hHeld.2.1, bca_ hb hHeld.2.2⟩ (fun hHeld2 => ?_); clear hK K; refine norm_ (a' := ?_) ?_ ?_; rotate_left
                · show Act.put _ (some 12) _ = _; simp only [Act.put, zs1, zs2, zs3, i64_w, i32_w]; rfl
                refine pure_ (i := 2) (N := some 13) (v := ?_) (a' := ?_) #[true, true, true, true, true, false, false, false, true, false] rfl rfl (any_of HT_.out (by kernel_rfl)) (fun _ _ _ h => h) (Or.inl ⟨by rfl, ?_⟩) ?_ ?_; rotate_left
                · intro w'; go_simp
                  with_reducible rfl
                rotate_left
                · simp only [Act.put, zs1, zs2, zs3, i64_w, i32_w]; rfl
                exact norm_ (by first | (simp only [putAll, Act.put, zs1, zs2, zs3]; done) | (simp only [putAll, Act.put, zs1, zs2, zs3]; rfl)) (J_c1a g8 _ ⟨hHeld2, n0_.out, n1_.out, n2_.out, n3_.out, n4_.out, n5_.out⟩)
            · skip; rintro _ w_ ⟨hS_, h0_, h1_⟩; clear B4 HB hHeld; have hHeld : (w_.cell? ⟨g2, 0, none⟩ = some (.int .i64 a0_0) ∧ w_.cell? ⟨g2, 1, none⟩ = some (.int .i64 a0_1) ∧ w_.cell? ⟨g2, 2, none⟩ = some (.slice A0_2 l0_2.length c0_2)) := hS_; have B4 : Aside0 (w_.heap[g4]? = some (.cells #[.int .i64 0, .int .i64 0, .slice none 0 0] 24 (0, 0))) := ⟨h0_⟩; have HB : Aside0 (Below w.heap.size w w_) := ⟨h1_⟩; clear hS_ h0_ h1_; refine norm_ (a' := ?_) ?_ ?_; rotate_left
              · simp only [putAll, Act.put, zs1, zs2, zs3]; rfl
              refine two_ (i := 5) (j := 8) (Ni := some 16) (Nj := some 4) #[true, true, true, true, true, true, false, false, false, false] #[true, true, true, true, true, false, false, false, true, false] rfl rfl rfl rfl (two_of HT_.out (by kernel_rfl)) (by decide) (by decide) (fun K hK => ?_) (fun K hK => ?_)
              · skip; refine gO Try.func58 #[.agg #[.int .i64 a0_0, .int .i64 a0_1, .slice A0_2 l0_2.length c0_2]] ?_
                with_reducible refine (curve_to.calls a0_0 a0_1 A0_2 c0_2 l0_2 _ _ (Kd.C_below HR0.out HB.out) HC0.out HTO.out).mono ?_
                rintro e w_ ⟨rfl, hb⟩; refine ⟨_, rfl, ?_⟩; have n0_ := Aside0.mk (blk_below B4.out hb); have n1_ := Aside0.mk (below_step HB.out hb); refine hK.out _ _ ⟨bca_ hb hHeld.1, bca_ hb hHeld.2.1, bca_ hb hHeld.2.2⟩ (fun hHeld2 => ?_); clear hK K; refine norm_ (a' := ?_) ?_ ?_; rotate_left
                · show Act.put _ (some 16) _ = _; simp only [Act.put, zs1, zs2, zs3, i64_w, i32_w]; rfl
                exact norm_ (by first | (simp only [putAll, Act.put, zs1, zs2, zs3]; done) | (simp only [putAll, Act.put, zs1, zs2, zs3]; rfl)) (J_c1c2 () _ ⟨hHeld2, n0_.out, n1_.out⟩)
              · skip; refine box_step ?hg (N := 4) ?hd (cs := #[.int .i64 0, .int .i64 0, .slice none 0 0]) (t := 24) ?hr ?_; (case hd => rfl); (case hg => rfl); (case hr => first | (go_simp; done) | (go_simp; rfl)); intro g8 hg w_ hbox hb; have n0_ := Aside0.mk (blk_below B4.out hb); have n1_ := Aside0.mk (hbox); have n2_ := Aside0.mk ((show w.heap.size ≤ g8 by rw [hg]; exact below_size HB.out)); have n3_ := Aside0.mk ((show g4 ≠ g8 by rw [hg]; exact Nat.ne_of_lt (blk_lt B4.out))); have n4_ := Aside0.mk ((show g2 ≠ g8 by rw [hg]; exact Nat.ne_of_lt (World.block_lt_of_cell? _ _ hHeld.1))); have n5_ := Aside0.mk (below_step HB.out hb); refine hK.out _ _ ⟨bca_ hb hHeld.1, bca_ hb hHeld.2.1, bca_ hb hHeld.2.2⟩ (fun hHeld2 => ?_); clear hK K; refine norm_ (a' := ?_) ?_ ?_; rotate_left
                · show Act.put _ (some 4) _ = _; simp only [Act.put, zs1, zs2, zs3, i64_w, i32_w]; rfl
                exact norm_ (by first | (simp only [putAll, Act.put, zs1, zs2, zs3]; done) | (simp only [putAll, Act.put, zs1, zs2, zs3]; rfl)) (J_c1a g8 _ ⟨hHeld2, n0_.out, n1_.out, n2_.out, n3_.out, n4_.out, n5_.out⟩)
          · skip; rintro _ w_ ⟨hS_, h0_, h1_⟩; clear B4 HB hHeld; have hHeld : (w_.cell? ⟨g2, 0, none⟩ = some (.int .i64 a0_0) ∧ w_.cell? ⟨g2, 1, none⟩ = some (.int .i64 a0_1) ∧ w_.cell? ⟨g2, 2, none⟩ = some (.slice A0_2 l0_2.length c0_2)) := hS_; have B4 : Aside0 (w_.heap[g4]? = some (.cells #[.int .i64 0, .int .i64 0, .slice none 0 0] 24 (0, 0))) := ⟨h0_⟩; have HB : Aside0 (Below w.heap.size w w_) := ⟨h1_⟩; clear hS_ h0_ h1_; refine norm_ (a' := ?_) ?_ ?_; rotate_left
            · simp only [putAll, Act.put, zs1, zs2, zs3]; rfl
            refine two_ (i := 6) (j := 8) (Ni := some 17) (Nj := some 4) #[true, true, true, true, true, true, true, false, false, false] #[true, true, true, true, true, true, false, false, true, false] rfl rfl rfl rfl (two_of HT_.out (by kernel_rfl)) (by decide) (by decide) (fun K hK => ?_) (fun K hK => ?_)
            · skip; refine gO Try.func61 #[.agg #[.int .i64 a0_0, .int .i64 a0_1, .slice A0_2 l0_2.length c0_2], .int .i64 hi] ?_
              with_reducible refine (curve_at.calls a0_0 a0_1 A0_2 c0_2 l0_2 _ _ _ (Kd.C_below HR0.out HB.out) HC0.out HAT.out).mono ?_
              rintro e w_ ⟨rfl, hb⟩; refine ⟨_, rfl, ?_⟩; have n0_ := Aside0.mk (blk_below B4.out hb); have n1_ := Aside0.mk (below_step HB.out hb); refine hK.out _ _ ⟨bca_ hb hHeld.1, bca_ hb hHeld.2.1, bca_ hb hHeld.2.2⟩ (fun hHeld2 => ?_); clear hK K; refine norm_ (a' := ?_) ?_ ?_; rotate_left
              · show Act.put _ (some 17) _ = _; simp only [Act.put, zs1, zs2, zs3, i64_w, i32_w]; rfl
              refine pure_ (i := 7) (N := some 18) (v := ?_) (a' := ?_) #[true, true, true, true, true, true, true, true, false, false] rfl rfl (any_of HT_.out (by kernel_rfl)) (fun _ _ _ h => h) (Or.inl ⟨by rfl, ?_⟩) ?_ ?_; rotate_left
              · intro w'; go_simp
                with_reducible rfl
              rotate_left
              · simp only [Act.put, zs1, zs2, zs3, i64_w, i32_w]; rfl
              exact norm_ (by first | (simp only [putAll, Act.put, zs1, zs2, zs3]; done) | (simp only [putAll, Act.put, zs1, zs2, zs3]; rfl)) (J_c1c2c3 () _ ⟨hHeld2, n0_.out, n1_.out⟩)
            · skip; refine box_step ?hg (N := 4) ?hd (cs := #[.int .i64 0, .int .i64 0, .slice none 0 0]) (t := 24) ?hr ?_; (case hd => rfl); (case hg => rfl); (case hr => first | (go_simp; done) | (go_simp; rfl)); intro g8 hg w_ hbox hb; have n0_ := Aside0.mk (blk_below B4.out hb); have n1_ := Aside0.mk (hbox); have n2_ := Aside0.mk ((show w.heap.size ≤ g8 by rw [hg]; exact below_size HB.out)); have n3_ := Aside0.mk ((show g4 ≠ g8 by rw [hg]; exact Nat.ne_of_lt (blk_lt B4.out))); have n4_ := Aside0.mk ((show g2 ≠ g8 by rw [hg]; exact Nat.ne_of_lt (World.block_lt_of_cell? _ _ hHeld.1))); have n5_ := Aside0.mk (below_step HB.out hb); refine hK.out _ _ ⟨bca_ hb hHeld.1, bca_ hb hHeld.2.1, bca_ hb hHeld.2.2⟩ (fun hHeld2 => ?_); clear hK K; refine norm_ (a' := ?_) ?_ ?_; rotate_left
              · show Act.put _ (some 4) _ = _; simp only [Act.put, zs1, zs2, zs3, i64_w, i32_w]; rfl
              exact norm_ (by first | (simp only [putAll, Act.put, zs1, zs2, zs3]; done) | (simp only [putAll, Act.put, zs1, zs2, zs3]; rfl)) (J_c1c2a g8 _ ⟨hHeld2, n0_.out, n1_.out, n2_.out, n3_.out, n4_.out, n5_.out⟩)
        · skip; rintro g8 w_ ⟨hS_, h0_, h1_, h2_, h3_, h4_, h5_⟩; clear B4 HB hHeld; have hHeld : (w_.cell? ⟨g2, 0, none⟩ = some (.int .i64 a0_0) ∧ w_.cell? ⟨g2, 1, none⟩ = some (.int .i64 a0_1) ∧ w_.cell? ⟨g2, 2, none⟩ = some (.slice A0_2 l0_2.length c0_2)) := hS_; have B4 : Aside0 (w_.heap[g4]? = some (.cells #[.int .i64 0, .int .i64 0, .slice none 0 0] 24 (0, 0))) := ⟨h0_⟩; have X8 : Aside0 (w_.heap[g8]? = some (.cells #[.int .i64 0, .int .i64 0, .slice none 0 0] 24 (0, 0))) := ⟨h1_⟩; have E8 : Aside0 (w.heap.size ≤ g8) := ⟨h2_⟩; have N48 : Aside0 (g4 ≠ g8) := ⟨h3_⟩; have N28 : Aside0 (g2 ≠ g8) := ⟨h4_⟩; have HB : Aside0 (Below w.heap.size w w_) := ⟨h5_⟩; clear hS_ h0_ h1_ h2_ h3_ h4_ h5_; refine norm_ (a' := ?_) ?_ ?_; rotate_left
          · simp only [putAll, Act.put, zs1, zs2, zs3]; rfl
          refine one_ (i := 5) (N := some 16) #[true, true, true, true, true, true, false, false, true, false] rfl rfl (one_of HT_.out (by kernel_rfl)) (by decide) (fun K hK => ?_); refine gO Try.func58 #[.agg #[.int .i64 a0_0, .int .i64 a0_1, .slice A0_2 l0_2.length c0_2]] ?_
          with_reducible refine (curve_to.calls a0_0 a0_1 A0_2 c0_2 l0_2 _ _ (Kd.C_below HR0.out HB.out) HC0.out HTO.out).mono ?_
          rintro e w_ ⟨rfl, hb⟩; refine ⟨_, rfl, ?_⟩; have n0_ := Aside0.mk (blk_below B4.out hb); have n1_ := Aside0.mk (blk_below X8.out hb); have n2_ := Aside0.mk (E8.out); have n3_ := Aside0.mk (N48.out); have n4_ := Aside0.mk (N28.out); have n5_ := Aside0.mk (below_step HB.out hb); refine hK.out _ _ ⟨bca_ hb hHeld.1, bca_ hb hHeld.2.1, bca_ hb hHeld.2.2⟩ (fun hHeld2 => ?_); clear hK K; refine norm_ (a' := ?_) ?_ ?_; rotate_left
          · show Act.put _ (some 16) _ = _; simp only [Act.put, zs1, zs2, zs3, i64_w, i32_w]; rfl
          exact norm_ (by first | (simp only [putAll, Act.put, zs1, zs2, zs3]; done) | (simp only [putAll, Act.put, zs1, zs2, zs3]; rfl)) (J_c1c2a g8 _ ⟨hHeld2, n0_.out, n1_.out, n2_.out, n3_.out, n4_.out, n5_.out⟩)
      · skip; rintro g8 w_ ⟨hS_, h0_, h1_, h2_, h3_, h4_, h5_⟩; clear B4 HB hHeld; have hHeld : (w_.cell? ⟨g2, 0, none⟩ = some (.int .i64 a0_0) ∧ w_.cell? ⟨g2, 1, none⟩ = some (.int .i64 a0_1) ∧ w_.cell? ⟨g2, 2, none⟩ = some (.slice A0_2 l0_2.length c0_2)) := hS_; have B4 : Aside0 (w_.heap[g4]? = some (.cells #[.int .i64 0, .int .i64 0, .slice none 0 0] 24 (0, 0))) := ⟨h0_⟩; have X8 : Aside0 (w_.heap[g8]? = some (.cells #[.int .i64 0, .int .i64 0, .slice none 0 0] 24 (0, 0))) := ⟨h1_⟩; have E8 : Aside0 (w.heap.size ≤ g8) := ⟨h2_⟩; have N48 : Aside0 (g4 ≠ g8) := ⟨h3_⟩; have N28 : Aside0 (g2 ≠ g8) := ⟨h4_⟩; have HB : Aside0 (Below w.heap.size w w_) := ⟨h5_⟩; clear hS_ h0_ h1_ h2_ h3_ h4_ h5_; refine norm_ (a' := ?_) ?_ ?_; rotate_left
        · simp only [putAll, Act.put, zs1, zs2, zs3]; rfl
        refine one_ (i := 6) (N := some 17) #[true, true, true, true, true, true, true, false, true, false] rfl rfl (one_of HT_.out (by kernel_rfl)) (by decide) (fun K hK => ?_); refine gO Try.func61 #[.agg #[.int .i64 a0_0, .int .i64 a0_1, .slice A0_2 l0_2.length c0_2], .int .i64 hi] ?_
        with_reducible refine (curve_at.calls a0_0 a0_1 A0_2 c0_2 l0_2 _ _ _ (Kd.C_below HR0.out HB.out) HC0.out HAT.out).mono ?_
        rintro e w_ ⟨rfl, hb⟩; refine ⟨_, rfl, ?_⟩; have n0_ := Aside0.mk (blk_below B4.out hb); have n1_ := Aside0.mk (blk_below X8.out hb); have n2_ := Aside0.mk (E8.out); have n3_ := Aside0.mk (N48.out); have n4_ := Aside0.mk (N28.out); have n5_ := Aside0.mk (below_step HB.out hb); refine hK.out _ _ ⟨bca_ hb hHeld.1, bca_ hb hHeld.2.1, bca_ hb hHeld.2.2⟩ (fun hHeld2 => ?_); clear hK K; refine norm_ (a' := ?_) ?_ ?_; rotate_left
        · show Act.put _ (some 17) _ = _; simp only [Act.put, zs1, zs2, zs3, i64_w, i32_w]; rfl
        refine pure_ (i := 7) (N := some 18) (v := ?_) (a' := ?_) #[true, true, true, true, true, true, true, true, true, false] rfl rfl (any_of HT_.out (by kernel_rfl)) (fun _ _ _ h => h) (Or.inl ⟨by rfl, ?_⟩) ?_ ?_; rotate_left
        · intro w'; go_simp
          with_reducible rfl
        rotate_left
        · simp only [Act.put, zs1, zs2, zs3, i64_w, i32_w]; rfl
        exact norm_ (by first | (simp only [putAll, Act.put, zs1, zs2, zs3]; done) | (simp only [putAll, Act.put, zs1, zs2, zs3]; rfl)) (J_c1c2c3a g8 _ ⟨hHeld2, n0_.out, n1_.out, n2_.out, n3_.out, n4_.out, n5_.out⟩)
    · skip; rintro _ w_ ⟨hS_, h0_, h1_⟩; clear B4 HB hHeld; have hHeld : (w_.cell? ⟨g2, 0, none⟩ = some (.int .i64 a0_0) ∧ w_.cell? ⟨g2, 1, none⟩ = some (.int .i64 a0_1) ∧ w_.cell? ⟨g2, 2, none⟩ = some (.slice A0_2 l0_2.length c0_2)) := hS_; have B4 : Aside0 (w_.heap[g4]? = some (.cells #[.int .i64 0, .int .i64 0, .slice none 0 0] 24 (0, 0))) := ⟨h0_⟩; have HB : Aside0 (Below w.heap.size w w_) := ⟨h1_⟩; clear hS_ h0_ h1_; refine norm_ (a' := ?_) ?_ ?_; rotate_left
      · simp only [putAll, Act.put, zs1, zs2, zs3]; rfl
      refine one_ (i := 8) (N := some 4) #[true, true, true, true, true, true, true, true, true, false] rfl rfl (one_of HT_.out (by kernel_rfl)) (by decide) (fun K hK => ?_); refine box_step ?hg (N := 4) ?hd (cs := #[.int .i64 0, .int .i64 0, .slice none 0 0]) (t := 24) ?hr ?_; (case hd => rfl); (case hg => rfl); (case hr => first | (go_simp; done) | (go_simp; rfl)); intro g8 hg w_ hbox hb; have n0_ := Aside0.mk (blk_below B4.out hb); have n1_ := Aside0.mk (hbox); have n2_ := Aside0.mk ((show w.heap.size ≤ g8 by rw [hg]; exact below_size HB.out)); have n3_ := Aside0.mk ((show g4 ≠ g8 by rw [hg]; exact Nat.ne_of_lt (blk_lt B4.out))); have n4_ := Aside0.mk ((show g2 ≠ g8 by rw [hg]; exact Nat.ne_of_lt (World.block_lt_of_cell? _ _ hHeld.1))); have n5_ := Aside0.mk (below_step HB.out hb); refine hK.out _ _ ⟨bca_ hb hHeld.1, bca_ hb hHeld.2.1, bca_ hb hHeld.2.2⟩ (fun hHeld2 => ?_); clear hK K; refine norm_ (a' := ?_) ?_ ?_; rotate_left
      · show Act.put _ (some 4) _ = _; simp only [Act.put, zs1, zs2, zs3, i64_w, i32_w]; rfl
      exact norm_ (by first | (simp only [putAll, Act.put, zs1, zs2, zs3]; done) | (simp only [putAll, Act.put, zs1, zs2, zs3]; rfl)) (J_c1c2c3a g8 _ ⟨hHeld2, n0_.out, n1_.out, n2_.out, n3_.out, n4_.out, n5_.out⟩)
  · skip; rintro g8 w_ ⟨hS_, h0_, h1_, h2_, h3_, h4_, h5_⟩; clear B4 HB hHeld; have hHeld : (w_.cell? ⟨g2, 0, none⟩ = some (.int .i64 a0_0) ∧ w_.cell? ⟨g2, 1, none⟩ = some (.int .i64 a0_1) ∧ w_.cell? ⟨g2, 2, none⟩ = some (.slice A0_2 l0_2.length c0_2)) := hS_; have B4 : Aside0 (w_.heap[g4]? = some (.cells #[.int .i64 0, .int .i64 0, .slice none 0 0] 24 (0, 0))) := ⟨h0_⟩; have X8 : Aside0 (w_.heap[g8]? = some (.cells #[.int .i64 0, .int .i64 0, .slice none 0 0] 24 (0, 0))) := ⟨h1_⟩; have E8 : Aside0 (w.heap.size ≤ g8) := ⟨h2_⟩; have N48 : Aside0 (g4 ≠ g8) := ⟨h3_⟩; have N28 : Aside0 (g2 ≠ g8) := ⟨h4_⟩; have HB : Aside0 (Below w.heap.size w w_) := ⟨h5_⟩; clear hS_ h0_ h1_ h2_ h3_ h4_ h5_; refine norm_ (a' := ?_) ?_ ?_; rotate_left
    · simp only [putAll, Act.put, zs1, zs2, zs3]; rfl
    refine one_ (i := 9) (N := none) #[true, true, true, true, true, true, true, true, true, true] rfl rfl (one_of HT_.out (by kernel_rfl)) (by decide) (fun K hK => ?_); have hs0 : w_.cell? ⟨g8, 0, none⟩ = some (.int .i64 0) := (blk_cell X8.out 0).trans rfl; have hf0 := blk_frozen X8.out 0; have hs1 : w_.cell? ⟨g8, 1, none⟩ = some (.int .i64 0) := (blk_cell X8.out 1).trans rfl; have hf1 := blk_frozen X8.out 1; have hs2 : w_.cell? ⟨g8, 2, none⟩ = some (.slice none 0 0) := (blk_cell X8.out 2).trans rfl; have hf2 := blk_frozen X8.out 2; refine skip_ (w1 := ?_) (by rfl) rfl ?_ ?_; rotate_left
    · go_simp
      rfl
    refine hK.out _ _ ⟨(cell_far (p := ⟨g8, _, none⟩) N28.out _).trans ((cell_far (p := ⟨g8, _, none⟩) N28.out _).trans ((cell_far (p := ⟨g8, _, none⟩) N28.out _).trans hHeld.1)), (cell_far (p := ⟨g8, _, none⟩) N28.out _).trans ((cell_far (p := ⟨g8, _, none⟩) N28.out _).trans ((cell_far (p := ⟨g8, _, none⟩) N28.out _).trans hHeld.2.1)), (cell_far (p := ⟨g8, _, none⟩) N28.out _).trans ((cell_far (p := ⟨g8, _, none⟩) N28.out _).trans ((cell_far (p := ⟨g8, _, none⟩) N28.out _).trans hHeld.2.2))⟩ (fun hHeld2 => ?_); clear hK K hs0 hf0 hs1 hf1 hs2 hf2; have n0_ := Aside0.mk (show (((w_.setCell ⟨g8, 0, none⟩ (.int .i64 (wrap64 (-hi)))).setCell ⟨g8, 1, none⟩ (.int .i64 va)).setCell ⟨g8, 2, none⟩ (.slice none 0 0)).heap[g4]? = some (.cells #[.int .i64 0, .int .i64 0, .slice none 0 0] 24 (0, 0)) from blk_far (p := ⟨g8, 2, none⟩) (blk_far (p := ⟨g8, 1, none⟩) (blk_far (p := ⟨g8, 0, none⟩) B4.out N48.out _) N48.out _) N48.out _); have n1_ := Aside0.mk (show (((w_.setCell ⟨g8, 0, none⟩ (.int .i64 (wrap64 (-hi)))).setCell ⟨g8, 1, none⟩ (.int .i64 va)).setCell ⟨g8, 2, none⟩ (.slice none 0 0)).heap[g8]? = some (.cells #[.int .i64 (wrap64 (-hi)), .int .i64 va, .slice none 0 0] 24 (0, 0)) from blk_put (blk_put (blk_put X8.out 0 _ rfl) 1 _ rfl) 2 _ rfl); have n2_ := Aside0.mk (show Below w.heap.size w (((w_.setCell ⟨g8, 0, none⟩ (.int .i64 (wrap64 (-hi)))).setCell ⟨g8, 1, none⟩ (.int .i64 va)).setCell ⟨g8, 2, none⟩ (.slice none 0 0)) from below_set (below_set (below_set HB.out E8.out) E8.out) E8.out); clear B4 X8 HB hHeld; generalize (((w_.setCell ⟨g8, 0, none⟩ (.int .i64 (wrap64 (-hi)))).setCell ⟨g8, 1, none⟩ (.int .i64 va)).setCell ⟨g8, 2, none⟩ (.slice none 0 0)) = wz at n0_ n1_ n2_ hHeld2 ⊢; have B4 := n0_; have X8 := n1_; have HB := n2_; have hHeld := hHeld2; clear n0_ n1_ n2_ hHeld2; refine done_ (done_of HT_.out (by kernel_rfl)) ?_; clear HT_ HW_; obtain ⟨hy0, hy1, hy2⟩ := hHeld; go_wp2_with (go_at_call 77; (refine (callsIn_wide.1 (backward_in Fence.wide 0 trivial rfl _ _ _ _)).mono ?_); rintro e w' ⟨rfl, rfl⟩)
    have bB := (blk_cell (blk_new wz (.cells #[.slice A0_2 l0_2.length c0_2] 22)) 0).trans rfl; have m0_ := Aside0.mk (blk_alloc X8.out (.cells #[.slice A0_2 l0_2.length c0_2] 22)); have m1_ := Aside0.mk (blk_alloc B4.out (.cells #[.slice A0_2 l0_2.length c0_2] 22)); have m2_ := Aside0.mk (below_alloc HB.out (.cells #[.slice A0_2 l0_2.length c0_2] 22)); have hsz : (wz.alloc (.cells #[.slice A0_2 l0_2.length c0_2] 22)).heap.size = wz.heap.size + 1 := by simp
    have l8 := blk_lt X8.out; have lw := below_size HB.out; clear X8 B4 HB hy0 hy1 hy2; generalize wz.alloc (.cells #[.slice A0_2 l0_2.length c0_2] 22) = W0 at bB m0_ m1_ m2_ hsz ⊢; generalize wz.heap.size = Bs at bB hsz l8 lw ⊢; have hcl := flip_cells HR0.out m2_.out; have hBs : Bs < W0.heap.size := by omega
    have hBg : Bs ≠ g8 := by omega
    have hle : w.heap.size ≤ W0.heap.size := by omega
    have h8w := E8.out; refine (wpIn_wide (n := n)).1 ?_; refine wpIn_rangeFunc_ownF (F := Fence.wide) (n := n) rfl h1 (gf := 87) (lb := #[.pointer (some ⟨Bs, 0, none⟩)]) rfl trivial (enters_of Try.func87 (by kernel_rfl) rfl)
      (bwd_stops Fence.wide (n - 1) trivial rfl (by omega) Bs W0.heap.size g8 A0_2 c0_2 l0_2 (by have := HLEN.out; omega) W0 hBs hBg (Nat.le_refl _) bB (fun h0 => by obtain ⟨ad, e, hb, hc⟩ := hcl h0; exact ⟨ad, e, by omega, by omega, hc⟩))
      (fun h k => Kq.trans h k) (fun W l o o' hl _ _ _ => Kq.putObj o' hl) (Below.refl _ _) (fun _ => rfl)
      (FlipI w W0.heap.size g8 g4 (wrap64 (-hi)) va) (fun _ _ _ => False) (flipI_own w _ g8 g4 _ _ _ hle) (fun c s W W' row hs hg hr => hs) ⟨⟨_, m0_.out, ⟨rfl, .inl ⟨rfl, rfl⟩⟩⟩, m1_.out, m2_.out, Nat.le_refl _⟩
      (fun x => { tmps := #[.agg #[.int .i64 a0_0, .int .i64 a0_1, .slice A0_2 l0_2.length c0_2], .pointer (some ⟨g2, 0, none⟩), .pointer (some ⟨g4, 0, none⟩), .int .i64 0, .pointer (some ⟨g8, 0, none⟩), undef, .int .i64 x.2, .agg #[.int .i64 a0_0, .int .i64 a0_1, .slice A0_2 l0_2.length c0_2], .bool true, .bool false, undef, .agg #[.int .i64 a0_0, .int .i64 a0_1, .slice A0_2 l0_2.length c0_2], .int .i64 hi, .int .i64 (wrap64 (-hi)), .agg #[.int .i64 a0_0, .int .i64 a0_1, .slice A0_2 l0_2.length c0_2], .agg #[.int .i64 a0_0, .int .i64 a0_1, .slice A0_2 l0_2.length c0_2], .int .i64 hi, .int .i64 va, .agg #[.int .i64 (wrap64 (-hi)), .int .i64 va, .slice none 0 0], .pointer (some ⟨g2, 2, none⟩), .slice A0_2 l0_2.length c0_2, .func (.func 87) #[] #[.pointer (some ⟨Bs, 0, none⟩)], .int .i64 x.1, .int .i64 x.2, undef, undef, undef, undef, undef, undef, undef, undef, undef, undef, undef], defers := [] }) ?assign ?body ?done ?stop
    case assign =>
      intro l x W K hK; gi_wp2
      exact hK
    case body =>
      rintro l pre x W ⟨⟨v, hX, hrow⟩, hB4, hBw, hnW⟩ hlt; obtain ⟨i0, hi0, hz0, hz1, hz2⟩ := info_parts info3; have hc2 : W.cell? ⟨g8, 2, none⟩ = some v := (blk_cell hX 2).trans rfl; have hL := HLEN.out; gi_wp2_with (gi_at_builtin; refine wpListIn_append_own _ rfl _ _ 22 rfl W0.heap.size 3 i0 (.int .i64 0) 1 8 Try.underlying22 hi0 hz0 hz1 hz2 rfl (by decide) _ _ _ rfl (hrow.alloc _) ⟨W.heap.size, 0, none⟩ 1 1 [.int .i64 (wrap64 (-x.2))] rfl rfl ?nw (by simp [Value.oneCell']) (by unfold maxLen; omega) (by omega) (by simp; omega) ?_; (case nw => (intro j u h; rcases j with _ | j; (simp at h; subst h; exact (blk_cell (blk_new W _) 0).trans rfl); (simp at h))); intro v' w1 hown' hgrow _; obtain ⟨g', cap', rfl⟩ := ownsRow_succ hown'; obtain ⟨p1, p2, p3, p4⟩ := flipI_app hle hnW h8w N48.out hX hrow hB4 hBw hown' hgrow; have hp1 : w1.cell? ⟨g8, 2, none⟩ = some v := (blk_cell p1 2).trans rfl; have hp2 := blk_frozen p1 2)
      exact ⟨p2, p3, p4⟩
    case done =>
      rintro D xs W hD rfl ⟨⟨v, hX, hrow⟩, hB4, hBw, hnW⟩ hK; rw [bwd_neg, bwd_len, show l0_2.length = (negs l0_2.reverse).length by simp [negs]] at hrow; have hD4 : g4 ≠ D := fun e => by rw [e, hK] at hB4; cases hB4
      have hR : Kd.R (Kd.int .i64) 3 W w.heap.size (fun k_ => k_ ≠ g4 ∧ k_ ≠ D) v (negs l0_2.reverse) := Kd.R_lower (Kd.R_of_own (ok := fun k_ => k_ ≠ g4 ∧ k_ ≠ D) hrow (fun k ek => ⟨fun e => row_ne hrow hB4 (by decide) (by rw [← e]; exact ek.symm), fun e => by
        rcases hrow.2 with ⟨rfl, _⟩ | ⟨g, cap, cur, rfl, _, hgb, _⟩
        · simp [Value.ownBlock] at ek
        · obtain rfl : g = k := by simpa [Value.ownBlock] using ek
          rw [e, hK] at hgb; cases hgb⟩)) hle
      have HR8 := Aside0.mk hR; have HBW := Aside0.mk hBw; have BK8 := Aside0.mk hB4; have X8 := Aside0.mk hX; have HDK := Aside0.mk hK; have HD4 := Aside0.mk hD4; have HDL := Aside0.mk (Nat.le_trans hle hD); obtain ⟨A8, c8, e8⟩ := Kd.R_slice hR; subst e8; clear hR hBw hB4 hX hK hrow hnW hD4 hD; have hx0 : W.cell? ⟨g8, 0, none⟩ = some (.int .i64 (wrap64 (-hi))) := (blk_cell X8.out 0).trans rfl; have hx1 : W.cell? ⟨g8, 1, none⟩ = some (.int .i64 va) := (blk_cell X8.out 1).trans rfl; have hx2 : W.cell? ⟨g8, 2, none⟩ = some (.slice A8 (negs l0_2.reverse).length c8) := (blk_cell X8.out 2).trans rfl; go_wp2_with (go_at_call 51; (with_reducible refine (curve_made.calls _ _ (fun k_ => k_ ≠ g4 ∧ k_ ≠ D) _ (negs l0_2.reverse) r1 r2 r3 r4 w W HBW.out HR8.out HM.out).mono ?_); rintro e w8 ⟨v8, rfl, ho8, hb8, hk8⟩; obtain ⟨A9, c9, e9⟩ := Kd.R_slice ho8; subst e9; have BK9 := Aside0.mk ((hk8.2 g4 (blk_lt BK8.out) (fun h => h.1 rfl)).trans BK8.out); have HDK9 := Aside0.mk ((hk8.2 D (Array.getElem?_eq_some_iff.1 HDK.out).1 (fun h => h.2 rfl)).trans HDK.out); have HB9 := Aside0.mk hb8; have HR9 := Aside0.mk (Kd.R_mono (ok' := fun k_ => k_ ≠ g4 ∧ k_ ≠ D) ho8 (fun k hk => by rcases hk with hk | hk; exact hk; have h4 := blk_lt BK8.out; have h5 := (Array.getElem?_eq_some_iff.1 HDK.out).1; exact ⟨by omega, by omega⟩)); clear ho8 hb8 hk8 hx0 hx1 hx2; have hz0 : w8.cell? ⟨g4, 0, none⟩ = some (.int .i64 0) := (blk_cell BK9.out 0).trans rfl; have hf0 := blk_frozen BK9.out 0; have hz1 : w8.cell? ⟨g4, 1, none⟩ = some (.int .i64 0) := (blk_cell BK9.out 1).trans rfl; have hf1 := blk_frozen BK9.out 1; have hz2 : w8.cell? ⟨g4, 2, none⟩ = some (.slice none 0 0) := (blk_cell BK9.out 2).trans rfl; have hf2 := blk_frozen BK9.out 2)
      obtain ⟨e0, e1, e2, e3⟩ := flip_end (x := r1) (y := r2) HB9.out GE.out HDL.out HD4.out BK9.out HDK9.out HR9.out; refine ⟨by simp, .inl ⟨_, _, rfl, run_takeDeferred e0, ?_⟩⟩; exact ⟨_, results_ct rfl _ _ g4 24 _ (0, 0) _ rfl e1 Try.underlying24 rfl (by kernel_rfl), _, rfl, e2, e3⟩
    case stop =>
      rintro D c pre W _ _ h _; exact h.elim
theorem curve_Flip.calls (k : Nat) (a0_0 a0_1 : Int) (A0_2 : Option Addr) (c0_2 : Nat) (l0_2 : List Int) (r1 r2 : Int) (r3 : List Int) (r4 : Int) (w : World) (hr0_2 : Kd.C (Kd.int .i64) w A0_2 l0_2.length l0_2) (hc0_2 : l0_2.length ≤ c0_2) (h : curve_Flip.f k a0_0 a0_1 l0_2 = some (r1, r2, r3, r4)) :
    Calls Try.prog 41 #[.agg #[.int .i64 a0_0, .int .i64 a0_1, .slice A0_2 l0_2.length c0_2]] w fun e w' => ∃ v_ : Value, e = .returned (.tuple #[.agg #[.int .i64 r1, .int .i64 r2, v_], .int .i64 r4]) ∧ Kd.R (Kd.int .i64) 3 w' w.heap.size (fun _ => True) v_ r3 ∧ Below w.heap.size w w' := by
  have hj : flipR ⟨a0_0, a0_1, l0_2⟩ = (r1, r2, r3, r4) := Option.some.inj h; unfold flipR at hj
  cases hv : validC a0_0 a0_1 l0_2 with
  | false =>
    simp only [hv, Bool.false_eq_true, if_false] at hj; injection hj with e1 hj
    injection hj with e2 hj
    injection hj with e3 e4
    subst e1 e2 e3 e4; exact flip_bad a0_0 a0_1 A0_2 c0_2 l0_2 w hr0_2 hc0_2 (congrArg some hv)
  | true =>
    simp only [hv, if_true] at hj; have hV : Vc ⟨a0_0, a0_1, l0_2⟩ := hv; refine (callsIn_wide (n := 4)).1 (flip_in 4 (Nat.le_refl _) a0_0 a0_1 A0_2 c0_2 l0_2 (toC ⟨a0_0, a0_1, l0_2⟩) (valC ⟨a0_0, a0_1, l0_2⟩ (toC ⟨a0_0, a0_1, l0_2⟩)) r1 r2 r3 r4 w hr0_2 hc0_2 (congrArg some hv) (to_f hV) (flip_at hV) (vc_parts hV).2.2.2.2.1 ?_); rw [← hj]; unfold curve_made.f curve_Valid.f
    rw [Option.bind_some]; show (if validC (flipC ⟨a0_0, a0_1, l0_2⟩).f0 (flipC ⟨a0_0, a0_1, l0_2⟩).f1 (flipC ⟨a0_0, a0_1, l0_2⟩).f2 = true then _ else _) = _
    cases validC (flipC ⟨a0_0, a0_1, l0_2⟩).f0 (flipC ⟨a0_0, a0_1, l0_2⟩).f1 (flipC ⟨a0_0, a0_1, l0_2⟩).f2 <;> rfl
end Go.Proofs.Ytingjpcgehgiiaa.Pr
end
section
namespace Go.Proofs.Ytingjpcgehgiiaa.Pr
open Go.RowKit Go.Shelf Go.Proofs.YtingjpcgehgiiaaW.PrintWords Go.Proofs.YtingjpcgehgiiaaW.PrintLast Go.Proofs.YtingjpcgehgiiaaW.PrintMore
set_option linter.unusedVariables false
set_option linter.unusedSimpArgs false
theorem info67 : (Try.prog.info? 67).map (fun i => (i.zero, i.size, i.bytes)) = some (some (.pointer none), 1, 8) := by kernel_rfl
def loS (l : List S24) : Int := (l.map (fun c => c.f0)).sum
def hiS (l : List S24) : Int := (l.map (fun c => c.f0 + (c.f2.length : Int))).sum
def mkSh (l : List S24) : Shr := l.map (fun c => (c, c.f0))
def AllV (l : List S24) : Prop := ∀ c ∈ l, validC c.f0 c.f1 c.f2 = true
theorem sums_bound : ∀ (l : List S24), AllV l → -(1048576 * (l.length : Int)) ≤ loS l ∧ loS l ≤ 1048576 * (l.length : Int) ∧ loS l ≤ hiS l ∧ hiS l ≤ 1048640 * (l.length : Int)
  | [], _ => by simp [loS, hiS]
  | c :: t, h => by
    have ih := sums_bound t (fun c hc => h c (List.mem_cons_of_mem _ hc))
    obtain ⟨v1, v2, _, _, v5, _⟩ := validC_parts (h c List.mem_cons_self)
    simp only [loS, hiS, List.map_cons, List.sum_cons, List.length_cons] at ih ⊢
    push_cast
    omega
theorem take_snoc (l : List S24) (k : Nat) (h : k < l.length) : l.take (k + 1) = l.take k ++ [l.getD k z24] := by
  rw [List.take_add_one, List.getElem?_eq_getElem h, List.getD_eq_getElem?_getD, List.getElem?_eq_getElem h]
  rfl
theorem loS_succ (l : List S24) (k : Nat) (h : k < l.length) : loS (l.take (k + 1)) = loS (l.take k) + (l.getD k z24).f0 ∧ hiS (l.take (k + 1)) = hiS (l.take k) + ((l.getD k z24).f0 + ((l.getD k z24).f2.length : Int)) := by
  rw [take_snoc l k h]
  simp only [loS, hiS, List.map_append, List.sum_append, List.map_cons, List.map_nil, List.sum_cons, List.sum_nil]
  omega
theorem mkSh_succ (l : List S24) (k : Nat) (h : k < l.length) : mkSh (l.take (k + 1)) = mkSh (l.take k) ++ [((l.getD k z24), (l.getD k z24).f0)] := by
  rw [take_snoc l k h]
  simp only [mkSh, List.map_append, List.map_cons, List.map_nil]
theorem allV_take {l : List S24} (h : AllV l) (k : Nat) : AllV (l.take k) := fun c hc => h c (List.mem_of_mem_take hc)
/-- A share's block; its curve's slopes are read in the world where the call began. -/
def ShareIn (w W : World) (b : Nat) (p : S24 × Int) : Prop := ∃ A cap, W.heap[b]? = some (.cells #[.int .i64 p.1.f0, .int .i64 p.1.f1, .slice A p.1.f2.length cap, .int .i64 p.2] 69 (0, 0)) ∧ p.1.f2.length ≤ cap ∧ Kd.C (Kd.int .i64) w A p.1.f2.length p.1.f2
/-- The shares of a call's own. -/
def Own (w W : World) (v : Value) (sh : Shr) : Prop := ∃ bs : List Nat, Kd.R kP 67 W w.heap.size (fun _ => True) v bs ∧ bs.length = sh.length ∧ (∀ i, i < sh.length → ShareIn w W (bs.getD i 0) (sh.getD i zS)) ∧ (∀ b ∈ bs, w.heap.size ≤ b) ∧ bs.Nodup
theorem Own.nil (w W : World) : Own w W (.slice none 0 0) [] := ⟨[], Kd.R_nil _ _ _ _ _, rfl, fun i hi => by simp at hi, fun b hb => by simp at hb, List.nodup_nil⟩
theorem ShareIn.below {w W W' : World} {b : Nat} {p : S24 × Int} (h : ShareIn w W b p) (hb : Below W.heap.size W W') : ShareIn w W' b p := by
  obtain ⟨A, cap, h1, h2, h3⟩ := h
  exact ⟨A, cap, blk_below h1 hb, h2, h3⟩
theorem Own.below {w W W' : World} {v : Value} {sh : Shr} (h : Own w W v sh) (hb : Below W.heap.size W W') : Own w W' v sh := by
  obtain ⟨bs, h1, h2, h3, h4, h5⟩ := h
  exact ⟨bs, Kd.R_below h1 hb, h2, fun i hi => (h3 i hi).below hb, h4, h5⟩
/-- One share more. -/
theorem Own.snoc {w W W' : World} {v v' : Value} {bs : List Nat} {sh : Shr} {p : S24 × Int} {nb : Nat} {A : Option Addr} {cap : Nat}
    (ho : Kd.R kP 67 W w.heap.size (fun _ => True) v bs) (hl : bs.length = sh.length) (hs : ∀ i, i < sh.length → ShareIn w W (bs.getD i 0) (sh.getD i zS)) (hb : ∀ b ∈ bs, w.heap.size ≤ b) (hn : bs.Nodup)
    (hnb : W.heap[nb]? = some (.cells #[.int .i64 p.1.f0, .int .i64 p.1.f1, .slice A p.1.f2.length cap, .int .i64 p.2] 69 (0, 0))) (hcap : p.1.f2.length ≤ cap) (hC : Kd.C (Kd.int .i64) w A p.1.f2.length p.1.f2) (hw : w.heap.size ≤ nb) (hnew : ∀ b ∈ bs, b ≠ nb)
    (hown : W'.ownsRow w.heap.size 67 1 v' (bs.length + 1) (encs (fun b => .pointer (some ⟨b, 0, none⟩)) bs ++ [.pointer (some ⟨nb, 0, none⟩)])) (hg : W.grownBy W' v.ownBlock) : Own w W' v' (sh ++ [p]) := by
  have keep : ∀ (k : Nat) (cs : Array Value), W.heap[k]? = some (Obj.cells cs 69 (0, 0)) → W'.heap[k]? = some (Obj.cells cs 69 (0, 0)) := fun k cs hk => by
    refine (hg.block k (Array.getElem?_eq_some_iff.1 hk).1 (fun e => ?_)).trans hk
    obtain ⟨cells, hc⟩ := own_typed ho.2.choose_spec.1 k e.symm
    rw [hk] at hc
    cases hc
  refine ⟨bs ++ [nb], Kd.R_of_own (by simpa [encs] using hown) (fun _ _ => trivial), by simp [hl], fun i hi => ?_, fun b hb' => ?_, ?_⟩
  · by_cases h : i < sh.length
    · obtain ⟨A', cap', h1, h2, h3⟩ := hs i h
      have e1 : (bs ++ [nb]).getD i 0 = bs.getD i 0 := by rw [List.getD_eq_getElem?_getD, List.getD_eq_getElem?_getD, List.getElem?_append_left (by omega)]
      have e2 : (sh ++ [p]).getD i zS = sh.getD i zS := by rw [List.getD_eq_getElem?_getD, List.getD_eq_getElem?_getD, List.getElem?_append_left (by omega)]
      rw [e1, e2]
      exact ⟨A', cap', keep _ _ h1, h2, h3⟩
    · obtain rfl : i = sh.length := by simp at hi; omega
      have e1 : (bs ++ [nb]).getD sh.length 0 = nb := by rw [List.getD_eq_getElem?_getD, ← hl]; simp
      have e2 : (sh ++ [p]).getD sh.length zS = p := by rw [List.getD_eq_getElem?_getD]; simp
      rw [e1, e2]
      exact ⟨A, cap, keep _ _ hnb, hcap, hC⟩
  · rcases List.mem_append.1 hb' with hb' | hb'
    · exact hb b hb'
    · rw [List.mem_singleton.1 hb']; exact hw
  · rw [List.nodup_append]
    exact ⟨hn, by simp, fun a ha b hb' => by rw [List.mem_singleton.1 hb']; exact hnew a ha⟩
theorem nodup_getD {bs : List Nat} (hn : bs.Nodup) {i j : Nat} (hi : i < bs.length) (hj : j < bs.length) (hij : i ≠ j) : bs.getD i 0 ≠ bs.getD j 0 := by
  rw [List.getD_eq_getElem?_getD, List.getD_eq_getElem?_getD, List.getElem?_eq_getElem hi, List.getElem?_eq_getElem hj]
  simp only [Option.getD_some]
  intro e
  exact hij ((List.getElem_inj hn).1 e)
/-- The share j moves on by one. -/
theorem Own.grow {w W : World} {v : Value} {bs : List Nat} {sh : Shr} {j : Nat} (ho : Kd.R kP 67 W w.heap.size (fun _ => True) v bs) (hl : bs.length = sh.length) (hs : ∀ i, i < sh.length → ShareIn w W (bs.getD i 0) (sh.getD i zS)) (hb : ∀ b ∈ bs, w.heap.size ≤ b) (hn : bs.Nodup) (hj : j < sh.length) :
    Own w (W.setCell ⟨bs.getD j 0, 3, none⟩ (.int .i64 ((sh.getD j zS).2 + 1))) v (growAt sh j) := by
  obtain ⟨A, cap, h1, h2, h3⟩ := hs j hj
  refine ⟨bs, Kd.R_mono (Kd.R_far (p := ⟨bs.getD j 0, 3, none⟩) (Kd.R_types ho h1 (by decide)) (fun _ hk => hk.2) _) (fun _ _ => trivial), by rw [growAt_len]; exact hl, fun i hi => ?_, hb, hn⟩
  rw [growAt_len] at hi
  by_cases e : i = j
  · subst e
    have eg : (growAt sh i).getD i zS = ((sh.getD i zS).1, (sh.getD i zS).2 + 1) := by
      unfold growAt
      rw [List.getD_eq_getElem?_getD, List.getElem?_set_self hj]
      rfl
    rw [eg]
    exact ⟨A, cap, blk_put h1 3 _ rfl, h2, h3⟩
  · have eg : (growAt sh j).getD i zS = sh.getD i zS := by
      unfold growAt
      rw [List.getD_eq_getElem?_getD, List.getElem?_set_ne (fun h => e h.symm), ← List.getD_eq_getElem?_getD]
    rw [eg]
    obtain ⟨A', cap', g1, g2, g3⟩ := hs i hi
    exact ⟨A', cap', (Below.heap_setCell W ⟨bs.getD j 0, 3, none⟩ _ (bs.getD i 0) (nodup_getD hn (by omega) (by omega) e)).trans g1, g2, g3⟩
theorem mkSh_facts : ∀ (l : List S24), AllV l → GoodS (mkSh l) ∧ sumX (mkSh l) = loS l ∧ sumHi (mkSh l) = hiS l
  | [], _ => ⟨fun p hp => (by simp [mkSh] at hp), rfl, rfl⟩
  | c :: t, h => by
    obtain ⟨i1, i2, i3⟩ := mkSh_facts t (fun c hc => h c (List.mem_cons_of_mem _ hc))
    refine ⟨fun p hp => ?_, ?_, ?_⟩
    · rcases List.mem_cons.1 (show p ∈ (c, c.f0) :: mkSh t from hp) with rfl | hp
      · exact ⟨h c List.mem_cons_self, Int.le_refl _, by simp only; omega⟩
      · exact i1 p hp
    · simp only [sumX, mkSh, loS, List.map_cons, List.sum_cons] at i2 ⊢
      rw [i2]
    · simp only [sumHi, mkSh, hiS, List.map_cons, List.sum_cons] at i3 ⊢
      rw [i3]
/-- What is said of the shares while the total is divided. -/
def Mid (l : List S24) (a1 : Int) (n : Nat) (sh : Shr) : Prop := GoodS sh ∧ sumX sh = loS l + n ∧ sumHi sh = hiS l ∧ fillS ((a1 - loS l).toNat - n) sh = fillS (a1 - loS l).toNat (mkSh l)
theorem shares_of {w W : World} {bs : List Nat} {sh : Shr} (hB : Below w.heap.size w W) (hl : bs.length = sh.length) (hs : ∀ i, i < sh.length → ShareIn w W (bs.getD i 0) (sh.getD i zS)) (hg : GoodS sh) : Shares W bs sh :=
  ⟨hl, fun i hi => by
    obtain ⟨A, cap, h1, h2, h3⟩ := hs i hi
    obtain ⟨e, e1, _⟩ := good_off (hg _ (getD_mem sh i hi))
    exact ⟨⟨A, cap, h1, h2, Kd.C_below h3 hB⟩, by rw [e]; exact e1⟩⟩
theorem Mid.step {l : List S24} {a1 : Int} {n : Nat} {sh : Shr} {j : Nat} (h : Mid l a1 n sh) (hlt : loS l + n < a1) (hj : j < sh.length) (hb : (bestTo sh sh.length).1 = (j : Int)) (hx : (sh.getD j zS).2 < (sh.getD j zS).1.f0 + ((sh.getD j zS).1.f2.length : Int)) : Mid l a1 (n + 1) (growAt sh j) := by
  obtain ⟨h1, h2, h3, h4⟩ := h
  obtain ⟨g1, g2⟩ := growAt_sum sh j hj
  refine ⟨growAt_good sh j h1 hj hx, by rw [g1, h2]; push_cast; omega, by rw [g2, h3], ?_⟩
  rw [← h4]
  have e : (a1 - loS l).toNat - n = ((a1 - loS l).toNat - (n + 1)) + 1 := by omega
  rw [e]
  show _ = fillS _ (growAt sh (bestTo sh sh.length).1.toNat)
  rw [hb, Int.toNat_natCast]
theorem shares_new {w W : World} {bs : List Nat} {sh : Shr} {n : Nat} (hl : bs.length = sh.length) (hs : ∀ i, i < sh.length → ShareIn w W (bs.getD i 0) (sh.getD i zS)) (hn : W.heap.size ≤ n) : ∀ b ∈ bs, b ≠ n := by
  intro b hb
  obtain ⟨i, hi, rfl⟩ := List.mem_iff_getElem.1 hb
  obtain ⟨A, cap, h1, _⟩ := hs i (by omega)
  have h2 := (Array.getElem?_eq_some_iff.1 h1).1
  rw [List.getD_eq_getElem?_getD, List.getElem?_eq_getElem hi] at h2
  simp only [Option.getD_some] at h2
  omega
theorem blk_row {W W' : World} {base g : Nat} {v : Value} {bs : List Nat} {cs : Array Value} (hR : Kd.R kP 67 W base (fun _ => True) v bs) (BK : W.heap[g]? = some (.cells cs 24 (0, 0))) (hg : W.grownBy W' v.ownBlock) : W'.heap[g]? = some (.cells cs 24 (0, 0)) := by
  refine (hg.block g (Array.getElem?_eq_some_iff.1 BK).1 (fun e => ?_)).trans BK
  obtain ⟨cells, hc⟩ := own_typed hR.2.choose_spec.1 g e.symm
  rw [BK] at hc
  cases hc
/-- The world behind the box of a curve, the share's block and the literal of one pointer. -/
def box4 (w2 : World) (g : Nat) (x y : Int) (sl : Value) : World := ((((w2.setCell ⟨g, 0, none⟩ (.int .i64 x)).setCell ⟨g, 1, none⟩ (.int .i64 y)).setCell ⟨g, 2, none⟩ sl).alloc (.cells #[.int .i64 x, .int .i64 y, sl, .int .i64 x] 69)).alloc (.cells #[.pointer (some ⟨w2.heap.size, 0, none⟩)] 67)
theorem box4_facts {wr w2 : World} {g : Nat} {x y : Int} {sl a b c : Value} (BL : Below wr.heap.size wr w2) (GE : wr.heap.size ≤ g) (BK : w2.heap[g]? = some (.cells #[a, b, c] 24 (0, 0))) :
    Below wr.heap.size wr (box4 w2 g x y sl) ∧ (box4 w2 g x y sl).heap[g]? = some (.cells #[.int .i64 x, .int .i64 y, sl] 24 (0, 0)) ∧ (box4 w2 g x y sl).heap[w2.heap.size]? = some (.cells #[.int .i64 x, .int .i64 y, sl, .int .i64 x] 69 (0, 0)) ∧ (box4 w2 g x y sl).heap[w2.heap.size + 1]? = some (.cells #[.pointer (some ⟨w2.heap.size, 0, none⟩)] 67 (0, 0)) := by
  unfold box4
  have h3 := blk_put (blk_put (blk_put BK 0 (.int .i64 x) rfl) 1 (.int .i64 y) rfl) 2 sl rfl
  have hb := below_set (j := 2) (v := sl) (below_set (j := 1) (v := .int .i64 y) (below_set (j := 0) (v := .int .i64 x) BL GE) GE) GE
  have hsz : (((w2.setCell ⟨g, 0, none⟩ (.int .i64 x)).setCell ⟨g, 1, none⟩ (.int .i64 y)).setCell ⟨g, 2, none⟩ sl).heap.size = w2.heap.size := by simp [World.setCell]
  generalize ((w2.setCell ⟨g, 0, none⟩ (.int .i64 x)).setCell ⟨g, 1, none⟩ (.int .i64 y)).setCell ⟨g, 2, none⟩ sl = S at h3 hsz hb
  have n1 := blk_new S (.cells #[.int .i64 x, .int .i64 y, sl, .int .i64 x] 69)
  have n2 := blk_new (S.alloc (.cells #[.int .i64 x, .int .i64 y, sl, .int .i64 x] 69)) (.cells #[.pointer (some ⟨w2.heap.size, 0, none⟩)] 67)
  rw [World.size_alloc] at n2
  rw [hsz] at n1 n2
  exact ⟨below_alloc (below_alloc hb _) _, blk_alloc (blk_alloc h3 _) _, blk_alloc n1 _, n2⟩
theorem Own.grown {w W W' : World} {v u : Value} {sh : Shr} {xs : List Int} (h : Own w W v sh) (hu : Kd.R (Kd.int .i64) 3 W w.heap.size (fun _ => True) u xs) (hg : W.grownBy W' u.ownBlock) : Own w W' v sh := by
  obtain ⟨bs, h1, h2, h3, h4, h5⟩ := h
  refine ⟨bs, Kd.R_mono (Kd.R_grown (Kd.R_bound h1) hg (fun k hk => ?_)) (fun _ _ => trivial), h2, fun i hi => ?_, h4, h5⟩
  · obtain ⟨_, _, _, q, hq, cells, hc⟩ := hk
    refine Kd.R_ne hu hc ?_
    rcases List.mem_cons.1 hq with rfl | hq
    · decide
    · exact absurd hq (List.not_mem_nil)
  · obtain ⟨A, cap, g1, g2, g3⟩ := h3 i hi
    exact ⟨A, cap, blk_grown g1 hg (Kd.R_ne hu g1 (by decide)), g2, g3⟩
/-- What Split makes of a list of valid curves. -/
def splitOk (l : List S24) (a1 : Int) : List Int × Int × Int × Int :=
  if a1 < loS l then ([], 0, 0, 10) else if hiS l < a1 then ([], 0, 0, 10) else
    let sh := fillS (a1 - loS l).toNat (mkSh l)
    (sh.map (fun p => p.2), sumTo sh sh.length, priceTo sh sh.length, 0)
def SplitPost (w : World) (r : List Int × Int × Int × Int) (e : Ending) (w' : World) : Prop := ∃ v : Value, e = .returned (.tuple #[v, .int .i64 r.2.1, .int .i64 r.2.2.1, .int .i64 r.2.2.2]) ∧ Kd.R (Kd.int .i64) 3 w' w.heap.size (fun _ => True) v r.1 ∧ Below w.heap.size w w'
theorem SplitPost.err {w W : World} {r : List Int × Int × Int × Int} (n : Int) (hr : r = ([], 0, 0, n)) (hb : Below w.heap.size w W) : SplitPost w r (.returned (.tuple #[.slice none 0 0, .int .i64 0, .int .i64 0, .int .i64 n])) W := by
  subst hr
  exact ⟨_, rfl, Kd.R_nil _ _ _ _ _, hb⟩
theorem SplitPost.ok {w W : World} {r : List Int × Int × Int × Int} {xs : List Int} {a b n : Int} {v : Value} (hr : r = (xs, a, b, n)) (ho : Kd.R (Kd.int .i64) 3 W w.heap.size (fun _ => True) v xs) (hb : Below w.heap.size w W) : SplitPost w r (.returned (.tuple #[v, .int .i64 a, .int .i64 b, .int .i64 n])) W := by
  subst hr
  exact ⟨_, rfl, ho, hb⟩
set_option maxHeartbeats 8000000 in
set_option maxRecDepth 100000 in
theorem curve_Split.go (A0 : Option Addr) (c0 : Nat) (l0 : List S24) (a1 : Int) (w : World) (hr0 : Kd.C k24 w A0 l0.length l0) (hc0 : l0.length ≤ c0) (hn : l0.length ≤ 8) (h0 : 0 < l0.length) (hv : AllV l0) (R : Ending → World → Prop) (hR : ∀ e w', SplitPost w (splitOk l0 a1) e w' → R e w') :
    Calls Try.prog 19 #[.slice A0 l0.length c0, .int .i64 a1] w R := by
  have hz : ((l0.length : Int) == 0) = false := by rw [beq_eq_false_iff_ne]; omega
  have h8 : ¬ (8 : Int) < (l0.length : Int) := by omega
  have hany : l0.any (fun x => !validC x.f0 x.f1 x.f2) = false := by
    rw [List.any_eq_false]
    intro c hc
    rw [hv c hc]
    decide
  have HR := Aside0.mk hr0
  have HN := Aside0.mk hn
  have HV := Aside0.mk hv
  have HRR := Aside0.mk hR
  have HC := Aside0.mk (containsFunc_curve 57 #[] _ enter57 A0 c0 l0 w hr0 (pred_valid w))
  rw [hany] at HC
  clear hr0 hn hv hany hR
  have hu24 := Try.underlying24
  have hu69 := Try.underlying69
  go_enter Try.func19, Try.ntmps19
  go_wp2_with (go_at_call 56; (with_reducible refine HC.out.mono ?_); rintro e w1 ⟨rfl, hb1⟩; have HB1 := Aside0.mk hb1; clear hb1)
  go_loopg [8, 9, 10, 32] l0.length (fun gg v8 v9 v10 v32 wr => ∃ kk : Nat, kk ≤ l0.length ∧ l0.length - kk ≤ gg ∧ v32 = .int .i64 kk ∧ v9 = .int .i64 (loS (l0.take kk)) ∧ v10 = .int .i64 (hiS (l0.take kk)) ∧ Aside0 (Own w wr v8 (mkSh (l0.take kk))) ∧ Aside0 (Below w.heap.size w wr))
  case atStart => exact ⟨0, Nat.zero_le _, by omega, rfl, by simp [loS], by simp [hiS], ⟨Own.nil w w1⟩, HB1⟩
  case round =>
    obtain ⟨kk, hkk, hg, rfl, rfl, rfl, HO, HB⟩ := hrel
    have hm2 : l0.length ≤ 9223372036854775807 := by have := HN.out; omega
    by_cases hlt : kk < l0.length
    · have hltz : (kk : Int) < (l0.length : Int) := by omega
      obtain ⟨ad, A2, c2, e, hx0, hx1, hx2, hl2, hc2⟩ := at_T24 HR.out (kk : Int) (by omega) hltz
      subst e
      have er : rd_T24 l0 (kk : Int) = l0.getD kk z24 := by unfold rd_T24; rw [Int.toNat_natCast]
      rw [er] at hx0 hx1 hx2 hl2 hc2
      rw [Int.toNat_natCast] at hx0 hx1 hx2
      clear er
      generalize hy : l0.getD kk z24 = y at hx0 hx1 hx2 hl2 hc2
      have HY := Aside0.mk hy
      clear hy
      replace hx0 := (HB.out.cell (World.block_lt_of_cell? w _ hx0)).trans hx0
      replace hx1 := (HB.out.cell (World.block_lt_of_cell? w _ hx1)).trans hx1
      replace hx2 := (HB.out.cell (World.block_lt_of_cell? w _ hx2)).trans hx2
      have HL2 := Aside0.mk hl2
      obtain ⟨bs, o1, o2, o3, o4, o5⟩ := HO.out
      obtain ⟨Av, cv, ev⟩ := Kd.R_slice o1
      subst ev
      have O1 := Aside0.mk o1
      have O2 := Aside0.mk o2
      have O3 := Aside0.mk o3
      have O4 := Aside0.mk o4
      have O5 := Aside0.mk o5
      have HC2 := Aside0.mk hc2
      have hbl : bs.length ≤ 8 := by rw [o2]; simp [mkSh]; have := HN.out; omega
      have HBL := Aside0.mk hbl
      obtain ⟨i0, hi, hiz, his, hib⟩ := info_parts info67
      clear o1 o2 o3 o4 o5 hc2 hbl HO
      go_wp2_with (first | ((with_reducible refine gate_dst (N := 12) rfl ?_); refine box_event ?hg (N := 12) ?hd (cs := #[.int .i64 0, .int .i64 0, .slice none 0 0]) (t := 24) ?hr ?_; (case hd => rfl); (case hg => rfl); (case hr => first | (go_simp; done) | (go_simp; rfl)); intro g12 hg12 w2 hbox hb; have BL2 := Aside0.mk hb; have BK2 := Aside0.mk hbox; have GE2 := Aside0.mk (show wr.heap.size ≤ g12 by rw [hg12]; exact Nat.le_refl _); clear hb hg12; have ha0 : w2.cell? ⟨g12, 0, none⟩ = some (.int .i64 0) := (blk_cell hbox 0).trans rfl; have haf0 := blk_frozen hbox 0; have ha1 : w2.cell? ⟨g12, 1, none⟩ = some (.int .i64 0) := (blk_cell hbox 1).trans rfl; have haf1 := blk_frozen hbox 1; have ha2 : w2.cell? ⟨g12, 2, none⟩ = some (.slice none 0 0) := (blk_cell hbox 2).trans rfl; have haf2 := blk_frozen hbox 2; clear hbox) | (at_builtin; have F := box4_facts (x := y.f0) (y := y.f1) (sl := .slice A2 y.f2.length c2) BL2.out GE2.out BK2.out; unfold box4 at F; obtain ⟨F1, F2, F3, F4⟩ := F; refine wpList_append_own _ rfl (.tmp 36) (.tmp 42) 66 rfl w.heap.size 67 i0 (.pointer none) 1 8 Try.underlying66 hi hiz his hib rfl (by decide) _ bs.length (encs (fun b => .pointer (some ⟨b, 0, none⟩)) bs) rfl ?ow ⟨w2.heap.size + 1, 0, none⟩ 1 1 [.pointer (some ⟨w2.heap.size, 0, none⟩)] rfl rfl ?nw (by simp [Value.oneCell']) (by have := HBL.out; unfold maxLen; omega) (by have := HBL.out; omega) ?bb ?_; (case nw => (intro j u h; rcases j with _ | j; (simp at h; subst h; exact (blk_cell F4 0).trans rfl); (simp at h))); (case bb => exact Nat.le_trans HB.out.size F1.size); (case ow => exact Kd.own_of_R (Kd.R_below O1.out F1)); intro v5 w5 hown hg5 _; have HO5 := Aside0.mk (Own.snoc (p := (y, y.f0)) (Kd.R_below O1.out F1) O2.out (fun i hi => (O3.out i hi).below F1) O4.out O5.out F3 HL2.out HC2.out (Nat.le_trans HB.out.size BL2.out.size) (shares_new O2.out O3.out BL2.out.size) hown hg5); have HB5 := Aside0.mk ((below_then HB.out HB.out.size F1).grown hg5 (Nat.le_trans HB.out.size F1.size) (fun k hk => Kd.R_base O1.out k hk)); have BK5 := Aside0.mk (blk_row (Kd.R_below O1.out F1) F2 hg5); clear hown hg5 F1 F2 F3 F4 O1 O2 O3 O4 O5 ha0 ha1 ha2 haf0 haf1 haf2; have hb0 : w5.cell? ⟨g12, 0, none⟩ = some (.int .i64 y.f0) := (blk_cell BK5.out 0).trans rfl; have hb1 : w5.cell? ⟨g12, 1, none⟩ = some (.int .i64 y.f1) := (blk_cell BK5.out 1).trans rfl; have hb2 : w5.cell? ⟨g12, 2, none⟩ = some (.slice A2 y.f2.length c2) := (blk_cell BK5.out 2).trans rfl))
      have hvy : validC y.f0 y.f1 y.f2 = true := by rw [← HY.out]; exact HV.out _ (by rw [List.getD_eq_getElem?_getD, List.getElem?_eq_getElem hlt]; exact List.getElem_mem hlt)
      have hsb := sums_bound (l0.take kk) (allV_take HV.out kk)
      have hlk : (l0.take kk).length ≤ 8 := by rw [List.length_take]; have := HN.out; omega
      obtain ⟨v1, v2, _, _, v5', _⟩ := validC_parts hvy
      have hss := loS_succ l0 kk hlt
      have hmk := mkSh_succ l0 kk hlt
      rw [HY.out] at hss hmk
      have hw1 : IntKind.i64.wrap (loS (l0.take kk) + y.f0) = loS (l0.take (kk + 1)) := by rw [i64_w, hss.1]; unfold wrap64; omega
      have hw2 : IntKind.i64.wrap (hiS (l0.take kk) + wrap64 (y.f0 + (y.f2.length : Int))) = hiS (l0.take (kk + 1)) := by rw [i64_w, hss.2]; unfold wrap64; omega
      have HMK := Aside0.mk hmk
      clear hvy hsb hlk v1 v2 v5' hss hmk
      go_wp2_with (go_at_call 58; (with_reducible refine (curve_to.calls y.f0 y.f1 _ _ y.f2 _ _ (Kd.C_below HC2.out HB5.out) HL2.out rfl).mono ?_); rintro e w6 ⟨rfl, hb6⟩)
      go_roundg (l0.length - (kk + 1))
      case measure => omega
      case rel => exact ⟨kk + 1, by omega, by omega, by go_num, by rw [← i64_w, hw1], rfl, ⟨by rw [HMK.out]; exact HO5.out.below hb6⟩, ⟨below_then HB5.out HB5.out.size hb6⟩⟩
    · have hltz : ¬ (kk : Int) < (l0.length : Int) := by omega
      obtain rfl : kk = l0.length := by omega
      have HLo := Aside0.mk (show loS (l0.take l0.length) = loS l0 by rw [List.take_length])
      rw [HLo.out]
      have HHi := Aside0.mk (show hiS (l0.take l0.length) = hiS l0 by rw [List.take_length])
      rw [HHi.out]
      have HO2 := Aside0.mk (show Own w wr u8 (mkSh l0) by have h := HO.out; rw [List.take_length] at h; exact h)
      clear HO HLo HHi
      by_cases hlo : a1 < loS l0
      · go_wp2
        refine bodyPost_ret (results_list (rs := [.tmp 4, .tmp 5, .tmp 6, .tmp 7]) rfl (by simp) (.tmp (.tmp (.tmp (.tmp .nil))))) rfl ?_
        exact HRR.out _ _ (SplitPost.err 10 (by unfold splitOk; rw [if_pos (by omega)]) HB.out)
      · by_cases hhi : hiS l0 < a1
        · go_wp2
          refine bodyPost_ret (results_list (rs := [.tmp 4, .tmp 5, .tmp 6, .tmp 7]) rfl (by simp) (.tmp (.tmp (.tmp (.tmp .nil))))) rfl ?_
          exact HRR.out _ _ (SplitPost.err 10 (by unfold splitOk; rw [if_neg (by omega), if_pos (by omega)]) HB.out)
        · go_wp2
          have hsb := sums_bound l0 HV.out
          have HSB := Aside0.mk (show -8388608 ≤ loS l0 ∧ hiS l0 ≤ 8389120 by have := HN.out; omega)
          clear hsb
          have HHL := Aside0.mk (show a1 ≤ hiS l0 by omega)
          go_loopg [9] (a1 - loS l0).toNat (fun gg v9 wr => ∃ (n : Nat) (sh : Shr), v9 = .int .i64 (loS l0 + n) ∧ loS l0 + n ≤ a1 ∧ (a1 - loS l0).toNat - n ≤ gg ∧ Aside0 (Own w wr u8 sh) ∧ Aside0 (Below w.heap.size w wr) ∧ Aside0 (Mid l0 a1 n sh))
          case atStart => exact ⟨0, mkSh l0, by simp, by omega, by omega, HO2, HB, ⟨(mkSh_facts l0 HV.out).1, by rw [(mkSh_facts l0 HV.out).2.1]; simp, (mkSh_facts l0 HV.out).2.2, rfl⟩⟩
          case round =>
            obtain ⟨n, sh, rfl, hle, hg, HO, HB, HM⟩ := hrel
            by_cases hlt : loS l0 + n < a1
            · obtain ⟨bs, o1, o2, o3, o4, o5⟩ := HO.out
              obtain ⟨Av, cv, ev⟩ := Kd.R_slice o1
              subst ev
              obtain ⟨m1, m2, m3, m4⟩ := HM.out
              obtain ⟨j, j1, j2, j3⟩ := best_ok sh m1 (by have := HHL.out; omega)
              have hbest := best_calls Av cv bs sh wr (Kd.R_reads' o1).2.2 (shares_of HB.out o2 o3 m1)
              rw [j2] at hbest
              have hgj := m1 _ (getD_mem sh j j1)
              obtain ⟨q1, q2, _, _, q5, _⟩ := validC_parts hgj.1
              have hjb : j < bs.length := by omega
              obtain ⟨adp, ep, hp⟩ := at_P (Kd.R_reads' o1).2.2 j hjb
              subst ep
              obtain ⟨A3, c3, b1, b2, b3⟩ := o3 j j1
              have HM2 := Aside0.mk (HM.out.step hlt j1 j2 j3)
              have HG := Aside0.mk (fun (W' : World) (hbw : Below wr.heap.size wr W') => Own.grow (Kd.R_below o1 hbw) o2 (fun i hi => (o3 i hi).below hbw) o4 o5 j1)
              have HBE := Aside0.mk hbest
              have HP := Aside0.mk hp
              have HK := Aside0.mk b1
              have HBB := Aside0.mk (o4 _ (show bs.getD j 0 ∈ bs by rw [List.getD_eq_getElem?_getD, List.getElem?_eq_getElem hjb]; exact List.getElem_mem hjb))
              have hwx : IntKind.i64.wrap ((sh.getD j zS).2 + 1) = (sh.getD j zS).2 + 1 := by rw [i64_w]; have := hgj.2.1; unfold wrap64; omega
              have hjz : (j : Int) < (bs.length : Int) := by omega
              generalize bs.getD j 0 = b at b1 HG HP HK HBB
              generalize hxx : (sh.getD j zS).2 = x at b1 HG HK hwx
              clear o1 o2 o3 o4 o5 m1 m2 m3 m4 j2 j3 hbest hgj q1 q2 q5 b1 b2 b3 hp HO HM hxx
              go_wp2_with (go_at_call 59; (with_reducible refine HBE.out.mono ?_); rintro e w2 ⟨rfl, hd⟩; have HD2 := Aside0.mk hd.below; have hp2 := (hd.below.cell (World.block_lt_of_cell? _ _ HP.out)).trans HP.out; have BK2 := blk_below HK.out hd.below; have hx3 : w2.cell? ⟨b, 3, none⟩ = some (.int .i64 x) := (blk_cell BK2 3).trans rfl; have hxf := blk_frozen BK2 3; clear hd BK2)
              go_roundg ((a1 - loS l0).toNat - (n + 1))
              case measure => omega
              case rel =>
                have hsb := HSB.out
                have hhl := HHL.out
                exact ⟨n + 1, growAt sh j, by refine congrArg _ ?_; unfold wrap64; push_cast; omega, by omega, by omega, ⟨HG.out w2 HD2.out⟩, ⟨below_set (below_then HB.out HB.out.size HD2.out) HBB.out⟩, HM2⟩
            · have hne : loS l0 + (n : Int) = a1 := by omega
              have hsp : splitOk l0 a1 = (sh.map (fun p => p.2), sumTo sh sh.length, priceTo sh sh.length, 0) := by
                obtain ⟨_, _, _, m4⟩ := HM.out
                rw [show (a1 - loS l0).toNat - n = 0 by omega] at m4
                unfold splitOk
                rw [if_neg (by omega), if_neg (by omega), ← m4]
                rfl
              have HSP := Aside0.mk hsp
              have HGS := Aside0.mk HM.out.1
              have hshl : sh.length = l0.length := by
                obtain ⟨_, _, _, m4⟩ := HM.out
                have h5 := congrArg List.length m4
                rw [fillS_len, fillS_len] at h5
                rw [h5]
                simp [mkSh]
              clear hsp HM HHL HSB
              subst hne
              obtain ⟨bs, o1, o2, o3, o4, o5⟩ := HO.out
              obtain ⟨Av, cv, ev⟩ := Kd.R_slice o1
              subst ev
              have HR67 := Aside0.mk (Kd.R_reads' o1).2.2
              have HS3 := Aside0.mk o3
              have HL := Aside0.mk o2
              have hbl : bs.length ≤ 8 := by rw [o2, hshl]; exact HN.out
              clear o1 o2 o3 o4 o5
              go_wp2_with ((with_reducible refine gate_dst (N := 77) rfl ?_); refine Kd.R_lit (Kd.int .i64) _ 3 ?hg (N := 77) ?hd (xs := ([] : List Int)) (inner := []) (ok := fun _ => True) (okp := fun _ => True) ?hr ?hp (fun _ hk => hk) trivial (Below.refl _ _) (Nat.le_refl _) (by simp) ?_; (case hd => rfl); (case hg => rfl); (case hr => first | (go_simp; done) | (go_simp; rfl)); (case hp => exact Reps.none _ _); intro v1 w3 ho1 hb1 hg1 hn1; clear hg1 hn1; have HX := Aside0.mk (Kd.R_lower ho1 HB.out.size); have HB3 := Aside0.mk (below_then HB.out HB.out.size hb1); have HO3 := Aside0.mk (HO.out.below hb1); clear ho1 hb1)
              have hml : sh.length ≤ 8 := by omega
              clear HR67 hbl hshl
              go_loopg [13, 14, 15, 80] sh.length (fun gg v13 v14 v15 v80 wr => ∃ kk : Nat, kk ≤ sh.length ∧ sh.length - kk ≤ gg ∧ v80 = .int .i64 kk ∧ v14 = .int .i64 (sumTo sh kk) ∧ v15 = .int .i64 (priceTo sh kk) ∧ Aside0 (Kd.R (Kd.int .i64) 3 wr w.heap.size (fun _ => True) v13 ((sh.take kk).map (fun p => p.2))) ∧ Aside0 (Own w wr (.slice Av bs.length cv) sh) ∧ Aside0 (Below w.heap.size w wr))
              case atStart => exact ⟨0, Nat.zero_le _, by omega, rfl, rfl, rfl, HX, HO3, HB3⟩
              case round =>
                clear HX HO3 HB3 HO HB
                obtain ⟨kk, hkk, hg, rfl, rfl, rfl, HX, HO, HB⟩ := hrel
                obtain ⟨bs', o1, o2, o3, o4, o5⟩ := HO.out
                have hbb := Aside0.mk (show bs'.length = bs.length by rw [HL.out, o2])
                by_cases hlt : kk < sh.length
                · have hltz : (kk : Int) < (bs.length : Int) := by have := HL.out; omega
                  obtain ⟨Ab, cb, eb, _, hCb⟩ := Kd.R_reads o1
                  injection eb with eb1 eb2 eb3
                  subst eb1
                  subst eb3
                  clear eb2
                  obtain ⟨adp, ep, hp⟩ := at_P hCb kk (by have := hbb.out; omega)
                  subst ep
                  obtain ⟨A3, c3, b1, b2, b3⟩ := o3 kk hlt
                  have hgj := HGS.out _ (getD_mem sh kk hlt)
                  have hat := at_good hgj
                  have hpr := prices_good hgj 0
                  have HS1 := Aside0.mk (sumTo_succ sh kk hlt)
                  have HS2 := Aside0.mk (priceTo_succ sh kk hlt)
                  have HS4 := Aside0.mk (xs_succ sh kk hlt)
                  generalize bs'.getD kk 0 = b at hp b1
                  generalize atP (sh.getD kk zS) = av at hat HS1
                  generalize loPr (sh.getD kk zS) = lv at hpr HS2
                  generalize hiPr (sh.getD kk zS) = hv2 at hpr
                  generalize hyy : sh.getD kk zS = y at b1 b2 b3 hat hpr HS4 hgj
                  obtain ⟨cv2, x⟩ := y
                  have HAT := Aside0.mk hat
                  have HPR := Aside0.mk hpr
                  have HB2 := Aside0.mk b2
                  have HB3 := Aside0.mk b3
                  have HBK := Aside0.mk b1
                  have hx3 : wr.cell? ⟨b, 3, none⟩ = some (.int .i64 x) := (blk_cell b1 3).trans rfl
                  have hxl : ((sh.take kk).map (fun p => p.2)).length ≤ 8 := by rw [List.length_map, List.length_take]; omega
                  generalize (sh.take kk).map (fun p => p.2) = xs at HX HS4 hxl
                  obtain ⟨Ax, cx, ex⟩ := Kd.R_slice HX.out
                  subst ex
                  have HXL := Aside0.mk hxl
                  obtain ⟨i3, hi3, hiz3, his3, hib3⟩ := info_parts info3
                  clear hat hpr b1 b2 b3 o1 o2 o3 o4 o5 hyy hgj hxl
                  go_wp2_with (at_builtin; (have F := blk_new wr (.cells #[.int .i64 x] 3)); (refine wpList_append_own _ rfl (.tmp 84) (.tmp 89) 22 rfl w.heap.size 3 i3 (.int .i64 0) 1 8 Try.underlying22 hi3 hiz3 his3 hib3 rfl (by decide) _ xs.length (encs (Value.int .i64) xs) rfl ?ow ⟨wr.heap.size, 0, none⟩ 1 1 [.int .i64 x] rfl rfl ?nw (by simp [Value.oneCell']) (by have := HXL.out; unfold maxLen; omega) (by have := HXL.out; omega) ?bb ?_); (case nw => (intro j u h; rcases j with _ | j; (simp at h; subst h; exact (blk_cell F 0).trans rfl); (simp at h))); (case bb => exact Nat.le_trans HB.out.size (below_alloc (Below.refl _ wr) _).size); (case ow => exact Kd.own_of_R (Kd.R_below HX.out (below_alloc (Below.refl _ wr) _))); intro v5 w5 hown hg5 _)
                  have mixed : Try.prog.follows .mixedOrders = true := by kernel_rfl
                  have hba := below_alloc (Below.refl wr.heap.size wr) (.cells #[.int .i64 x] 3)
                  have HX5 := Aside0.mk (show Kd.R (Kd.int .i64) 3 w5 w.heap.size (fun _ => True) v5 (xs ++ [x]) from Kd.R_of_own (by simpa [encs] using hown) (fun _ _ => trivial))
                  have HO5 := Aside0.mk (Own.grown (HO.out.below hba) (Kd.R_below HX.out hba) hg5)
                  have HB5 := Aside0.mk ((below_then HB.out HB.out.size hba).grown hg5 (Nat.le_trans HB.out.size hba.size) (fun k hk => Kd.R_base HX.out k hk))
                  have HK5 := Aside0.mk (blk_grown (blk_below HBK.out hba) hg5 (Kd.R_ne (Kd.R_below HX.out hba) (blk_below HBK.out hba) (by decide)))
                  clear hba hown hg5 HX HO HB HBK hx3
                  have g0 : ∀ p : Bel w5, p.W.cell? ⟨b, 0, none⟩ = some (.int .i64 cv2.f0) := fun p => p.cell ((blk_cell HK5.out 0).trans rfl)
                  have g1 : ∀ p : Bel w5, p.W.cell? ⟨b, 1, none⟩ = some (.int .i64 cv2.f1) := fun p => p.cell ((blk_cell HK5.out 1).trans rfl)
                  have g2 : ∀ p : Bel w5, p.W.cell? ⟨b, 2, none⟩ = some (.slice A3 cv2.f2.length c3) := fun p => p.cell ((blk_cell HK5.out 2).trans rfl)
                  have g3 : ∀ p : Bel w5, p.W.cell? ⟨b, 3, none⟩ = some (.int .i64 x) := fun p => p.cell ((blk_cell HK5.out 3).trans rfl)
                  refine wp_region_bel (by assumption) (by kernel_rfl) ?_
                  repeat (quiet_step ((go_at_call 61; refine Calls.bel_of (curve_at.calls _ _ _ _ _ _ _ _ (Kd.C_below (Kd.C_below HB3.out HB5.out) (Bel.h _)) HB2.out HAT.out))))
                  refine wpQuiet_nil ?_
                  intro wq hw'
                  obtain ⟨pq, hw''⟩ := hw'
                  have hq := Bel.h pq
                  rw [← hw''] at hq
                  clear hw'' pq
                  have HO6 := Aside0.mk (HO5.out.below hq)
                  have HX6 := Aside0.mk (Kd.R_below HX5.out hq)
                  have HB6 := Aside0.mk (below_then HB5.out HB5.out.size hq)
                  have HK6 := Aside0.mk (blk_below HK5.out hq)
                  clear hq g0 g1 g2 g3 HO5 HX5 HB5 HK5
                  have g0 : ∀ p : Bel wq, p.W.cell? ⟨b, 0, none⟩ = some (.int .i64 cv2.f0) := fun p => p.cell ((blk_cell HK6.out 0).trans rfl)
                  have g1 : ∀ p : Bel wq, p.W.cell? ⟨b, 1, none⟩ = some (.int .i64 cv2.f1) := fun p => p.cell ((blk_cell HK6.out 1).trans rfl)
                  have g2 : ∀ p : Bel wq, p.W.cell? ⟨b, 2, none⟩ = some (.slice A3 cv2.f2.length c3) := fun p => p.cell ((blk_cell HK6.out 2).trans rfl)
                  have g3 : ∀ p : Bel wq, p.W.cell? ⟨b, 3, none⟩ = some (.int .i64 x) := fun p => p.cell ((blk_cell HK6.out 3).trans rfl)
                  go_wp2
                  refine wp_region_bel (by assumption) (by kernel_rfl) ?_
                  repeat (quiet_step ((go_at_call 62; refine Calls.bel_of (curve_prices.calls _ _ _ _ _ _ _ _ _ _ (Kd.C_below (Kd.C_below HB3.out HB6.out) (Bel.h _)) HB2.out HPR.out))))
                  refine wpQuiet_nil ?_
                  intro wq hw'
                  obtain ⟨pq, hw''⟩ := hw'
                  have hq := Bel.h pq
                  rw [← hw''] at hq
                  clear hw'' pq
                  have HO7 := Aside0.mk (HO6.out.below hq)
                  have HX7 := Aside0.mk (Kd.R_below HX6.out hq)
                  have HB7 := Aside0.mk (below_then HB6.out HB6.out.size hq)
                  clear hq g0 g1 g2 g3 HO6 HX6 HB6 HK6
                  go_wp2
                  all_goals
                    go_roundg (sh.length - (kk + 1))
                    case measure => omega
                    case rel => exact ⟨kk + 1, by omega, by omega, by go_num, by rw [HS1.out, i64_w], by rw [HS2.out]; first | done | (refine congrArg _ ?_; omega), ⟨by rw [HS4.out]; exact HX7.out⟩, HO7, HB7⟩
                · obtain rfl : kk = sh.length := by omega
                  have hltz : ¬ ((sh.length : Nat) : Int) < (bs.length : Int) := by have := HL.out; omega
                  go_wp2
                  refine bodyPost_ret (results_list (rs := [.tmp 4, .tmp 5, .tmp 6, .tmp 7]) rfl (by simp) (.tmp (.tmp (.tmp (.tmp .nil))))) rfl ?_
                  exact HRR.out _ _ (SplitPost.ok HSP.out (by have h := HX.out; rw [List.take_length] at h; exact h) HB.out)
def splitR (l : List S24) (a1 : Int) : List Int × Int × Int × Int :=
  if 8 < l.length then ([], 0, 0, 3) else if l.length = 0 then ([], 0, 0, 2) else if l.any (fun x => !validC x.f0 x.f1 x.f2) = true then ([], 0, 0, 2) else splitOk l a1
def curve_Split.f (k : Nat) (l : List S24) (a1 : Int) : Option (List Int × Int × Int × Int) := some (splitR l a1)
theorem curve_Split.mono : ∀ a0 a1 k, LeO (curve_Split.f k a0 a1) (curve_Split.f (k + 1) a0 a1) := fun _ _ _ => LeO.refl _
set_option maxHeartbeats 4000000 in
set_option maxRecDepth 100000 in
theorem curve_Split.all (A0 : Option Addr) (c0 : Nat) (l0 : List S24) (a1 : Int) (w : World) (hr0 : Kd.C k24 w A0 l0.length l0) (hc0 : l0.length ≤ c0) (R : Ending → World → Prop) (hR : ∀ e w', SplitPost w (splitR l0 a1) e w' → R e w') :
    Calls Try.prog 19 #[.slice A0 l0.length c0, .int .i64 a1] w R := by
  have HRR := Aside0.mk hR
  clear hR
  by_cases h8 : 8 < l0.length
  · have h8z : (8 : Int) < (l0.length : Int) := by omega
    have e1 : splitR l0 a1 = ([], 0, 0, 3) := by unfold splitR; rw [if_pos h8]
    have E1 := Aside0.mk e1
    clear h8 e1
    go_enter Try.func19, Try.ntmps19
    go_wp2
    refine bodyPost_ret (results_list (rs := [.tmp 4, .tmp 5, .tmp 6, .tmp 7]) rfl (by simp) (.tmp (.tmp (.tmp (.tmp .nil))))) rfl ?_
    exact HRR.out _ _ (SplitPost.err 3 E1.out (Below.refl _ w))
  · have h8z : ¬ (8 : Int) < (l0.length : Int) := by omega
    by_cases h0 : l0.length = 0
    · have hz : ((l0.length : Int) == 0) = true := by rw [beq_iff_eq]; omega
      have e1 : splitR l0 a1 = ([], 0, 0, 2) := by unfold splitR; rw [if_neg h8, if_pos h0]
      have E1 := Aside0.mk e1
      clear h8 e1 h0
      go_enter Try.func19, Try.ntmps19
      go_wp2
      refine bodyPost_ret (results_list (rs := [.tmp 4, .tmp 5, .tmp 6, .tmp 7]) rfl (by simp) (.tmp (.tmp (.tmp (.tmp .nil))))) rfl ?_
      exact HRR.out _ _ (SplitPost.err 2 E1.out (Below.refl _ w))
    · by_cases ha : l0.any (fun x => !validC x.f0 x.f1 x.f2) = true
      · have hz : ((l0.length : Int) == 0) = false := by rw [beq_eq_false_iff_ne]; omega
        have e1 : splitR l0 a1 = ([], 0, 0, 2) := by unfold splitR; rw [if_neg h8, if_neg h0, if_pos ha]
        have E1 := Aside0.mk e1
        have HC := Aside0.mk (containsFunc_curve 57 #[] _ enter57 A0 c0 l0 w hr0 (pred_valid w))
        rw [ha] at HC
        clear h8 e1 h0 ha
        go_enter Try.func19, Try.ntmps19
        go_wp2_with (go_at_call 56; (with_reducible refine HC.out.mono ?_); rintro e w1 ⟨rfl, hb1⟩; have HB1 := Aside0.mk hb1; clear hb1)
        refine bodyPost_ret (results_list (rs := [.tmp 4, .tmp 5, .tmp 6, .tmp 7]) rfl (by simp) (.tmp (.tmp (.tmp (.tmp .nil))))) rfl ?_
        exact HRR.out _ _ (SplitPost.err 2 E1.out HB1.out)
      · have hv : AllV l0 := by
          intro c hc
          have ha2 : l0.any (fun x => !validC x.f0 x.f1 x.f2) = false := Bool.eq_false_iff.mpr ha
          rw [List.any_eq_false] at ha2
          simpa using ha2 c hc
        refine curve_Split.go A0 c0 l0 a1 w hr0 hc0 (by omega) (by omega) hv R (fun e w' hp => HRR.out e w' ?_)
        unfold splitR
        rw [if_neg h8, if_neg h0, if_neg ha]
        exact hp
set_option maxHeartbeats 4000000 in
set_option maxRecDepth 100000 in
theorem curve_Split.calls (k : Nat) (A0 : Option Addr) (c0 : Nat) (l0 : List S24) (a1 : Int) (r1 : List Int) (r2 r3 r4 : Int) (w : World) (hr0 : Kd.C k24 w A0 l0.length l0) (hc0 : l0.length ≤ c0) (h : curve_Split.f k l0 a1 = some (r1, r2, r3, r4)) :
    Calls Try.prog 19 #[.slice A0 l0.length c0, .int .i64 a1] w fun e w' => ∃ v_ : Value, e = .returned (.tuple #[v_, .int .i64 r2, .int .i64 r3, .int .i64 r4]) ∧ Kd.R (Kd.int .i64) 3 w' w.heap.size (fun _ => True) v_ r1 ∧ Below w.heap.size w w' := by
  have hr : splitR l0 a1 = (r1, r2, r3, r4) := Option.some.inj h
  have key : ∀ e w', SplitPost w (splitR l0 a1) e w' → ∃ v_ : Value, e = .returned (.tuple #[v_, .int .i64 r2, .int .i64 r3, .int .i64 r4]) ∧ Kd.R (Kd.int .i64) 3 w' w.heap.size (fun _ => True) v_ r1 ∧ Below w.heap.size w w' := by
    intro e w' hp
    rw [hr] at hp
    exact hp
  exact curve_Split.all A0 c0 l0 a1 w hr0 hc0 _ key
end Go.Proofs.Ytingjpcgehgiiaa.Pr
end
section
namespace Go.Proofs.Ytingjpcgehgiiaa.Pr
open Go.RowKit Go.Proofs.YtingjpcgehgiiaaW.PrintWords Go.Proofs.YtingjpcgehgiiaaW.PrintLast Go.Proofs.YtingjpcgehgiiaaW.PrintMore
set_option linter.unusedVariables false
set_option linter.unusedSimpArgs false
theorem C_lit {W : World} {g : Nat} (xs : List Int) (h : W.heap[g]? = some (.cells ((xs.map (Value.int .i64)).toArray) 3 (0, 0))) (hl : xs.length ≤ 9223372036854775807) : Kd.C (Kd.int .i64) W (some ⟨g, 0, none⟩) xs.length xs := by
  refine ⟨rfl, hl, fun _ => ⟨_, rfl, fun j p hp => ⟨[.int .i64 p], rfl, rfl, fun i u hu => ?_⟩⟩⟩
  rcases i with _ | i
  · simp at hu
    subst hu
    have hc := blk_cell h j
    have e : (⟨g, 0, none⟩ : Addr).add (j * 1 + 0) = ⟨g, j, none⟩ := by simp [Addr.add]; intro h; exact h.symm
    show W.cell? ((⟨g, 0, none⟩ : Addr).add (j * 1 + 0)) = _
    rw [e, hc]
    simp [hp]
  · simp at hu
/-- A literal of curves: their cells one behind the other. -/
theorem C_lit24 {W : World} {g : Nat} (c1 c2 : S24) (A1 A2 : Option Addr) (n1 n2 : Nat) (h : W.heap[g]? = some (.cells #[.int .i64 c1.f0, .int .i64 c1.f1, .slice A1 c1.f2.length n1, .int .i64 c2.f0, .int .i64 c2.f1, .slice A2 c2.f2.length n2] 24 (0, 0)))
    (l1 : c1.f2.length ≤ n1) (l2 : c2.f2.length ≤ n2) (h1 : Kd.C (Kd.int .i64) W A1 c1.f2.length c1.f2) (h2 : Kd.C (Kd.int .i64) W A2 c2.f2.length c2.f2) : Kd.C k24 W (some ⟨g, 0, none⟩) 2 [c1, c2] := by
  refine ⟨rfl, by omega, fun _ => ⟨_, rfl, fun j p hp => ?_⟩⟩
  rcases j with _ | _ | j
  · simp at hp
    subst hp
    refine ⟨_, rfl, k24_mk W c1 l1 h1, fun i u hu => ?_⟩
    have hc := blk_cell h i
    have e : (⟨g, 0, none⟩ : Addr).add (0 * 3 + i) = ⟨g, i, none⟩ := by simp [Addr.add]; intro h; exact h.symm
    show W.cell? ((⟨g, 0, none⟩ : Addr).add (0 * 3 + i)) = _
    rw [e, hc]
    rcases i with _ | _ | _ | i
    · simpa using hu
    · simpa using hu
    · simpa using hu
    · simp at hu
  · simp at hp
    subst hp
    refine ⟨_, rfl, k24_mk W c2 l2 h2, fun i u hu => ?_⟩
    have hc := blk_cell h (3 + i)
    have e : (⟨g, 0, none⟩ : Addr).add ((0 + 1) * 3 + i) = ⟨g, 3 + i, none⟩ := by simp [Addr.add]
    show W.cell? ((⟨g, 0, none⟩ : Addr).add ((0 + 1) * 3 + i)) = _
    rw [e, hc]
    rcases i with _ | _ | _ | i
    · simpa using hu
    · simpa using hu
    · simpa using hu
    · simp at hu
  · simp at hp
end Go.Proofs.Ytingjpcgehgiiaa.Pr
end
section
namespace Go.Proofs.Ytingjpcgehgiiaa.Pr
open Go.RowKit Go.Shelf Go.Proofs.YtingjpcgehgiiaaW.PrintWords Go.Proofs.YtingjpcgehgiiaaW.PrintLast Go.Proofs.YtingjpcgehgiiaaW.PrintMore
set_option linter.unusedVariables false
set_option linter.unusedSimpArgs false
def kimberlitelaw03_alive.f : Option Bool := some true
theorem alive_join : curve_Join.f 0 0 [1, 3] 0 0 [2, 2] = some (0, 0, [1, 2, 2, 3], 0) := by
  have e : sortL ([1, 3] ++ [2, 2]) = [1, 2, 2, 3] := by simp [sortL, List.mergeSort, List.MergeSort.Internal.splitInTwo, List.merge]
  have e1 : validC 0 0 [1, 3] = true := by kernel_rfl
  have e2 : validC 0 0 [2, 2] = true := by kernel_rfl
  have e3 : validC 0 0 [1, 2, 2, 3] = true := by kernel_rfl
  have e4 : wrap64 (0 + 0) = 0 := by unfold wrap64; omega
  unfold curve_Join.f joinR
  rw [e, e1, e2, e4, e3]
  rfl
theorem alive_split (k : Nat) : curve_Split.f k [⟨0, 0, [1, 3]⟩, ⟨0, 0, [2, 2]⟩] 3 = some ([1, 2], 5, 2, 0) := by
  show some _ = _
  kernel_rfl
theorem alive_same1 : kimberlitelaw03_same.f 10 [1, 2, 2, 3] [1, 2, 2, 3] = some true := by kernel_rfl
theorem alive_same2 : kimberlitelaw03_same.f 10 [1, 2] [1, 2] = some true := by kernel_rfl
theorem alive_c1 (w3 : World) (Aj : Option Addr) (cj : Nat) (h1 : Kd.C (Kd.int .i64) w3 Aj 4 [1, 2, 2, 3]) (h2 : 4 ≤ cj) :
    Calls Try.prog 24 #[.slice Aj 4 cj, .slice (some ⟨w3.heap.size, 0, none⟩) 4 4] (w3.alloc (.cells #[.int .i64 1, .int .i64 2, .int .i64 2, .int .i64 3] 3)) fun e w' => e = .returned (.bool true) ∧ Drawn0 (w3.alloc (.cells #[.int .i64 1, .int .i64 2, .int .i64 2, .int .i64 3] 3)) w' :=
  kimberlitelaw03_same.calls 10 Aj cj [1, 2, 2, 3] (some ⟨w3.heap.size, 0, none⟩) 4 [1, 2, 2, 3] true _ (Kd.C_alloc h1 _) h2 (C_lit [1, 2, 2, 3] (blk_new w3 (.cells #[.int .i64 1, .int .i64 2, .int .i64 2, .int .i64 3] 3)) (by decide)) (by decide) alive_same1
theorem alive_c2 (As : Option Addr) (cs : Nat) (h2 : 2 ≤ cs) (w4 : World) (h1 : Kd.C (Kd.int .i64) w4 As 2 [1, 2]) :
    Calls Try.prog 24 #[.slice As 2 cs, .slice (some ⟨w4.heap.size, 0, none⟩) 2 2] (w4.alloc (.cells #[.int .i64 1, .int .i64 2] 3)) fun e w' => e = .returned (.bool true) ∧ Drawn0 (w4.alloc (.cells #[.int .i64 1, .int .i64 2] 3)) w' :=
  kimberlitelaw03_same.calls 10 As cs [1, 2] (some ⟨w4.heap.size, 0, none⟩) 2 [1, 2] true _ (Kd.C_alloc h1 _) h2 (C_lit [1, 2] (blk_new w4 (.cells #[.int .i64 1, .int .i64 2] 3)) (by decide)) (by decide) alive_same2
set_option maxHeartbeats 400000 in
set_option maxRecDepth 100000 in
theorem kimberlitelaw03_alive.calls (r : Bool) (w : World) (h : kimberlitelaw03_alive.f = some r) :
    Calls Try.prog 17 #[] w fun e w' => e = .returned (.bool r) ∧ Below w.heap.size w w' := by
  obtain rfl : true = r := Option.some.inj h
  have hu24 := Try.underlying24
  have A0 := C_lit [1, 3] (blk_new w (.cells #[.int .i64 1, .int .i64 3] 3)) (by decide)
  have B0 := blk_new (w.alloc (.cells #[.int .i64 1, .int .i64 3] 3)) (.cells #[.int .i64 2, .int .i64 2] 3)
  rw [World.size_alloc] at B0
  replace B0 := C_lit [2, 2] B0 (by decide)
  have HA := Aside0.mk A0
  have HB := Aside0.mk B0
  have C0 := blk_new ((w.alloc (.cells #[.int .i64 1, .int .i64 3] 3)).alloc (.cells #[.int .i64 2, .int .i64 2] 3)) (.cells #[.int .i64 0, .int .i64 0, .slice (some ⟨w.heap.size, 0, none⟩) 2 2] 24)
  have D0 := blk_new (((w.alloc (.cells #[.int .i64 1, .int .i64 3] 3)).alloc (.cells #[.int .i64 2, .int .i64 2] 3)).alloc (.cells #[.int .i64 0, .int .i64 0, .slice (some ⟨w.heap.size, 0, none⟩) 2 2] 24)) (.cells #[.int .i64 0, .int .i64 0, .slice (some ⟨w.heap.size + 1, 0, none⟩) 2 2] 24)
  rw [World.size_alloc, World.size_alloc] at C0
  rw [World.size_alloc, World.size_alloc, World.size_alloc] at D0
  replace C0 := blk_alloc C0 (.cells #[.int .i64 0, .int .i64 0, .slice (some ⟨w.heap.size + 1, 0, none⟩) 2 2] 24)
  have HL4 := Aside0.mk (below_alloc (below_alloc (below_alloc (below_alloc (Below.refl w.heap.size w) (.cells #[.int .i64 1, .int .i64 3] 3)) (.cells #[.int .i64 2, .int .i64 2] 3)) (.cells #[.int .i64 0, .int .i64 0, .slice (some ⟨w.heap.size, 0, none⟩) 2 2] 24)) (.cells #[.int .i64 0, .int .i64 0, .slice (some ⟨w.heap.size + 1, 0, none⟩) 2 2] 24))
  have HC := Aside0.mk C0
  have HD := Aside0.mk D0
  clear A0 B0 C0 D0
  go_enter Try.func17, Try.ntmps17
  go_upto_region 3 with (go_at_call 14; (refine (curve_Join.calls 0 0 _ _ [1, 3] 0 0 _ _ [2, 2] 0 0 [1, 2, 2, 3] 0 _ (Kd.C_alloc (Kd.C_alloc (Kd.C_alloc HA.out _) _) _) (by decide) (Kd.C_alloc (Kd.C_alloc HB.out _) _) (by decide) alive_join).mono ?_); rintro e w1 ⟨vj, rfl, hr1, hb1⟩; obtain ⟨Aj, cj, ej⟩ := Kd.R_slice hr1; subst ej; have HR1 := Aside0.mk hr1; have HB1 := Aside0.mk hb1; clear hr1 hb1)
  have K0 := blk_new w1 (.cells #[.int .i64 0, .int .i64 0, .slice Aj 4 cj] 24)
  have HR2 := Aside0.mk (Kd.C_alloc (Kd.R_reads' HR1.out).2.2 (.cells #[.int .i64 0, .int .i64 0, .slice Aj 4 cj] 24))
  have HRl := Aside0.mk (Kd.R_reads' HR1.out).2.1
  have HK := Aside0.mk K0
  have HC2 := Aside0.mk (blk_alloc (blk_below HC.out HB1.out) (.cells #[.int .i64 0, .int .i64 0, .slice Aj 4 cj] 24))
  have HD2 := Aside0.mk (blk_alloc (blk_below HD.out HB1.out) (.cells #[.int .i64 0, .int .i64 0, .slice Aj 4 cj] 24))
  have HA2 := Aside0.mk (Kd.C_alloc (Kd.C_below (Kd.C_alloc (Kd.C_alloc (Kd.C_alloc HA.out _) _) _) HB1.out) (.cells #[.int .i64 0, .int .i64 0, .slice Aj 4 cj] 24))
  have HBB2 := Aside0.mk (Kd.C_alloc (Kd.C_below (Kd.C_alloc (Kd.C_alloc HB.out _) _) HB1.out) (.cells #[.int .i64 0, .int .i64 0, .slice Aj 4 cj] 24))
  have HL5 := Aside0.mk (below_alloc (below_then HL4.out HL4.out.size HB1.out) (.cells #[.int .i64 0, .int .i64 0, .slice Aj 4 cj] 24))
  clear K0 HA HB HC HD HR1 HB1 HL4
  try simp only [Act.put, List.setIfInBounds_toArray, List.set_cons_zero, List.set_cons_succ]
  generalize w1.alloc (.cells #[.int .i64 0, .int .i64 0, .slice Aj 4 cj] 24) = w2 at HK HC2 HD2 HA2 HBB2 HL5 HR2 ⊢
  generalize w1.heap.size = g3 at HK ⊢
  generalize w.heap.size + 1 + 1 + 1 = gd at HD2 ⊢
  generalize w.heap.size + 1 + 1 = gc at HC2 ⊢
  generalize w.heap.size + 1 = gb at HD2 HBB2 ⊢
  have c0 : w2.cell? ⟨gc, 0, none⟩ = some (.int .i64 0) := (blk_cell HC2.out 0).trans rfl
  have c1 : w2.cell? ⟨gc, 1, none⟩ = some (.int .i64 0) := (blk_cell HC2.out 1).trans rfl
  have c2 : w2.cell? ⟨gc, 2, none⟩ = some (.slice (some ⟨w.heap.size, 0, none⟩) 2 2) := (blk_cell HC2.out 2).trans rfl
  have d0 : w2.cell? ⟨gd, 0, none⟩ = some (.int .i64 0) := (blk_cell HD2.out 0).trans rfl
  have d1 : w2.cell? ⟨gd, 1, none⟩ = some (.int .i64 0) := (blk_cell HD2.out 1).trans rfl
  have d2 : w2.cell? ⟨gd, 2, none⟩ = some (.slice (some ⟨gb, 0, none⟩) 2 2) := (blk_cell HD2.out 2).trans rfl
  go_upto_region 4 with (go_at_call 19; (refine (curve_Split.calls 0 _ _ [⟨0, 0, [1, 3]⟩, ⟨0, 0, [2, 2]⟩] 3 [1, 2] 5 2 0 _ (C_lit24 ⟨0, 0, [1, 3]⟩ ⟨0, 0, [2, 2]⟩ (some ⟨w.heap.size, 0, none⟩) (some ⟨gb, 0, none⟩) 2 2 (blk_new w2 _) (by decide) (by decide) (Kd.C_alloc HA2.out _) (Kd.C_alloc HBB2.out _)) (by decide) (alive_split 0)).mono ?_); rintro e w3 ⟨vs, rfl, hr3, hb3⟩; obtain ⟨As, cs, es⟩ := Kd.R_slice hr3; subst es; have HS := Aside0.mk (Kd.R_reads' hr3); have HB3 := Aside0.mk (below_then (below_alloc HL5.out _) (below_alloc HL5.out _).size hb3); have HR3 := Aside0.mk (Kd.C_below (Kd.C_alloc HR2.out _) hb3); have HK3 := Aside0.mk (blk_below (blk_alloc HK.out _) hb3); clear hr3 hb3)
  clear c0 c1 c2 d0 d1 d2 HK HC2 HD2 HA2 HBB2 HL5 HR2
  try simp only [Act.put, List.setIfInBounds_toArray, List.set_cons_zero, List.set_cons_succ]
  have c2 : w3.cell? ⟨g3, 2, none⟩ = some (.slice Aj 4 cj) := (blk_cell HK3.out 2).trans rfl
  have mixed : Try.prog.follows .mixedOrders = true := by kernel_rfl
  have HL1 := Aside0.mk (C_lit [1, 2, 2, 3] (blk_new w3 (.cells #[.int .i64 1, .int .i64 2, .int .i64 2, .int .i64 3] 3)) (by decide))
  have HLs := Aside0.mk (Kd.C_alloc HS.out.2.2 (.cells #[.int .i64 1, .int .i64 2, .int .i64 2, .int .i64 3] 3))
  have HB4 := Aside0.mk (below_alloc HB3.out (.cells #[.int .i64 1, .int .i64 2, .int .i64 2, .int .i64 3] 3))
  have HC1 := Aside0.mk (show Calls Try.prog 24 #[.slice Aj 4 cj, .slice (some ⟨w3.heap.size, 0, none⟩) 4 4] (w3.alloc (.cells #[.int .i64 1, .int .i64 2, .int .i64 2, .int .i64 3] 3)) fun e w' => e = .returned (.bool true) ∧ Drawn0 (w3.alloc (.cells #[.int .i64 1, .int .i64 2, .int .i64 2, .int .i64 3] 3)) w' from alive_c1 w3 Aj cj HR3.out HRl.out)
  have HC2 := Aside0.mk (alive_c2 As cs HS.out.2.1)
  clear HL1 HR3 HRl
  have HS2 := Aside0.mk HS.out.2.2
  clear HS
  go_wp2_with (first | (go_at_call 24; (with_reducible refine HC1.out.mono ?_); rintro e w4 ⟨rfl, hd⟩; have HB5 := Aside0.mk (below_then HB4.out HB4.out.size hd.below); have HS5 := Aside0.mk (Kd.C_below HLs.out hd.below); clear hd HC1) | (go_at_call 24; (with_reducible refine (HC2.out _ HS5.out).mono ?_); rintro e w5 ⟨rfl, hd⟩; have HB6 := Aside0.mk (below_then (below_alloc HB5.out _) (below_alloc HB5.out _).size hd.below); clear hd))
  go_ret
  exact ⟨rfl, HB6.out⟩
end Go.Proofs.Ytingjpcgehgiiaa.Pr
end
