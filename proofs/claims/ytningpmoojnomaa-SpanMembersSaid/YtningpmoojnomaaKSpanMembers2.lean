/- What the proof of the law needs, trimmed and merged by wip/pack.py out of the texts YtningpmoojnomaaPrx12, YtningpmoojnomaaPrx6, YtningpmoojnomaaExtList, YtningpmoojnomaaExtHas, YtningpmoojnomaaMath, YtningpmoojnomaaExtClone, YtningpmoojnomaaBridge, YtningpmoojnomaaShelf, YtningpmoojnomaaExtOf, YtningpmoojnomaaSets, YtningpmoojnomaaSetm, YtningpmoojnomaaExtGrow. No condition. -/
import Derived.Shelf.Abstract
import Derived.Lib.SliceRun
import Derived.Shelf.SlSortCmp.NoneTotal
import Derived.Shelf.Sort.Plain
import Derived.Shelf.Small.Wraps
import Derived.Ground.Names2Prog
import Derived.Shelf.Slices.CompactI
import Derived.Shelf.Slices.In.SortNone
import Derived.Ground.SlsfProg
import Derived.Shelf.SlSortCmp.Insertion
import Derived.Shelf.SlSortCmp.Insertion1
import Derived.Test.YtningpmoojnomaaProg
import Derived.Test.YtningpmoojnomaaKSpanMembers0
import Derived.Test.YtningpmoojnomaaKSpanMembers1
section
namespace Go.Proofs.Ytningpmoojnomaa.Pr
open Go.RowKit Go.Proofs.YtningpmoojnomaaW.PrintWords Go.Proofs.YtningpmoojnomaaW.PrintLast Go.Proofs.YtningpmoojnomaaW.PrintMore
attribute [local go_sem] max2_int min2_int max_two min_two max_three min_three max_four min_four   -- for this text's walks alone
set_option linter.unusedVariables false
set_option linter.unusedSimpArgs false
mutual
def span_Shrink.l0 : Nat → Int → List (S32) → List (S32) → Int → Int → Option ((List (S32)) × Int)
 | 0, _, _, _, _, _ => none
 | k + 1, x1, x6, x13, x14, x15 => if x15 < x14 then (if 0 ≤ x15 then (if x15 < (x13.length : Int) then (if ((rd_T32 x13 x15).f0) > (-1099511627776) then (span_Shrink.j1 k x1 x6 x13 x14 x15 (wrap64 (((rd_T32 x13 x15).f0) + x1)) ((rd_T32 x13 x15).f1)) else (span_Shrink.j1 k x1 x6 x13 x14 x15 ((rd_T32 x13 x15).f0) ((rd_T32 x13 x15).f1))) else (none)) else (none)) else (some (x6, 0))
def span_Shrink.j1 : Nat → Int → List (S32) → List (S32) → Int → Int → Int → Int → Option ((List (S32)) × Int)
 | 0, _, _, _, _, _, _, _ => none
 | k + 1, x1, x6, x13, x14, x15, x161000, x161001 => if x161001 < 1099511627776 then (span_Shrink.j2 k x1 x6 x13 x14 x15 x161000 (wrap64 (x161001 - x1))) else (span_Shrink.j2 k x1 x6 x13 x14 x15 x161000 x161001)
def span_Shrink.j2 : Nat → Int → List (S32) → List (S32) → Int → Int → Int → Int → Option ((List (S32)) × Int)
 | 0, _, _, _, _, _, _, _ => none
 | k + 1, x1, x6, x13, x14, x15, x161000, x161001 => if x161000 < x161001 then (if x6.length < 8796093022208 then (span_Shrink.l0 k x1 (x6 ++ [(⟨x161000, x161001⟩ : S32)]) x13 x14 (wrap64 (x15 + 1))) else (none)) else (span_Shrink.l0 k x1 x6 x13 x14 (wrap64 (x15 + 1)))
end
def span_Shrink.f (k : Nat) (l0 : List (S32)) (a1 : Int) : Option ((List (S32)) × Int) := (span_radius.f k l0 a1).bind fun t158 => (if t158 = true then (span_Shrink.l0 k a1 ([] : List (S32)) l0 (l0.length : Int) 0) else (some (([] : List (S32)), 2)))
theorem span_Shrink.mono_l : ∀ k, (∀ y0 y1 y2 y3 y4, LeO (span_Shrink.l0 k y0 y1 y2 y3 y4) (span_Shrink.l0 (k + 1) y0 y1 y2 y3 y4)) ∧ (∀ y0 y1 y2 y3 y4 y5 y6, LeO (span_Shrink.j1 k y0 y1 y2 y3 y4 y5 y6) (span_Shrink.j1 (k + 1) y0 y1 y2 y3 y4 y5 y6)) ∧ (∀ y0 y1 y2 y3 y4 y5 y6, LeO (span_Shrink.j2 k y0 y1 y2 y3 y4 y5 y6) (span_Shrink.j2 (k + 1) y0 y1 y2 y3 y4 y5 y6))
 | 0 => ⟨fun _ _ _ _ _ r h => by simp [span_Shrink.l0] at h, fun _ _ _ _ _ _ _ r h => by simp [span_Shrink.j1] at h, fun _ _ _ _ _ _ _ r h => by simp [span_Shrink.j2] at h⟩
 | k + 1 => by
  obtain ⟨ih0, ih1, ih2⟩ := span_Shrink.mono_l k
  refine ⟨?_, ?_, ?_⟩
  · intro y0 y1 y2 y3 y4
    unfold span_Shrink.l0
    repeat' first
    | (with_reducible exact ih0 _ _ _ _ _)
    | (with_reducible exact ih1 _ _ _ _ _ _ _)
    | (with_reducible exact ih2 _ _ _ _ _ _ _)
    | (with_reducible exact span_radius.mono _ _ _)
    | (with_reducible exact LeO.refl _)
    | (with_reducible exact LeO.none _)
    | (with_reducible refine LeO.ite ?_ ?_)
    | (with_reducible refine LeO.bind ?_ (fun _ => ?_))
    | exact ih0 _ _ _ _ _
    | exact ih1 _ _ _ _ _ _ _
    | exact ih2 _ _ _ _ _ _ _
    | exact span_radius.mono _ _ _
    | exact LeO.none _
    | refine LeO.ite ?_ ?_
    | refine LeO.bind ?_ (fun _ => ?_)
  · intro y0 y1 y2 y3 y4 y5 y6
    unfold span_Shrink.j1
    repeat' first
    | (with_reducible exact ih0 _ _ _ _ _)
    | (with_reducible exact ih1 _ _ _ _ _ _ _)
    | (with_reducible exact ih2 _ _ _ _ _ _ _)
    | (with_reducible exact span_radius.mono _ _ _)
    | (with_reducible exact LeO.refl _)
    | (with_reducible exact LeO.none _)
    | (with_reducible refine LeO.ite ?_ ?_)
    | (with_reducible refine LeO.bind ?_ (fun _ => ?_))
    | exact ih0 _ _ _ _ _
    | exact ih1 _ _ _ _ _ _ _
    | exact ih2 _ _ _ _ _ _ _
    | exact span_radius.mono _ _ _
    | exact LeO.none _
    | refine LeO.ite ?_ ?_
    | refine LeO.bind ?_ (fun _ => ?_)
  · intro y0 y1 y2 y3 y4 y5 y6
    unfold span_Shrink.j2
    repeat' first
    | (with_reducible exact ih0 _ _ _ _ _)
    | (with_reducible exact ih1 _ _ _ _ _ _ _)
    | (with_reducible exact ih2 _ _ _ _ _ _ _)
    | (with_reducible exact span_radius.mono _ _ _)
    | (with_reducible exact LeO.refl _)
    | (with_reducible exact LeO.none _)
    | (with_reducible refine LeO.ite ?_ ?_)
    | (with_reducible refine LeO.bind ?_ (fun _ => ?_))
    | exact ih0 _ _ _ _ _
    | exact ih1 _ _ _ _ _ _ _
    | exact ih2 _ _ _ _ _ _ _
    | exact span_radius.mono _ _ _
    | exact LeO.none _
    | refine LeO.ite ?_ ?_
    | refine LeO.bind ?_ (fun _ => ?_)
theorem span_Shrink.mono : ∀ a0 a1 k, LeO (span_Shrink.f k a0 a1) (span_Shrink.f (k + 1) a0 a1) := by
 intro a0 a1 k
 obtain ⟨ih0, ih1, ih2⟩ := span_Shrink.mono_l k
 unfold span_Shrink.f
 repeat' first
  | (with_reducible exact ih0 _ _ _ _ _)
  | (with_reducible exact ih1 _ _ _ _ _ _ _)
  | (with_reducible exact ih2 _ _ _ _ _ _ _)
  | (with_reducible exact span_radius.mono _ _ _)
  | (with_reducible exact LeO.refl _)
  | (with_reducible exact LeO.none _)
  | (with_reducible refine LeO.ite ?_ ?_)
  | (with_reducible refine LeO.bind ?_ (fun _ => ?_))
  | exact ih0 _ _ _ _ _
  | exact ih1 _ _ _ _ _ _ _
  | exact ih2 _ _ _ _ _ _ _
  | exact span_radius.mono _ _ _
  | exact LeO.none _
  | refine LeO.ite ?_ ?_
  | refine LeO.bind ?_ (fun _ => ?_)
set_option maxHeartbeats 8000000 in
set_option maxRecDepth 100000 in
theorem span_Shrink.calls (k : Nat) (A0 : Option Addr) (c0 : Nat) (l0 : List (S32)) (a1 : Int) (r1 : List (S32)) (r2 : Int) (w : World) (hr0 : Kd.C k32 w A0 l0.length l0) (hc0 : l0.length ≤ c0) (h : span_Shrink.f k l0 a1 = some (r1, r2)) :
 Calls Try.prog 40 #[.slice A0 l0.length c0, .int .i64 a1] w fun e w' => ∃ v0_ : Value, e = .returned (.tuple #[v0_, .int .i64 r2]) ∧ Kd.R k32 32 w' w.heap.size (fun _ => True) v0_ r1 ∧ Below w.heap.size w w' := by
 have hu32 := Try.underlying32
 have HR0 := Aside0.mk hr0
 have HC0 := Aside0.mk hc0
 clear hr0 hc0
 have HB := Aside0.mk (Below.refl w.heap.size w)
 have H : ((span_radius.f k l0 a1).bind fun t158 => (if t158 = true then (span_Shrink.l0 k a1 ([] : List (S32)) l0 (l0.length : Int) 0) else (some (([] : List (S32)), 2)))) = some (r1, r2) := h
 clear h
 replace H := Option.bind_eq_some_iff.mp H
 obtain ⟨t158, A30, H⟩ := H
 replace H : (if t158 = true then (span_Shrink.l0 k a1 ([] : List (S32)) l0 (l0.length : Int) 0) else (some (([] : List (S32)), 2))) = some (r1, r2) := H
 have A3 := Aside0.mk A30
 clear A30
 by_cases c4 : t158 = true
 · subst c4
   have H1 : (span_Shrink.l0 k a1 ([] : List (S32)) l0 (l0.length : Int) 0) = some (r1, r2) := by rw [if_pos rfl] at H; exact H
   clear H
   have H := H1
   clear H1
   have H' := Aside0.mk H
   clear H
   go_enter Try.func40, Try.ntmps40
   go_wp2_with (first | ((with_reducible refine gate_callee (f := 76) rfl ?_); refine goesL_ (some 11) rfl rfl Try.func76 (by kernel_rfl) rfl #[.slice A0 l0.length c0, .int .i64 a1] rfl (by (try simp only [List.map_toArray, List.map_cons, List.map_nil]); first | done | rfl | (simp only [List.length_drop, List.length_take]; rfl)) ?_; (with_reducible refine (span_radius.calls k _ _ l0 a1 true _ ?side1 ?side2 A3.out).mono ?_); (case side1 => repeat (first | exact HR0.out | (with_reducible refine Kd.C_alloc ?_ _) | (with_reducible refine Kd.C_drewN ?_ _) | (with_reducible refine Kd.C_drew ?_))); (case side2 => exact HC0.out); rintro e w5 ⟨rfl, hb⟩; refine ⟨_, rfl, ?_⟩; have n0_ := Aside0.mk (below_step (by repeat (first | (with_reducible first | exact HB.out | apply below_alloc | apply pw_below_drewN | apply below_drew1) | exact HB.out)) hb); clear HB; have HB := n0_; clear n0_; (try clear hb); (try clear hb2); (try clear hk); (try clear hi)))
   go_loopg [6, 15] k (fun kq v6 v15 w' => ∃ (x6_1 : List (S32)) (x15_1 : Int), v15 = .int .i64 x15_1 ∧ Aside0 (span_Shrink.l0 kq a1 x6_1 l0 (l0.length : Int) x15_1 = some (r1, r2)) ∧ Aside0 (kq ≤ k) ∧ Aside0 (Kd.R k32 32 w' w.heap.size (fun _ => True) v6 x6_1) ∧ Aside0 (Below w.heap.size w w'))
   case atStart => exact ⟨(([] : List (S32))), (0), (by first | rfl | (simp; done) | (simp [*]; done)), H', ⟨Nat.le_refl _⟩, ⟨by first | exact Kd.R_nil _ _ _ _ _ | exact Kd.N_nil _ _ _ _ _ | exact Kd.V_nil _ _ _ _ _ | exact Kd.Q_nil _ _ _ _ _ | exact Kd.S_nil _ _ _ _ _⟩, ⟨by repeat (first | (with_reducible first | exact HB.out | apply below_alloc | apply pw_below_drewN | apply below_drew1) | exact HB.out)⟩⟩
   case round =>
    clear H'
    try clear p2
    try clear c4
    obtain ⟨x6_1, x15_1, rfl, HA, HK1, HO_6, HB⟩ := hrel
    cases gk with
    | zero => exact absurd HA.out (by simp [span_Shrink.l0])
    | succ k1 =>
     have H := HA.out
     clear HA
     simp only [span_Shrink.l0] at H
     by_cases c6 : x15_1 < (l0.length : Int)
     · rw [if_pos c6] at H
       have c6b0 : decide (x15_1 < (l0.length : Int)) = true := decide_eq_true c6
       clear c6
       by_cases c7 : 0 ≤ x15_1
       · rw [if_pos c7] at H
         have c7b0 : decide (0 ≤ x15_1) = true := decide_eq_true c7
         clear c7
         by_cases c8 : x15_1 < (l0.length : Int)
         · rw [if_pos c8] at H
           have c8b0 : decide (x15_1 < (l0.length : Int)) = true := decide_eq_true c8
           clear c8
           have HC9 := Aside0.mk H
           clear H
           have p159 : 0 ≤ (x15_1 : Int) := of_decide_eq_true (by first | (with_reducible assumption) | assumption)
           have q159 : x15_1 < (l0.length : Int) := of_decide_eq_true (by first | (with_reducible assumption) | assumption)
           obtain ⟨ad159, e159, hx159_0, hx159_1⟩ := at_T32 HR0.out x15_1 p159 q159
           cases e159
           replace hx159_0 := (HB.out.cell (World.block_lt_of_cell? w _ hx159_0)).trans hx159_0
           replace hx159_1 := (HB.out.cell (World.block_lt_of_cell? w _ hx159_1)).trans hx159_1
           replace p159 := eq_true p159
           replace q159 := eq_true q159
           go_upto_if 21 with (first | ((with_reducible refine gate_dst (N := 8) rfl ?_); refine box_event ?hg (N := 8) ?hd (cs := #[.int .i64 0, .int .i64 0]) (t := 32) ?hr ?_; (case hd => rfl); (case hg => rfl); (case hr => first | (go_simp; done) | (go_simp; rfl)); intro gb160 hg w10 hbox hb; have n0_ := Aside0.mk (Kd.R_below (Kd.R_elderB (by (with_reducible repeat (first | apply Kd.R_alloc | apply Kd.R_drewN | apply Kd.R_drew)); exact HO_6.out) gb160 (Nat.le_of_eq hg.symm)) hb); have n1_ := Aside0.mk (below_step (by repeat (first | (with_reducible first | exact HB.out | apply below_alloc | apply pw_below_drewN | apply below_drew1) | exact HB.out)) hb); have n2_ := Aside0.mk (hbox); have n3_ := Aside0.mk ((by rw [hg]; exact (below_size (by repeat (first | (with_reducible first | exact HB.out | apply below_alloc | apply pw_below_drewN | apply below_drew1) | exact HB.out))) : w.heap.size ≤ gb160)); have n4_ := Aside0.mk ((by rw [hg]; exact (below_size (by repeat (first | (with_reducible first | exact HB.out | apply below_alloc | apply pw_below_drewN | apply below_drew1) | exact HB.out))) : w.heap.size ≤ gb160)); clear HO_6; clear HB; have HO_6 := n0_; have HB := n1_; have BK160 := n2_; have GW160 := n3_; have GE160 := n4_; clear n0_ n1_ n2_ n3_ n4_; clear hb hbox hg; have hcz11_0 : w10.cell? ⟨gb160, 0, none⟩ = some (.int .i64 0) := (blk_cell BK160.out 0).trans rfl; have hcz11_1 : w10.cell? ⟨gb160, 1, none⟩ = some (.int .i64 0) := (blk_cell BK160.out 1).trans rfl; have hfz11_0 := blk_frozen BK160.out 0; have hfz11_1 := blk_frozen BK160.out 1))
           (try simp only [Act.put, List.setIfInBounds_toArray, List.set_cons_zero, List.set_cons_succ])
           go_cut [] (fun wc => ∃ (kq : Nat) (x161000_8 : Int), Aside0 (span_Shrink.j1 kq a1 x6_1 l0 (l0.length : Int) x15_1 x161000_8 ((rd_T32 l0 x15_1).f1) = some (r1, r2)) ∧ Aside0 (kq ≤ k1) ∧ Aside0 (Kd.R k32 32 wc w.heap.size (fun k_ => k_ ≠ gb160) u6 x6_1) ∧ Aside0 (wc.heap[gb160]? = some (.cells #[.int .i64 x161000_8, .int .i64 ((rd_T32 l0 x15_1).f1)] 32 (0, 0))) ∧ Aside0 (Below w.heap.size w wc))
           case first =>
            have H := HC9.out
            clear HC9
            by_cases c12 : ((rd_T32 l0 x15_1).f0) > (-1099511627776)
            · rw [if_pos c12] at H
              have c12b0 : decide ((-1099511627776) < ((rd_T32 l0 x15_1).f0)) = true := decide_eq_true c12
              clear c12
              (first | rw [c12b0] | (simp only [i64_w, i32_w]; rw [c12b0]) | skip)
              have H' := Aside0.mk H
              clear H
              have hcz13_0 : w10.cell? ⟨gb160, 0, none⟩ = some (.int .i64 0) := (blk_cell BK160.out 0).trans rfl
              have hcz13_1 : w10.cell? ⟨gb160, 1, none⟩ = some (.int .i64 0) := (blk_cell BK160.out 1).trans rfl
              have hfz13_0 := blk_frozen BK160.out 0
              have hfz13_1 := blk_frozen BK160.out 1
              go_wp2
              go_meet
              case rel => exact ⟨_, (wrap64 (((rd_T32 l0 x15_1).f0) + a1)), H', ⟨by have := HK1.out; first | omega | exact Nat.le_refl _⟩, ⟨by (with_reducible repeat (first | apply Kd.R_alloc | apply Kd.R_drewN | apply Kd.R_drew)); exact Kd.R_mono (Kd.R_far (p := ⟨gb160, 0, none⟩) (Kd.R_far (p := ⟨gb160, 1, none⟩) (Kd.R_far (p := ⟨gb160, 0, none⟩) (Kd.R_mono HO_6.out (fun k_ hk => (⟨hk, hk.2⟩ : _ ∧ k_ ≠ gb160))) (fun _ hk => hk.2) (.int .i64 ((rd_T32 l0 x15_1).f0))) (fun _ hk => hk.2) (.int .i64 ((rd_T32 l0 x15_1).f1))) (fun _ hk => hk.2) (.int .i64 (wrap64 (((rd_T32 l0 x15_1).f0) + a1)))) (fun _ hk => hk.1.2)⟩, ⟨by (with_reducible repeat (first | refine blk_drewN ?_ _ | refine blk_drew ?_ | refine blk_alloc ?_ _)); refine blk_put (cs := #[.int .i64 ((rd_T32 l0 x15_1).f0), .int .i64 ((rd_T32 l0 x15_1).f1)]) ?_ 0 _ rfl; (with_reducible repeat (first | refine blk_drewN ?_ _ | refine blk_drew ?_ | refine blk_alloc ?_ _)); refine blk_put (cs := #[.int .i64 ((rd_T32 l0 x15_1).f0), .int .i64 0]) ?_ 1 _ rfl; (with_reducible repeat (first | refine blk_drewN ?_ _ | refine blk_drew ?_ | refine blk_alloc ?_ _)); refine blk_put (cs := #[.int .i64 0, .int .i64 0]) ?_ 0 _ rfl; (with_reducible repeat (first | refine blk_drewN ?_ _ | refine blk_drew ?_ | refine blk_alloc ?_ _)); exact BK160.out⟩, ⟨by repeat (first | (with_reducible first | exact HB.out | apply below_alloc | apply pw_below_drewN | apply below_drew1 | refine below_set ?_ GE160.out) | exact HB.out)⟩⟩
            · rw [if_neg c12] at H
              have c12b0 : decide ((-1099511627776) < ((rd_T32 l0 x15_1).f0)) = false := decide_eq_false c12
              clear c12
              (first | rw [c12b0] | (simp only [i64_w, i32_w]; rw [c12b0]) | skip)
              have H' := Aside0.mk H
              clear H
              go_wp2
              go_meet
              case rel => exact ⟨_, ((rd_T32 l0 x15_1).f0), H', ⟨by have := HK1.out; first | omega | exact Nat.le_refl _⟩, ⟨by (with_reducible repeat (first | apply Kd.R_alloc | apply Kd.R_drewN | apply Kd.R_drew)); exact Kd.R_mono (Kd.R_far (p := ⟨gb160, 1, none⟩) (Kd.R_far (p := ⟨gb160, 0, none⟩) (Kd.R_mono HO_6.out (fun k_ hk => (⟨hk, hk.2⟩ : _ ∧ k_ ≠ gb160))) (fun _ hk => hk.2) (.int .i64 ((rd_T32 l0 x15_1).f0))) (fun _ hk => hk.2) (.int .i64 ((rd_T32 l0 x15_1).f1))) (fun _ hk => hk.1.2)⟩, ⟨by (with_reducible repeat (first | refine blk_drewN ?_ _ | refine blk_drew ?_ | refine blk_alloc ?_ _)); refine blk_put (cs := #[.int .i64 ((rd_T32 l0 x15_1).f0), .int .i64 0]) ?_ 1 _ rfl; (with_reducible repeat (first | refine blk_drewN ?_ _ | refine blk_drew ?_ | refine blk_alloc ?_ _)); refine blk_put (cs := #[.int .i64 0, .int .i64 0]) ?_ 0 _ rfl; (with_reducible repeat (first | refine blk_drewN ?_ _ | refine blk_drew ?_ | refine blk_alloc ?_ _)); exact BK160.out⟩, ⟨by repeat (first | (with_reducible first | exact HB.out | apply below_alloc | apply pw_below_drewN | apply below_drew1 | refine below_set ?_ GE160.out) | exact HB.out)⟩⟩
           case rest =>
            clear HC9
            try clear c1
            try clear p1
            try clear q1
            try clear hx1
            try clear p2
            try clear c4
            try clear c6
            try clear c6b0
            try clear p6
            try clear c7
            try clear c7b0
            try clear c8
            try clear c8b0
            try clear c12
            try clear c12b0
            try clear hcz11_0
            try clear hcz11_1
            try clear hcz13_0
            try clear hcz13_1
            try clear hfz11_0
            try clear hfz11_1
            try clear hfz13_0
            try clear hfz13_1
            try clear hx159_0
            try clear hx159_1
            try clear p159
            try clear p2
            try clear q159
            obtain ⟨kq, x161000_8, HA, HJ8, HO_6, BK160, HB⟩ := hcut
            cases kq with
            | zero => exact absurd HA.out (by simp [span_Shrink.j1])
            | succ kj8 =>
             have H := HA.out
             clear HA
             simp only [span_Shrink.j1] at H
             have HC14 := Aside0.mk H
             clear H
             have hcz15_0 : wc.cell? ⟨gb160, 0, none⟩ = some (.int .i64 x161000_8) := (blk_cell BK160.out 0).trans rfl
             have hcz15_1 : wc.cell? ⟨gb160, 1, none⟩ = some (.int .i64 ((rd_T32 l0 x15_1).f1)) := (blk_cell BK160.out 1).trans rfl
             have hfz15_0 := blk_frozen BK160.out 0
             have hfz15_1 := blk_frozen BK160.out 1
             go_upto_if 29 with (fail)
             go_cut [] (fun wc => ∃ (kq : Nat) (x161001_13 : Int), Aside0 (span_Shrink.j2 kq a1 x6_1 l0 (l0.length : Int) x15_1 x161000_8 x161001_13 = some (r1, r2)) ∧ Aside0 (kq ≤ kj8) ∧ Aside0 (Kd.R k32 32 wc w.heap.size (fun k_ => k_ ≠ gb160) u6 x6_1) ∧ Aside0 (wc.heap[gb160]? = some (.cells #[.int .i64 x161000_8, .int .i64 x161001_13] 32 (0, 0))) ∧ Aside0 (Below w.heap.size w wc))
             case first =>
              have H := HC14.out
              clear HC14
              by_cases c16 : ((rd_T32 l0 x15_1).f1) < 1099511627776
              · rw [if_pos c16] at H
                have c16b0 : decide (((rd_T32 l0 x15_1).f1) < 1099511627776) = true := decide_eq_true c16
                clear c16
                (first | rw [c16b0] | (simp only [i64_w, i32_w]; rw [c16b0]) | skip)
                have H' := Aside0.mk H
                clear H
                have hcz17_0 : wc.cell? ⟨gb160, 0, none⟩ = some (.int .i64 x161000_8) := (blk_cell BK160.out 0).trans rfl
                have hcz17_1 : wc.cell? ⟨gb160, 1, none⟩ = some (.int .i64 ((rd_T32 l0 x15_1).f1)) := (blk_cell BK160.out 1).trans rfl
                have hfz17_0 := blk_frozen BK160.out 0
                have hfz17_1 := blk_frozen BK160.out 1
                go_wp2
                go_meet
                case rel => exact ⟨_, (wrap64 (((rd_T32 l0 x15_1).f1) - a1)), H', ⟨by have := HK1.out; have := HJ8.out; first | omega | exact Nat.le_refl _⟩, ⟨by (with_reducible repeat (first | apply Kd.R_alloc | apply Kd.R_drewN | apply Kd.R_drew)); exact Kd.R_mono (Kd.R_far (p := ⟨gb160, 1, none⟩) (Kd.R_mono HO_6.out (fun k_ hk => (⟨hk, hk⟩ : _ ∧ k_ ≠ gb160))) (fun _ hk => hk.2) (.int .i64 (wrap64 (((rd_T32 l0 x15_1).f1) - a1)))) (fun _ hk => hk.1)⟩, ⟨by (with_reducible repeat (first | refine blk_drewN ?_ _ | refine blk_drew ?_ | refine blk_alloc ?_ _)); refine blk_put (cs := #[.int .i64 x161000_8, .int .i64 ((rd_T32 l0 x15_1).f1)]) ?_ 1 _ rfl; (with_reducible repeat (first | refine blk_drewN ?_ _ | refine blk_drew ?_ | refine blk_alloc ?_ _)); exact BK160.out⟩, ⟨by repeat (first | (with_reducible first | exact HB.out | apply below_alloc | apply pw_below_drewN | apply below_drew1 | refine below_set ?_ GE160.out) | exact HB.out)⟩⟩
              · rw [if_neg c16] at H
                have c16b0 : decide (((rd_T32 l0 x15_1).f1) < 1099511627776) = false := decide_eq_false c16
                clear c16
                (first | rw [c16b0] | (simp only [i64_w, i32_w]; rw [c16b0]) | skip)
                have H' := Aside0.mk H
                clear H
                go_wp2
                go_meet
                case rel => exact ⟨_, (((rd_T32 l0 x15_1).f1)), H', ⟨by have := HK1.out; have := HJ8.out; first | omega | exact Nat.le_refl _⟩, ⟨by (with_reducible repeat (first | apply Kd.R_alloc | apply Kd.R_drewN | apply Kd.R_drew)); exact HO_6.out⟩, ⟨by (with_reducible repeat (first | refine blk_drewN ?_ _ | refine blk_drew ?_ | refine blk_alloc ?_ _)); exact BK160.out⟩, ⟨by repeat (first | (with_reducible first | exact HB.out | apply below_alloc | apply pw_below_drewN | apply below_drew1 | refine below_set ?_ GE160.out) | exact HB.out)⟩⟩
             case rest =>
              clear HC14
              try clear c1
              try clear p1
              try clear q1
              try clear hx1
              try clear p2
              try clear c4
              try clear c6
              try clear c6b0
              try clear p6
              try clear c7
              try clear c7b0
              try clear c8
              try clear c8b0
              try clear c12
              try clear c12b0
              try clear p15
              try clear q15
              try clear hx15
              try clear c16
              try clear c16b0
              try clear hcz11_0
              try clear hcz11_1
              try clear hcz13_0
              try clear hcz13_1
              try clear hcz15_0
              try clear hcz15_1
              try clear hcz17_0
              try clear hcz17_1
              try clear hfz11_0
              try clear hfz11_1
              try clear hfz13_0
              try clear hfz13_1
              try clear hfz15_0
              try clear hfz15_1
              try clear hfz17_0
              try clear hfz17_1
              try clear hx159_0
              try clear hx159_1
              try clear p1
              try clear p159
              try clear p2
              try clear p6
              try clear q1
              try clear q159
              obtain ⟨kq, x161001_13, HA, HJ13, HO_6, BK160, HB⟩ := hcut
              cases kq with
              | zero => exact absurd HA.out (by simp [span_Shrink.j2])
              | succ kj13 =>
               have H := HA.out
               clear HA
               simp only [span_Shrink.j2] at H
               by_cases c18 : x161000_8 < x161001_13
               · rw [if_pos c18] at H
                 have c18b0 : decide (x161000_8 < x161001_13) = true := decide_eq_true c18
                 clear c18
                 by_cases c19 : x6_1.length < 8796093022208
                 · rw [if_pos c19] at H
                   have LMc19 := Aside0.mk c19
                   clear c19
                   obtain ⟨y161, hy161⟩ : ∃ y_ : List (S32), y_ = (x6_1 ++ [(⟨x161000_8, x161001_13⟩ : S32)]) := ⟨_, rfl⟩
                   replace H : (span_Shrink.l0 kj13 a1 y161 l0 (l0.length : Int) (wrap64 (x15_1 + 1))) = some (r1, r2) := by first | (rw [hy161]; with_reducible exact H) | (have H2_ := (Option.bind_some _ _).symm.trans H; rw [hy161]; with_reducible exact H2_) | (have H2_ := (Option.bind_some _ _).symm.trans H; with_reducible exact H2_) | with_reducible exact H | (rw [hy161]; exact H) | exact H
                   have Ny161 := Aside0.mk hy161
                   clear hy161
                   have H' := Aside0.mk H
                   clear H
                   have hcz20_0 : wc.cell? ⟨gb160, 0, none⟩ = some (.int .i64 x161000_8) := (blk_cell BK160.out 0).trans rfl
                   have hcz20_1 : wc.cell? ⟨gb160, 1, none⟩ = some (.int .i64 x161001_13) := (blk_cell BK160.out 1).trans rfl
                   have hfz20_0 := blk_frozen BK160.out 0
                   have hfz20_1 := blk_frozen BK160.out 1
                   go_wp2_with (first | ((with_reducible refine gate_builtin (b := .append) (xs := #[.tmp 40, .tmp 42]) rfl ?_); at_builtin; refine Kd.R_append k32 (w0 := w) w.heap.size rfl (.tmp 40) (.tmp 42) 22 32 (.agg #[(.int .i64 0), (.int .i64 0)]) 16 rfl Try.underlying22 info32 rfl (by decide) (by omega) u6 x6_1 (⟨x161000_8, x161001_13⟩ : S32) [.int .i64 x161000_8, .int .i64 x161001_13] (fun k_ => k_ ≠ gb160) (fun _ => False) rfl rfl ?aP (fun _ hk => hk.elim) ?aF ?aO ?aB ?aS ?aL ?_; (case aP => exact k32_mkM _ _ _ (⟨x161000_8, x161001_13⟩ : S32)); (case aB => exact (by repeat (first | (with_reducible first | exact HB.out | apply below_alloc | apply pw_below_drewN | apply below_drew1 | refine below_set ?_ GE160.out) | exact HB.out))); (case aF => exact (fun k_ hk => Kd.freshB (g := gb160) (o := .cells #[.int .i64 x161000_8, .int .i64 x161001_13] 32 (0, 0)) (by (with_reducible repeat (first | refine blk_drewN ?_ _ | refine blk_drew ?_ | refine blk_alloc ?_ _)); exact BK160.out) k_ hk)); (case aO => exact (by (with_reducible repeat (first | apply Kd.R_alloc | apply Kd.R_drewN | apply Kd.R_drew)); exact HO_6.out)); (case aS => exact (below_size (by repeat (first | (with_reducible first | exact HB.out | apply below_alloc | apply pw_below_drewN | apply below_drew1 | refine below_set ?_ GE160.out) | exact HB.out)))); (case aL => have := LMc19.out; omega); intro v162 w21 ho hb hg hat; rw [← Ny161.out] at ho; have n0_ := Aside0.mk (blk_grown (g := gb160) (o := .cells #[.int .i64 x161000_8, .int .i64 x161001_13] 32 (0, 0)) (by (with_reducible repeat (first | refine blk_drewN ?_ _ | refine blk_drew ?_ | refine blk_alloc ?_ _)); exact BK160.out) hg (Kd.R_away HO_6.out (fun _ hk => hk))); have n1_ := Aside0.mk (hb); have n2_ := Aside0.mk (ho); clear BK160; clear HB; clear HO_6; have BK160 := n0_; have HB := n1_; have HO163 := n2_; clear n0_ n1_ n2_; clear ho hb hg hat))
                   go_roundg kj13
                   case measure => have := HK1.out; have := HJ8.out; have := HJ13.out; omega
                   case rel => exact ⟨(y161), (wrap64 (x15_1 + 1)), (by first | rfl | (simp; done) | (simp [*]; done)), H', ⟨by have := HK1.out; have := HJ8.out; have := HJ13.out; omega⟩, ⟨by (with_reducible repeat (first | apply Kd.R_alloc | apply Kd.R_drewN | apply Kd.R_drew)); exact Kd.R_mono HO163.out (fun _ hk => trivial)⟩, ⟨by repeat (first | (with_reducible first | exact HB.out | apply below_alloc | apply pw_below_drewN | apply below_drew1 | refine below_set ?_ GE160.out) | exact HB.out)⟩⟩
                 · rw [if_neg c19] at H
                   exact absurd H (by simp)
               · rw [if_neg c18] at H
                 have c18b0 : decide (x161000_8 < x161001_13) = false := decide_eq_false c18
                 clear c18
                 have H' := Aside0.mk H
                 clear H
                 have hcz22_0 : wc.cell? ⟨gb160, 0, none⟩ = some (.int .i64 x161000_8) := (blk_cell BK160.out 0).trans rfl
                 have hcz22_1 : wc.cell? ⟨gb160, 1, none⟩ = some (.int .i64 x161001_13) := (blk_cell BK160.out 1).trans rfl
                 have hfz22_0 := blk_frozen BK160.out 0
                 have hfz22_1 := blk_frozen BK160.out 1
                 go_wp2
                 go_roundg kj13
                 case measure => have := HK1.out; have := HJ8.out; have := HJ13.out; omega
                 case rel => exact ⟨(x6_1), (wrap64 (x15_1 + 1)), (by first | rfl | (simp; done) | (simp [*]; done)), H', ⟨by have := HK1.out; have := HJ8.out; have := HJ13.out; omega⟩, ⟨by (with_reducible repeat (first | apply Kd.R_alloc | apply Kd.R_drewN | apply Kd.R_drew)); exact Kd.R_mono HO_6.out (fun _ hk => trivial)⟩, ⟨by repeat (first | (with_reducible first | exact HB.out | apply below_alloc | apply pw_below_drewN | apply below_drew1 | refine below_set ?_ GE160.out) | exact HB.out)⟩⟩
         · rw [if_neg c8] at H
           exact absurd H (by simp)
       · rw [if_neg c7] at H
         exact absurd H (by simp)
     · rw [if_neg c6] at H
       have c6b0 : decide (x15_1 < (l0.length : Int)) = false := decide_eq_false c6
       clear c6
       simp only [Option.some.injEq, Prod.mk.injEq] at H
       obtain ⟨rfl, rfl⟩ := H
       go_wp2
       go_ret2
       exact ⟨_, by first | rfl | (simp [errW_none, errW_some] <;> rfl) | (simp [*, errW_none, errW_some] <;> rfl), by (with_reducible repeat (first | apply Kd.R_alloc | apply Kd.R_drewN | apply Kd.R_drew)); exact HO_6.out, by repeat (first | (with_reducible first | exact HB.out | apply below_alloc | apply pw_below_drewN | apply below_drew1) | exact HB.out)⟩
 · replace c4 := Bool.eq_false_iff.mpr c4
   subst c4
   have H1 : (some (([] : List (S32)), 2)) = some (r1, r2) := by rw [if_neg (show ¬ (false = true) by decide)] at H; exact H
   clear H
   have H := H1
   clear H1
   simp only [Option.some.injEq, Prod.mk.injEq] at H
   obtain ⟨rfl, rfl⟩ := H
   go_enter Try.func40, Try.ntmps40
   go_wp2_with (first | ((with_reducible refine gate_callee (f := 76) rfl ?_); refine goesL_ (some 11) rfl rfl Try.func76 (by kernel_rfl) rfl #[.slice A0 l0.length c0, .int .i64 a1] rfl (by (try simp only [List.map_toArray, List.map_cons, List.map_nil]); first | done | rfl | (simp only [List.length_drop, List.length_take]; rfl)) ?_; (with_reducible refine (span_radius.calls k _ _ l0 a1 false _ ?side1 ?side2 A3.out).mono ?_); (case side1 => repeat (first | exact HR0.out | (with_reducible refine Kd.C_alloc ?_ _) | (with_reducible refine Kd.C_drewN ?_ _) | (with_reducible refine Kd.C_drew ?_))); (case side2 => exact HC0.out); rintro e w23 ⟨rfl, hb⟩; refine ⟨_, rfl, ?_⟩; have n0_ := Aside0.mk (below_step (by repeat (first | (with_reducible first | exact HB.out | apply below_alloc | apply pw_below_drewN | apply below_drew1) | exact HB.out)) hb); clear HB; have HB := n0_; clear n0_; (try clear hb); (try clear hb2); (try clear hk); (try clear hi)))
   go_ret2
   exact ⟨_, by first | rfl | (simp [errW_none, errW_some] <;> rfl) | (simp [*, errW_none, errW_some] <;> rfl), by first | exact Kd.R_nil _ _ _ _ _ | exact Kd.N_nil _ _ _ _ _ | exact Kd.V_nil _ _ _ _ _ | exact Kd.Q_nil _ _ _ _ _ | exact Kd.S_nil _ _ _ _ _, by repeat (first | (with_reducible first | exact HB.out | apply below_alloc | apply pw_below_drewN | apply below_drew1) | exact HB.out)⟩
end Go.Proofs.Ytningpmoojnomaa.Pr
end
section
namespace Go.Proofs.Ytningpmoojnomaa.Pr
open Go.RowKit Go.Proofs.YtningpmoojnomaaW.PrintWords Go.Proofs.YtningpmoojnomaaW.PrintLast Go.Proofs.YtningpmoojnomaaW.PrintMore
attribute [local go_sem] max2_int min2_int max_two min_two max_three min_three max_four min_four   -- for this text's walks alone
set_option linter.unusedVariables false
set_option linter.unusedSimpArgs false
def span_Rank.l0 : Nat → Int → Int → List (S32) → Int → Int → Option (Int × Int)
 | 0, _, _, _, _, _ => none
 | k + 1, x1, x6, x12, x13, x14 => if x14 < x13 then (if 0 ≤ x14 then (if x14 < (x12.length : Int) then (if x1 > ((rd_T32 x12 x14).f0) then (span_Rank.l0 k x1 (wrap64 (x6 + (wrap64 ((mn x1 ((rd_T32 x12 x14).f1)) - ((rd_T32 x12 x14).f0))))) x12 x13 (wrap64 (x14 + 1))) else (span_Rank.l0 k x1 x6 x12 x13 (wrap64 (x14 + 1)))) else (none)) else (none)) else (some (x6, 0))
def span_Rank.f (k : Nat) (l0 : List (S32)) (a1 : Int) : Option (Int × Int) := (span_Valid.f k l0).bind fun t118 => (if t118 = true then (span_Rank.l0 k a1 0 l0 (l0.length : Int) 0) else (some (0, 2)))
theorem span_Rank.mono_l : ∀ k, (∀ y0 y1 y2 y3 y4, LeO (span_Rank.l0 k y0 y1 y2 y3 y4) (span_Rank.l0 (k + 1) y0 y1 y2 y3 y4))
 | 0 => fun _ _ _ _ _ r h => by simp [span_Rank.l0] at h
 | k + 1 => by
  have ih0 := span_Rank.mono_l k
  · intro y0 y1 y2 y3 y4
    unfold span_Rank.l0
    repeat' first
    | (with_reducible exact ih0 _ _ _ _ _)
    | (with_reducible exact span_Valid.mono _ _)
    | (with_reducible exact LeO.refl _)
    | (with_reducible exact LeO.none _)
    | (with_reducible refine LeO.ite ?_ ?_)
    | (with_reducible refine LeO.bind ?_ (fun _ => ?_))
    | exact ih0 _ _ _ _ _
    | exact span_Valid.mono _ _
    | exact LeO.none _
    | refine LeO.ite ?_ ?_
    | refine LeO.bind ?_ (fun _ => ?_)
theorem span_Rank.mono : ∀ a0 a1 k, LeO (span_Rank.f k a0 a1) (span_Rank.f (k + 1) a0 a1) := by
 intro a0 a1 k
 have ih0 := span_Rank.mono_l k
 unfold span_Rank.f
 repeat' first
  | (with_reducible exact ih0 _ _ _ _ _)
  | (with_reducible exact span_Valid.mono _ _)
  | (with_reducible exact LeO.refl _)
  | (with_reducible exact LeO.none _)
  | (with_reducible refine LeO.ite ?_ ?_)
  | (with_reducible refine LeO.bind ?_ (fun _ => ?_))
  | exact ih0 _ _ _ _ _
  | exact span_Valid.mono _ _
  | exact LeO.none _
  | refine LeO.ite ?_ ?_
  | refine LeO.bind ?_ (fun _ => ?_)
set_option maxHeartbeats 8000000 in
set_option maxRecDepth 100000 in
theorem span_Rank.calls (k : Nat) (A0 : Option Addr) (c0 : Nat) (l0 : List (S32)) (a1 : Int) (r1 : Int) (r2 : Int) (w : World) (hr0 : Kd.C k32 w A0 l0.length l0) (hc0 : l0.length ≤ c0) (h : span_Rank.f k l0 a1 = some (r1, r2)) :
 Calls Try.prog 36 #[.slice A0 l0.length c0, .int .i64 a1] w fun e w' => e = .returned (.tuple #[.int .i64 r1, .int .i64 r2]) ∧ Below w.heap.size w w' := by
 have hu32 := Try.underlying32
 have HR0 := Aside0.mk hr0
 have HC0 := Aside0.mk hc0
 clear hr0 hc0
 have HB := Aside0.mk (Below.refl w.heap.size w)
 have H : ((span_Valid.f k l0).bind fun t118 => (if t118 = true then (span_Rank.l0 k a1 0 l0 (l0.length : Int) 0) else (some (0, 2)))) = some (r1, r2) := h
 clear h
 replace H := Option.bind_eq_some_iff.mp H
 obtain ⟨t118, A30, H⟩ := H
 replace H : (if t118 = true then (span_Rank.l0 k a1 0 l0 (l0.length : Int) 0) else (some (0, 2))) = some (r1, r2) := H
 have A3 := Aside0.mk A30
 clear A30
 by_cases c4 : t118 = true
 · subst c4
   have H1 : (span_Rank.l0 k a1 0 l0 (l0.length : Int) 0) = some (r1, r2) := by rw [if_pos rfl] at H; exact H
   clear H
   have H := H1
   clear H1
   have H' := Aside0.mk H
   clear H
   go_enter Try.func36, Try.ntmps36
   go_wp2_with (first | ((with_reducible refine gate_callee (f := 23) rfl ?_); refine goesL_ (some 10) rfl rfl Try.func23 (by kernel_rfl) rfl #[.slice A0 l0.length c0] rfl (by (try simp only [List.map_toArray, List.map_cons, List.map_nil]); first | done | rfl | (simp only [List.length_drop, List.length_take]; rfl)) ?_; (with_reducible refine (span_Valid.calls k _ _ l0 true _ ?side1 ?side2 A3.out).mono ?_); (case side1 => repeat (first | exact HR0.out | (with_reducible refine Kd.C_alloc ?_ _) | (with_reducible refine Kd.C_drewN ?_ _) | (with_reducible refine Kd.C_drew ?_))); (case side2 => exact HC0.out); rintro e w5 ⟨rfl, hb⟩; refine ⟨_, rfl, ?_⟩; have n0_ := Aside0.mk (below_step (by repeat (first | (with_reducible first | exact HB.out | apply below_alloc | apply pw_below_drewN | apply below_drew1) | exact HB.out)) hb); clear HB; have HB := n0_; clear n0_; (try clear hb); (try clear hb2); (try clear hk); (try clear hi)))
   go_loopg [6, 14] k (fun kq v6 v14 w' => ∃ (x6_1 : Int) (x14_1 : Int), v6 = .int .i64 x6_1 ∧ v14 = .int .i64 x14_1 ∧ Aside0 (span_Rank.l0 kq a1 x6_1 l0 (l0.length : Int) x14_1 = some (r1, r2)) ∧ Aside0 (kq ≤ k) ∧ Aside0 (Below w.heap.size w w'))
   case atStart => exact ⟨(0), (0), (by first | rfl | (simp; done) | (simp [*]; done)), (by first | rfl | (simp; done) | (simp [*]; done)), H', ⟨Nat.le_refl _⟩, ⟨by repeat (first | (with_reducible first | exact HB.out | apply below_alloc | apply pw_below_drewN | apply below_drew1) | exact HB.out)⟩⟩
   case round =>
    clear H'
    try clear c2
    try clear p2
    try clear c3
    try clear c4
    obtain ⟨x6_1, x14_1, rfl, rfl, HA, HK1, HB⟩ := hrel
    cases gk with
    | zero => exact absurd HA.out (by simp [span_Rank.l0])
    | succ k1 =>
     have H := HA.out
     clear HA
     simp only [span_Rank.l0] at H
     by_cases c6 : x14_1 < (l0.length : Int)
     · rw [if_pos c6] at H
       have c6b0 : decide (x14_1 < (l0.length : Int)) = true := decide_eq_true c6
       clear c6
       by_cases c7 : 0 ≤ x14_1
       · rw [if_pos c7] at H
         have c7b0 : decide (0 ≤ x14_1) = true := decide_eq_true c7
         clear c7
         by_cases c8 : x14_1 < (l0.length : Int)
         · rw [if_pos c8] at H
           have c8b0 : decide (x14_1 < (l0.length : Int)) = true := decide_eq_true c8
           clear c8
           by_cases c9 : a1 > ((rd_T32 l0 x14_1).f0)
           · rw [if_pos c9] at H
             have c9b0 : decide (((rd_T32 l0 x14_1).f0) < a1) = true := decide_eq_true c9
             clear c9
             obtain ⟨ji10, hji10⟩ : ∃ j_ : Int, (mn a1 ((rd_T32 l0 x14_1).f1)) = j_ := ⟨_, rfl⟩
             replace H : (span_Rank.l0 k1 a1 (wrap64 (x6_1 + (wrap64 ((ji10) - ((rd_T32 l0 x14_1).f0))))) l0 (l0.length : Int) (wrap64 (x14_1 + 1))) = some (r1, r2) := by first | (rw [hji10] at H; exact H) | (simp only [hji10] at H ⊢; exact H)
             have hji10_ : (if ((rd_T32 l0 x14_1).f1) < a1 then ((rd_T32 l0 x14_1).f1) else a1) = ji10 := hji10
             have H' := Aside0.mk H
             clear H
             have p119 : 0 ≤ (x14_1 : Int) := of_decide_eq_true (by first | (with_reducible assumption) | assumption)
             have q119 : x14_1 < (l0.length : Int) := of_decide_eq_true (by first | (with_reducible assumption) | assumption)
             obtain ⟨ad119, e119, hx119_0, hx119_1⟩ := at_T32 HR0.out x14_1 p119 q119
             cases e119
             replace hx119_0 := (HB.out.cell (World.block_lt_of_cell? w _ hx119_0)).trans hx119_0
             replace hx119_1 := (HB.out.cell (World.block_lt_of_cell? w _ hx119_1)).trans hx119_1
             replace p119 := eq_true p119
             replace q119 := eq_true q119
             go_wp2_with (first | ((with_reducible refine gate_dst (N := 8) rfl ?_); refine box_event ?hg (N := 8) ?hd (cs := #[.int .i64 0, .int .i64 0]) (t := 32) ?hr ?_; (case hd => rfl); (case hg => rfl); (case hr => first | (go_simp; done) | (go_simp; rfl)); intro gb120 hg w11 hbox hb; have n0_ := Aside0.mk (below_step (by repeat (first | (with_reducible first | exact HB.out | apply below_alloc | apply pw_below_drewN | apply below_drew1) | exact HB.out)) hb); have n1_ := Aside0.mk (hbox); have n2_ := Aside0.mk ((by rw [hg]; exact (below_size (by repeat (first | (with_reducible first | exact HB.out | apply below_alloc | apply pw_below_drewN | apply below_drew1) | exact HB.out))) : w.heap.size ≤ gb120)); have n3_ := Aside0.mk ((by rw [hg]; exact (below_size (by repeat (first | (with_reducible first | exact HB.out | apply below_alloc | apply pw_below_drewN | apply below_drew1) | exact HB.out))) : w.heap.size ≤ gb120)); clear HB; have HB := n0_; have BK120 := n1_; have GW120 := n2_; have GE120 := n3_; clear n0_ n1_ n2_ n3_; clear hb hbox hg; have hcz12_0 : w11.cell? ⟨gb120, 0, none⟩ = some (.int .i64 0) := (blk_cell BK120.out 0).trans rfl; have hcz12_1 : w11.cell? ⟨gb120, 1, none⟩ = some (.int .i64 0) := (blk_cell BK120.out 1).trans rfl; have hfz12_0 := blk_frozen BK120.out 0; have hfz12_1 := blk_frozen BK120.out 1))
             go_roundg k1
             case measure => have := HK1.out; omega
             case rel => exact ⟨(wrap64 (x6_1 + (wrap64 ((ji10) - ((rd_T32 l0 x14_1).f0))))), (wrap64 (x14_1 + 1)), (by first | rfl | (simp; done) | (simp only [← hji10] <;> (first | rfl | simp)) | (simp [*]; done)), (by first | rfl | (simp; done) | (simp [*]; done)), H', ⟨by have := HK1.out; omega⟩, ⟨by repeat (first | (with_reducible first | exact HB.out | apply below_alloc | apply pw_below_drewN | apply below_drew1 | refine below_set ?_ GE120.out) | exact HB.out)⟩⟩
           · rw [if_neg c9] at H
             have c9b0 : decide (((rd_T32 l0 x14_1).f0) < a1) = false := decide_eq_false c9
             clear c9
             have H' := Aside0.mk H
             clear H
             have p119 : 0 ≤ (x14_1 : Int) := of_decide_eq_true (by first | (with_reducible assumption) | assumption)
             have q119 : x14_1 < (l0.length : Int) := of_decide_eq_true (by first | (with_reducible assumption) | assumption)
             obtain ⟨ad119, e119, hx119_0, hx119_1⟩ := at_T32 HR0.out x14_1 p119 q119
             cases e119
             replace hx119_0 := (HB.out.cell (World.block_lt_of_cell? w _ hx119_0)).trans hx119_0
             replace hx119_1 := (HB.out.cell (World.block_lt_of_cell? w _ hx119_1)).trans hx119_1
             replace p119 := eq_true p119
             replace q119 := eq_true q119
             go_wp2_with (first | ((with_reducible refine gate_dst (N := 8) rfl ?_); refine box_event ?hg (N := 8) ?hd (cs := #[.int .i64 0, .int .i64 0]) (t := 32) ?hr ?_; (case hd => rfl); (case hg => rfl); (case hr => first | (go_simp; done) | (go_simp; rfl)); intro gb120 hg w13 hbox hb; have n0_ := Aside0.mk (below_step (by repeat (first | (with_reducible first | exact HB.out | apply below_alloc | apply pw_below_drewN | apply below_drew1) | exact HB.out)) hb); have n1_ := Aside0.mk (hbox); have n2_ := Aside0.mk ((by rw [hg]; exact (below_size (by repeat (first | (with_reducible first | exact HB.out | apply below_alloc | apply pw_below_drewN | apply below_drew1) | exact HB.out))) : w.heap.size ≤ gb120)); have n3_ := Aside0.mk ((by rw [hg]; exact (below_size (by repeat (first | (with_reducible first | exact HB.out | apply below_alloc | apply pw_below_drewN | apply below_drew1) | exact HB.out))) : w.heap.size ≤ gb120)); clear HB; have HB := n0_; have BK120 := n1_; have GW120 := n2_; have GE120 := n3_; clear n0_ n1_ n2_ n3_; clear hb hbox hg; have hcz14_0 : w13.cell? ⟨gb120, 0, none⟩ = some (.int .i64 0) := (blk_cell BK120.out 0).trans rfl; have hcz14_1 : w13.cell? ⟨gb120, 1, none⟩ = some (.int .i64 0) := (blk_cell BK120.out 1).trans rfl; have hfz14_0 := blk_frozen BK120.out 0; have hfz14_1 := blk_frozen BK120.out 1))
             go_roundg k1
             case measure => have := HK1.out; omega
             case rel => exact ⟨(x6_1), (wrap64 (x14_1 + 1)), (by first | rfl | (simp; done) | (simp [*]; done)), (by first | rfl | (simp; done) | (simp [*]; done)), H', ⟨by have := HK1.out; omega⟩, ⟨by repeat (first | (with_reducible first | exact HB.out | apply below_alloc | apply pw_below_drewN | apply below_drew1 | refine below_set ?_ GE120.out) | exact HB.out)⟩⟩
         · rw [if_neg c8] at H
           exact absurd H (by simp)
       · rw [if_neg c7] at H
         exact absurd H (by simp)
     · rw [if_neg c6] at H
       have c6b0 : decide (x14_1 < (l0.length : Int)) = false := decide_eq_false c6
       clear c6
       simp only [Option.some.injEq, Prod.mk.injEq] at H
       obtain ⟨rfl, rfl⟩ := H
       go_wp2
       go_ret2
       exact ⟨by first | rfl | (simp [errW_none, errW_some] <;> rfl) | (simp [*, errW_none, errW_some] <;> rfl), by repeat (first | (with_reducible first | exact HB.out | apply below_alloc | apply pw_below_drewN | apply below_drew1) | exact HB.out)⟩
 · replace c4 := Bool.eq_false_iff.mpr c4
   subst c4
   have H1 : (some (0, 2)) = some (r1, r2) := by rw [if_neg (show ¬ (false = true) by decide)] at H; exact H
   clear H
   have H := H1
   clear H1
   simp only [Option.some.injEq, Prod.mk.injEq] at H
   obtain ⟨rfl, rfl⟩ := H
   go_enter Try.func36, Try.ntmps36
   go_wp2_with (first | ((with_reducible refine gate_callee (f := 23) rfl ?_); refine goesL_ (some 10) rfl rfl Try.func23 (by kernel_rfl) rfl #[.slice A0 l0.length c0] rfl (by (try simp only [List.map_toArray, List.map_cons, List.map_nil]); first | done | rfl | (simp only [List.length_drop, List.length_take]; rfl)) ?_; (with_reducible refine (span_Valid.calls k _ _ l0 false _ ?side1 ?side2 A3.out).mono ?_); (case side1 => repeat (first | exact HR0.out | (with_reducible refine Kd.C_alloc ?_ _) | (with_reducible refine Kd.C_drewN ?_ _) | (with_reducible refine Kd.C_drew ?_))); (case side2 => exact HC0.out); rintro e w15 ⟨rfl, hb⟩; refine ⟨_, rfl, ?_⟩; have n0_ := Aside0.mk (below_step (by repeat (first | (with_reducible first | exact HB.out | apply below_alloc | apply pw_below_drewN | apply below_drew1) | exact HB.out)) hb); clear HB; have HB := n0_; clear n0_; (try clear hb); (try clear hb2); (try clear hk); (try clear hi)))
   go_ret2
   exact ⟨by first | rfl | (simp [errW_none, errW_some] <;> rfl) | (simp [*, errW_none, errW_some] <;> rfl), by repeat (first | (with_reducible first | exact HB.out | apply below_alloc | apply pw_below_drewN | apply below_drew1) | exact HB.out)⟩
def span_Size.f (k : Nat) (l0 : List (S32)) : Option (Int × Int) := (span_Rank.f k l0 1099511627776).bind fun bt121 => (some (bt121.1, bt121.2))
theorem span_Size.mono : ∀ a0 k, LeO (span_Size.f k a0) (span_Size.f (k + 1) a0) := by
 intro a0 k
 unfold span_Size.f
 repeat' first
  | (with_reducible exact span_Rank.mono _ _ _)
  | (with_reducible exact LeO.refl _)
  | (with_reducible exact LeO.none _)
  | (with_reducible refine LeO.ite ?_ ?_)
  | (with_reducible refine LeO.bind ?_ (fun _ => ?_))
  | exact span_Rank.mono _ _ _
  | exact LeO.none _
  | refine LeO.ite ?_ ?_
  | refine LeO.bind ?_ (fun _ => ?_)
set_option maxHeartbeats 8000000 in
set_option maxRecDepth 100000 in
theorem span_Size.calls (k : Nat) (A0 : Option Addr) (c0 : Nat) (l0 : List (S32)) (r1 : Int) (r2 : Int) (w : World) (hr0 : Kd.C k32 w A0 l0.length l0) (hc0 : l0.length ≤ c0) (h : span_Size.f k l0 = some (r1, r2)) :
 Calls Try.prog 32 #[.slice A0 l0.length c0] w fun e w' => e = .returned (.tuple #[.int .i64 r1, .int .i64 r2]) ∧ Below w.heap.size w w' := by
 have HR0 := Aside0.mk hr0
 have HC0 := Aside0.mk hc0
 clear hr0 hc0
 have HB := Aside0.mk (Below.refl w.heap.size w)
 have H : ((span_Rank.f k l0 1099511627776).bind fun bt121 => (some (bt121.1, bt121.2))) = some (r1, r2) := h
 clear h
 replace H := Option.bind_eq_some_iff.mp H
 obtain ⟨⟨t121, t122⟩, A20, H⟩ := H
 replace H : (some (t121, t122)) = some (r1, r2) := H
 have A2 := Aside0.mk A20
 clear A20
 simp only [Option.some.injEq, Prod.mk.injEq] at H
 obtain ⟨rfl, rfl⟩ := H
 go_enter Try.func32, Try.ntmps32
 go_wp2_with (first | ((with_reducible refine gate_callee (f := 36) rfl ?_); refine goesL_ (some 5) rfl rfl Try.func36 (by kernel_rfl) rfl #[.slice A0 l0.length c0, .int .i64 1099511627776] rfl (by (try simp only [List.map_toArray, List.map_cons, List.map_nil]); first | done | rfl | (simp only [List.length_drop, List.length_take]; rfl)) ?_; (with_reducible refine (span_Rank.calls k _ _ l0 1099511627776 t121 t122 _ ?side1 ?side2 A2.out).mono ?_); (case side1 => repeat (first | exact HR0.out | (with_reducible refine Kd.C_alloc ?_ _) | (with_reducible refine Kd.C_drewN ?_ _) | (with_reducible refine Kd.C_drew ?_))); (case side2 => exact HC0.out); rintro e w3 ⟨rfl, hb⟩; refine ⟨_, rfl, ?_⟩; have n0_ := Aside0.mk (below_step (by repeat (first | (with_reducible first | exact HB.out | apply below_alloc | apply pw_below_drewN | apply below_drew1) | exact HB.out)) hb); clear HB; have HB := n0_; clear n0_; (try clear hb); (try clear hb2); (try clear hk); (try clear hi)))
 go_ret2
 exact ⟨by first | rfl | (simp [errW_none, errW_some] <;> rfl) | (simp [*, errW_none, errW_some] <;> rfl), by repeat (first | (with_reducible first | exact HB.out | apply below_alloc | apply pw_below_drewN | apply below_drew1) | exact HB.out)⟩
end Go.Proofs.Ytningpmoojnomaa.Pr
end
section
namespace Go.Proofs.Ytningpmoojnomaa.Pr
open Go.RowKit Go.Shelf Go.Proofs.YtningpmoojnomaaW.PrintWords Go.Proofs.YtningpmoojnomaaW.PrintLast Go.Proofs.YtningpmoojnomaaW.PrintMore
set_option linter.unusedVariables false
set_option linter.unusedSimpArgs false
/-- What is asked of a predicate on spans: it tells p x, and keeps what lay there. -/
def PredS (g : Nat) (lb : Array Value) (p : S32 → Bool) (w : World) : Prop :=
  ∀ (W : World) (x : S32), Below w.heap.size w W → Calls Try.prog g (#[.agg #[.int .i64 x.f0, .int .i64 x.f1]] ++ lb) W fun e w' => e = .returned (.bool (p x)) ∧ Below w.heap.size w w'
def idxS {α : Type} (p : α → Bool) (l : List α) : Int := match l.findIdx? p with
  | some i => (i : Int)
  | none => -1
theorem idxS_hit {α : Type} (p : α → Bool) (l : List α) (z : α) (k : Nat) (hk : k < l.length) (hp : p (l.getD k z) = true) (hb : ∀ j, j < k → p (l.getD j z) = false) : idxS p l = k := by
  unfold idxS
  rw [List.findIdx?_eq_some_iff_getElem.2 ⟨hk, by simpa [List.getD_eq_getElem?_getD, List.getElem?_eq_getElem hk] using hp, fun j hj => by
    have := hb j hj
    rw [List.getD_eq_getElem?_getD, List.getElem?_eq_getElem (by omega)] at this
    simpa using this⟩]
theorem idxS_miss {α : Type} (p : α → Bool) (l : List α) (z : α) (hb : ∀ j, j < l.length → p (l.getD j z) = false) : idxS p l = -1 := by
  unfold idxS
  rw [List.findIdx?_eq_none_iff.2 (fun x hx => by
    obtain ⟨j, hj, rfl⟩ := List.mem_iff_getElem.1 hx
    have := hb j hj
    rw [List.getD_eq_getElem?_getD, List.getElem?_eq_getElem hj] at this
    simpa using this)]
theorem idxS_any {α : Type} (p : α → Bool) (l : List α) : decide (0 ≤ idxS p l) = l.any p := by
  unfold idxS
  rcases h : l.findIdx? p with _ | i
  · have := List.findIdx?_eq_none_iff.1 h
    simp
    simpa using this
  · obtain ⟨hi, hp, _⟩ := List.findIdx?_eq_some_iff_getElem.1 h
    simp
    exact ⟨_, List.getElem_mem hi, hp⟩
set_option maxHeartbeats 1000000 in
set_option maxRecDepth 100000 in
theorem indexFunc_Span (g : Nat) (lb : Array Value) (p : S32 → Bool) (eg : ∀ args w, (callFunc g args).run Try.prog w = .ok (.enter g args) w) (A0 : Option Addr) (c0 : Nat) (l0 : List S32) (w : World) (hr0 : Kd.C k32 w A0 l0.length l0) (hp : PredS g lb p w) :
    Calls Try.prog 96 #[.slice A0 l0.length c0, .func (.func g) #[] lb] w fun e w' => e = .returned (.int .i64 (idxS p l0)) ∧ Below w.heap.size w w' := by
  have hm : l0.length ≤ 9223372036854775807 := hr0.2.1
  have HR0 := Aside0.mk hr0
  have HP := Aside0.mk hp
  have HM := Aside0.mk hm
  clear hr0 hp hm
  have hu32 := Try.underlying32
  go_enter Try.func96, Try.ntmps96
  go_wp2
  go_loopg [5, 8] l0.length (fun gg _ s8 wr => ∃ kk : Nat, kk ≤ l0.length ∧ l0.length - kk ≤ gg ∧ s8 = .int .i64 kk ∧ Aside0 (Below w.heap.size w wr) ∧ Aside0 (∀ j, j < kk → p (l0.getD j z32) = false))
  case atStart => exact ⟨0, Nat.zero_le _, by omega, rfl, ⟨Below.refl _ w⟩, ⟨fun j hj => absurd hj (Nat.not_lt_zero _)⟩⟩
  case round =>
    obtain ⟨kk, hkk, hg, rfl, HB, HA⟩ := hrel
    have hm2 := HM.out
    by_cases hlt : kk < l0.length
    · have hltz : (kk : Int) < (l0.length : Int) := by omega
      obtain ⟨ad, e, hx0, hx1⟩ := at_T32 (Kd.C_below HR0.out HB.out) (kk : Int) (by omega) hltz
      subst e
      have hcall := HP.out wr (l0.getD kk z32) HB.out
      have er : rd_T32 l0 (kk : Int) = l0.getD kk z32 := by unfold rd_T32; rw [Int.toNat_natCast]
      rw [er] at hx0 hx1
      rw [Int.toNat_natCast] at hx0 hx1
      clear er
      generalize hy : l0.getD kk z32 = y at hx0 hx1 hcall
      have HY := Aside0.mk hy
      clear hy
      cases hq : p y with
      | true =>
        rw [hq] at hcall
        have HQ := Aside0.mk hq
        clear hq
        go_wp2_with fail
        refine hcall.mono ?_
        rintro e w' ⟨rfl, hb'⟩
        go_wp2
        go_ret
        exact ⟨by rw [idxS_hit p l0 z32 kk hlt (by rw [HY.out]; exact HQ.out) HA.out]; rfl, hb'⟩
      | false =>
        rw [hq] at hcall
        have HQ := Aside0.mk hq
        clear hq
        go_wp2_with fail
        refine hcall.mono ?_
        rintro e w' ⟨rfl, hb'⟩
        go_wp2
        go_roundg (l0.length - (kk + 1))
        case measure => omega
        case rel =>
          refine ⟨kk + 1, by omega, by omega, by go_num, ⟨hb'⟩, ⟨fun j hj => ?_⟩⟩
          by_cases e : j = kk
          · subst e
            rw [HY.out]; exact HQ.out
          · exact HA.out j (by omega)
    · have hltz : ¬ (kk : Int) < (l0.length : Int) := by omega
      go_wp2
      go_ret
      exact ⟨by rw [idxS_miss p l0 z32 (fun j hj => HA.out j (by omega))]; rfl, HB.out⟩
set_option maxHeartbeats 1000000 in
theorem containsFunc_Span (g : Nat) (lb : Array Value) (p : S32 → Bool) (eg : ∀ args w, (callFunc g args).run Try.prog w = .ok (.enter g args) w) (A0 : Option Addr) (c0 : Nat) (l0 : List S32) (w : World) (hr0 : Kd.C k32 w A0 l0.length l0) (hp : PredS g lb p w) :
    Calls Try.prog 73 #[.slice A0 l0.length c0, .func (.func g) #[] lb] w fun e w' => e = .returned (.bool (l0.any p)) ∧ Below w.heap.size w w' := by
  rw [← idxS_any]
  have HC := Aside0.mk (fun W => indexFunc_Span g lb p eg A0 c0 l0 W)
  go_enter Try.func73, Try.ntmps73
  go_wp2_with (go_at_call 96; refine (HC.out _ hr0 hp).mono ?_; rintro e w' ⟨rfl, hb'⟩)
  go_ret
  exact ⟨rfl, hb'⟩
def goodS (x : S32) : Bool := decide (-1099511627776 ≤ x.f0) && (decide (x.f0 < x.f1) && decide (x.f1 ≤ 1099511627776))
theorem goodS_f (x : S32) : span_valid.f x.f0 x.f1 = some (goodS x) := by
  unfold span_valid.f goodS
  split
  · split
    · simp [*]
    · simp [*]
  · simp [*]
set_option maxHeartbeats 1000000 in
theorem listed_pred (w : World) : PredS 92 #[] (fun x => !goodS x) w := by
  intro W x hb
  have hu32 := Try.underlying32
  have HB := Aside0.mk hb
  clear hb
  go_enter Try.func92, Try.ntmps92
  have HC := Aside0.mk (fun W => span_valid.calls x.f0 x.f1 (goodS x) W (goodS_f x))
  go_wp2_with (go_at_call 70; refine (HC.out _).mono ?_; rintro e w' ⟨rfl, hb'⟩)
  go_ret
  exact ⟨rfl, below_then (HB.out.alloc HB.out.size _) (by have := HB.out.size; simp; omega) hb'⟩
def span_listed.f (l0 : List S32) : Option Int := if l0.length > 128 then some 3 else if l0.any (fun x => !goodS x) then some 2 else some 0
set_option maxHeartbeats 4000000 in
theorem span_listed.calls (A0 : Option Addr) (c0 : Nat) (l0 : List S32) (r : Int) (w : World) (hr0 : Kd.C k32 w A0 l0.length l0) (hc0 : l0.length ≤ c0) (h : span_listed.f l0 = some r) :
    Calls Try.prog 64 #[.slice A0 l0.length c0] w fun e w' => e = .returned (.int .i64 r) ∧ Below w.heap.size w w' := by
  have hm : l0.length ≤ 9223372036854775807 := hr0.2.1
  have HC := Aside0.mk (fun W hr hp => containsFunc_Span 92 #[] (fun x => !goodS x) (enters_of Try.func92 (by kernel_rfl) rfl) A0 c0 l0 W hr hp)
  have HP := Aside0.mk (listed_pred)
  unfold span_listed.f at h
  split at h
  · rename_i hlt
    injection h with h
    subst h
    have hd : decide ((128 : Int) < (l0.length : Int)) = true := by simp; omega
    have hd2 : (128 : Int) < (l0.length : Int) := by omega
    go_enter Try.func64, Try.ntmps64
    go_wp2
    go_ret
    exact ⟨rfl, Below.refl _ _⟩
  · rename_i hlt
    have hd2 : ¬ (128 : Int) < (l0.length : Int) := by omega
    split at h
    · rename_i hany
      injection h with h
      subst h
      have HA := Aside0.mk hany
      clear hany
      go_enter Try.func64, Try.ntmps64
      go_wp2_with (go_at_call 73; refine (HC.out _ hr0 (HP.out _)).mono ?_; rw [HA.out]; rintro e w' ⟨rfl, hb'⟩)
      go_ret
      exact ⟨rfl, hb'⟩
    · rename_i hany
      injection h with h
      subst h
      have HA := Aside0.mk (Bool.eq_false_iff.2 hany)
      clear hany
      go_enter Try.func64, Try.ntmps64
      go_wp2_with (go_at_call 73; refine (HC.out _ hr0 (HP.out _)).mono ?_; rw [HA.out]; rintro e w' ⟨rfl, hb'⟩)
      go_ret
      exact ⟨rfl, hb'⟩
end Go.Proofs.Ytningpmoojnomaa.Pr
end
section
namespace Go.Proofs.Ytningpmoojnomaa.Pr
open Go.RowKit Go.Shelf Go.Proofs.YtningpmoojnomaaW.PrintWords Go.Proofs.YtningpmoojnomaaW.PrintLast Go.Proofs.YtningpmoojnomaaW.PrintMore
set_option linter.unusedVariables false
set_option linter.unusedSimpArgs false
def hasS (x : Int) (s : S32) : Bool := decide (s.f0 ≤ x) && decide (x < s.f1)
set_option maxHeartbeats 4000000 in
theorem has_pred (B : Nat) (x : Int) (w : World) (hB : B < w.heap.size) (hc : w.cell? ⟨B, 0, none⟩ = some (.int .i64 x)) : PredS 74 #[.pointer (some ⟨B, 0, none⟩)] (hasS x) w := by
  intro W s hb
  have hc' : W.cell? ⟨B, 0, none⟩ = some (.int .i64 x) := (hb.cell (p := ⟨B, 0, none⟩) hB).trans hc
  have hB' : B < W.heap.size := Nat.lt_of_lt_of_le hB hb.size
  have HB := Aside0.mk hb
  clear hb hc hB
  have hu32 := Try.underlying32
  unfold hasS
  by_cases h1 : s.f0 ≤ x
  · have hd1 : decide (s.f0 ≤ x) = true := by simpa using h1
    go_enter Try.func74, Try.ntmps74
    go_wp2
    go_ret
    exact ⟨by first | rfl | (rw [hd1]; rfl), HB.out.alloc HB.out.size _⟩
  · have hd1 : decide (s.f0 ≤ x) = false := by simpa using h1
    go_enter Try.func74, Try.ntmps74
    go_wp2
    go_ret
    exact ⟨by first | rfl | (rw [hd1]; rfl), HB.out.alloc HB.out.size _⟩
def span_Has.f (k : Nat) (l0 : List S32) (a1 : Int) : Option (Bool × Int) :=
  (span_Valid.f k l0).bind fun t => if t = true then some (l0.any (hasS a1), 0) else some (false, 2)
theorem span_Has.mono : ∀ a0 a1 k, LeO (span_Has.f k a0 a1) (span_Has.f (k + 1) a0 a1) := by
  intro a0 a1 k
  unfold span_Has.f
  exact LeO.bind (span_Valid.mono _ _) (fun t => LeO.refl _)
set_option maxHeartbeats 4000000 in
theorem span_Has.calls (k : Nat) (A0 : Option Addr) (c0 : Nat) (l0 : List S32) (a1 : Int) (r1 : Bool) (r2 : Int) (w : World) (hr0 : Kd.C k32 w A0 l0.length l0) (hc0 : l0.length ≤ c0) (h : span_Has.f k l0 a1 = some (r1, r2)) :
    Calls Try.prog 30 #[.slice A0 l0.length c0, .int .i64 a1] w fun e w' => e = .returned (.tuple #[.bool r1, .int .i64 r2]) ∧ Below w.heap.size w w' := by
  have hB : Below w.heap.size w (w.alloc (.cells #[.int .i64 a1] 3)) := (Below.refl _ _).alloc (Nat.le_refl _) _
  have HR0 := Aside0.mk (Kd.C_below hr0 hB)
  have HC0 := Aside0.mk hc0
  have HB := Aside0.mk hB
  clear hr0 hc0 hB
  unfold span_Has.f at h
  obtain ⟨t, ht, h⟩ := Option.bind_eq_some_iff.mp h
  have HT := Aside0.mk ht
  clear ht
  cases t with
  | false =>
    rw [if_neg (by simp)] at h
    injection h with h
    injection h with h1 h2
    subst h1 h2
    go_enter Try.func30, Try.ntmps30
    go_wp2_with (go_at_call 23; refine (span_Valid.calls k _ _ l0 false _ HR0.out HC0.out HT.out).mono ?_; rintro e w' ⟨rfl, hb'⟩)
    go_ret2
    exact ⟨rfl, below_then HB.out HB.out.size hb'⟩
  | true =>
    rw [if_pos rfl] at h
    injection h with h
    injection h with h1 h2
    subst h2
    have H1 := Aside0.mk h1
    clear h1
    have HP := Aside0.mk (fun W hb => containsFunc_Span 74 #[.pointer (some ⟨w.heap.size, 0, none⟩)] (hasS a1) (enters_of Try.func74 (by kernel_rfl) rfl) A0 c0 l0 W (Kd.C_below HR0.out hb) (has_pred w.heap.size a1 W (Nat.lt_of_lt_of_le (by simp) hb.size) ((hb.cell (p := ⟨w.heap.size, 0, none⟩) (by simp)).trans (by simp))))
    rw [H1.out] at HP
    go_enter Try.func30, Try.ntmps30
    go_wp2_with (go_at_call 23; refine (span_Valid.calls k _ _ l0 true _ HR0.out HC0.out HT.out).mono ?_; rintro e w' ⟨rfl, hb'⟩)
    go_wp2_with fail
    refine (HP.out _ hb').mono ?_
    rintro e w2 ⟨rfl, hb2⟩
    go_wp2
    go_ret2
    exact ⟨rfl, below_then (below_then HB.out HB.out.size hb') (Nat.le_trans HB.out.size hb'.size) hb2⟩
end Go.Proofs.Ytningpmoojnomaa.Pr
end
section
namespace Go.Proofs.Ytningpmoojnomaa.Pr
open Go.RowKit Go.Proofs.YtningpmoojnomaaW.PrintWords Go.Proofs.YtningpmoojnomaaW.PrintLast Go.Proofs.YtningpmoojnomaaW.PrintMore
set_option linter.unusedVariables false
set_option linter.unusedSimpArgs false
theorem rd_nat (l : List S32) (i : Nat) : rd_T32 l (i : Int) = l.getD i z32 := by unfold rd_T32; rw [Int.toNat_natCast]
theorem wrap_succ {i n : Nat} (h : i < n) (hn : n ≤ 9223372036854775807) : wrap64 ((i : Int) + 1) = ((i + 1 : Nat) : Int) := by
  unfold wrap64
  omega
theorem wrap_pred {i n : Nat} (h0 : 0 < i) (h : i < n) (hn : n ≤ 9223372036854775807) : wrap64 ((i : Int) - 1) = ((i - 1 : Nat) : Int) := by
  unfold wrap64
  omega
theorem mn_eq (a b : Int) : mn a b = min a b := by unfold mn; omega
theorem mx_eq (a b : Int) : mx a b = max a b := by unfold mx; omega
theorem drop_cons (l : List S32) (i : Nat) (h : i < l.length) : l.drop i = l.getD i z32 :: l.drop (i + 1) := by
  rw [List.drop_eq_getElem_cons h]
  simp [List.getD_eq_getElem?_getD, List.getElem?_eq_getElem h]
def okAt (l : List S32) (i : Nat) : Bool := goodS (l.getD i z32) && (i == 0 || decide ((l.getD (i - 1) z32).f1 < (l.getD i z32).f0))
def validFrom (l : List S32) (i : Nat) : Bool := (List.range' i (l.length - i)).all (okAt l)
theorem validFrom_end (l : List S32) (i : Nat) (h : l.length ≤ i) : validFrom l i = true := by
  unfold validFrom
  rw [Nat.sub_eq_zero_of_le h]
  rfl
theorem validFrom_step (l : List S32) (i : Nat) (h : i < l.length) : validFrom l i = (okAt l i && validFrom l (i + 1)) := by
  unfold validFrom
  rw [show l.length - i = (l.length - (i + 1)) + 1 by omega, List.range'_succ, List.all_cons]
def validS (l : List S32) : Bool := decide (l.length ≤ 128) && validFrom l 0
theorem spanValid_step (l : List S32) (i k : Nat) (h : i < l.length) (hn : l.length ≤ 9223372036854775807) :
    span_Valid.l0 (k + 1) l l (l.length : Int) (i : Int) = span_Valid.j1 k l l (l.length : Int) (i : Int) (!okAt l i) := by
  have hlt : (i : Int) < (l.length : Int) := by omega
  simp only [span_Valid.l0]
  rw [if_pos hlt, if_pos (by omega), if_pos hlt, goodS_f, Option.bind_some]
  unfold okAt
  cases hg : goodS (rd_T32 l (i : Int)) with
  | false => rw [rd_nat] at hg; simp only [hg]; simp
  | true =>
    rw [rd_nat] at hg
    simp only [hg, Bool.true_and]
    rw [if_pos trivial]
    by_cases h0 : i = 0
    · subst h0
      simp
    · have e0 : (i == 0) = false := by simpa using h0
      rw [if_pos (by omega : (i : Int) > 0), wrap_pred (by omega) h hn, if_pos (by omega), if_pos (by omega), rd_nat, rd_nat, e0, Bool.false_or]
      congr 1
      rw [Bool.eq_iff_iff]
      simp
theorem spanValid_loop (l : List S32) (hn : l.length ≤ 9223372036854775807) : ∀ (d i : Nat), l.length - i = d → Ev (fun k => span_Valid.l0 k l l (l.length : Int) (i : Int)) (validFrom l i)
  | 0, i, h => by
    rw [validFrom_end l i (by omega)]
    exact Ev.step (f := fun _ => some true) (fun k => by simp only [span_Valid.l0]; rw [if_neg (by omega)]) (Ev.now _)
  | d + 1, i, h => by
    rw [validFrom_step l i (by omega)]
    refine Ev.step (fun k => spanValid_step l i k (by omega) hn) ?_
    cases okAt l i with
    | true => exact Ev.step (f := fun k => span_Valid.l0 k l l (l.length : Int) ((i + 1 : Nat) : Int)) (fun k => by simp only [span_Valid.j1]; rw [wrap_succ (show i < l.length by omega) hn]; simp) (by simpa using spanValid_loop l hn d (i + 1) (by omega))
    | false => exact Ev.step (f := fun _ => some false) (fun k => by simp only [span_Valid.j1]; simp) (Ev.now _)
theorem spanValid_ev (l : List S32) (hn : l.length ≤ 9223372036854775807) : Ev (fun k => span_Valid.f k l) (validS l) := by
  unfold span_Valid.f validS
  by_cases h : (l.length : Int) > 128
  · rw [show decide (l.length ≤ 128) = false by simp; omega]
    simpa [h] using Ev.now false
  · rw [show decide (l.length ≤ 128) = true by simp; omega]
    simpa [h] using spanValid_loop l hn _ 0 rfl
def hasR (l : List S32) (x : Int) : Bool × Int := if validS l = true then (l.any (hasS x), 0) else (false, 2)
theorem spanHas_ev (l : List S32) (x : Int) (hn : l.length ≤ 9223372036854775807) : Ev (fun k => span_Has.f k l x) (hasR l x) := by
  unfold span_Has.f hasR
  refine Ev.bind (spanValid_ev l hn) ?_
  cases validS l <;> exact Ev.now _
/-- Ascending from lo on, with gaps, below the bound. -/
def Asc (lo : Int) : List S32 → Prop
  | [] => True
  | s :: t => lo ≤ s.f0 ∧ s.f0 < s.f1 ∧ s.f1 ≤ 1099511627776 ∧ Asc (s.f1 + 1) t
theorem goodS_iff (s : S32) : goodS s = true ↔ -1099511627776 ≤ s.f0 ∧ s.f0 < s.f1 ∧ s.f1 ≤ 1099511627776 := by
  unfold goodS
  simp
theorem asc_of_valid (l : List S32) : ∀ (d i : Nat), l.length - i = d → validFrom l i = true → Asc (if i = 0 then -1099511627776 else (l.getD (i - 1) z32).f1 + 1) (l.drop i)
  | 0, i, h, _ => by rw [List.drop_eq_nil_of_le (by omega)]; trivial
  | d + 1, i, h, hv => by
    have hi : i < l.length := by omega
    rw [validFrom_step l i hi, Bool.and_eq_true] at hv
    have ih := asc_of_valid l d (i + 1) (by omega) hv.2
    rw [if_neg (by omega), Nat.add_sub_cancel] at ih
    have h1 := hv.1
    unfold okAt at h1
    rw [Bool.and_eq_true, goodS_iff] at h1
    rw [drop_cons l i hi]
    refine ⟨?_, h1.1.2.1, h1.1.2.2, ih⟩
    by_cases h0 : i = 0
    · rw [if_pos h0]; exact h1.1.1
    · rw [if_neg h0]
      have := h1.2
      have e0 : (i == 0) = false := by simpa using h0
      rw [e0, Bool.false_or] at this
      have := of_decide_eq_true this
      omega
theorem asc_valid {l : List S32} (h : validS l = true) : l.length ≤ 128 ∧ Asc (-1099511627776) l := by
  unfold validS at h
  rw [Bool.and_eq_true] at h
  refine ⟨by simpa using h.1, ?_⟩
  have := asc_of_valid l _ 0 rfl h.2
  simpa using this
end Go.Proofs.Ytningpmoojnomaa.Pr
end
section
namespace Go.Proofs.Ytningpmoojnomaa.Pr
open Go.RowKit Go.Proofs.YtningpmoojnomaaW.PrintWords Go.Proofs.YtningpmoojnomaaW.PrintLast Go.Proofs.YtningpmoojnomaaW.PrintMore
set_option linter.unusedVariables false
set_option linter.unusedSimpArgs false
def clone_Span.f (l0 : List S32) : Option (List S32) := if l0.length ≤ 8796093022208 then some l0 else none
set_option maxHeartbeats 4000000 in
set_option maxRecDepth 100000 in
theorem clone_Span.calls (A0 : Option Addr) (c0 : Nat) (l0 : List S32) (r : List S32) (w : World) (hr0 : Kd.C k32 w A0 l0.length l0) (hc0 : l0.length ≤ c0) (h : clone_Span.f l0 = some r) :
    Calls Try.prog 65 #[.slice A0 l0.length c0] w fun e w' => ∃ v0_ : Value, e = .returned v0_ ∧ Kd.R k32 32 w' w.heap.size (fun _ => True) v0_ r ∧ Below w.heap.size w w' := by
  unfold clone_Span.f at h
  split at h
  · rename_i hlen
    injection h with h
    subst h
    have qT : ∀ (w : World) (a : Option Addr) (n c n' c' : Nat), (binOp .eql 22 (.slice a n c) (.slice none n' c')).run Try.prog w = .ok (.bool a.isNone) w := fun w a n c n' c' => Lib.run_eql_slice_nil w _ _ a n c n' c' Try.underlying22
    rcases A0 with _ | ad
    · have h0 : l0 = [] := by
        rcases l0 with _ | ⟨x, xs⟩
        · rfl
        · obtain ⟨ad, h, _⟩ := hr0.2.2 (by simp)
          cases h
      subst h0
      go_enter Try.func65, Try.ntmps65
      go_wp2
      go_ret
      exact ⟨_, rfl, Kd.R_nil _ _ _ _ _, Below.refl _ _⟩
    · have HR0 := Aside0.mk hr0
      clear hr0
      have HB := Aside0.mk (Below.refl w.heap.size w)
      have hb8 := Aside0.mk hlen
      clear hlen
      go_enter Try.func65, Try.ntmps65
      go_wp2_with (first | ((with_reducible refine gate_dst (N := 5) rfl ?_); refine Kd.R_lit k32 _ 32 ?hg (N := 5) ?hd (xs := ([] : List S32)) (inner := []) (ok := fun _ => True) (okp := fun _ => True) ?hr ?hp (fun _ hk => hk) trivial (Below.refl _ _) (Nat.le_refl _) (by simp) ?_; (case hd => rfl); (case hg => rfl); (case hr => first | (go_simp; done) | (go_simp; rfl)); (case hp => exact Reps.none _ _); intro v1 w1 ho1 hb1 hg1 hn1; clear hg1 hn1; have HO := Aside0.mk (Kd.R_lower ho1 (Nat.le_refl _)); have HB1 := Aside0.mk hb1; clear ho1 hb1; clear HB; obtain ⟨Ao7, co7, eo7⟩ := Kd.R_slice HO.out; subst eo7) | (at_builtin; refine Kd.R_append_rows k32 (Rr := k32.K w) (w0 := w) w.heap.size rfl (.tmp 5) (.tmp 6) 22 32 (.agg #[(.int .i64 0), (.int .i64 0)]) 16 rfl Try.underlying22 info32 rfl (by decide) (by omega) _ ([] : List S32) l0 (some ad) l0.length c0 (fun _ => True) (fun _ => False) rfl rfl HO.out ?aR ?aK (fun _ hk => hk.elim) (fun _ _ => trivial) HB1.out HB1.out.size ?aL ?_; (case aR => exact (Kd.C_below HR0.out HB1.out)); (case aK => (intro x cs hx; exact (k32_open hx) ▸ k32_mkM _ _ _ x)); (case aL => (have := hb8.out; simp; omega)); intro v2 w2 ho2 hb2 hg2 hn2; clear hg2 hn2; rw [List.nil_append] at ho2; have HO2 := Aside0.mk ho2; have HB2 := Aside0.mk hb2; clear ho2 hb2 HO HB1; obtain ⟨Ao8, co8, eo8⟩ := Kd.R_slice HO2.out; subst eo8))
      go_ret
      exact ⟨_, rfl, HO2.out, HB2.out⟩
  · cases h
end Go.Proofs.Ytningpmoojnomaa.Pr
end
section
namespace Go.Proofs.Ytningpmoojnomaa.Pr
open Go.RowKit Go.Sort Go.Shelf Go.Proofs.YtningpmoojnomaaW.PrintWords Go.Proofs.YtningpmoojnomaaW.PrintLast Go.Proofs.YtningpmoojnomaaW.PrintMore
set_option linter.unusedVariables false
set_option linter.unusedSimpArgs false
theorem heap_put {w : World} {g m : Nat} {e : TypeId} {cur : Array Value} {F : Array Value} (os : Array Obj) (hb : w.heap[g]? = some (.cells cur e (0, 0))) :
    (grow (putRow id (Sort.ahead w m) g 0 F) os).heap[g]? = some (.cells (putCells id 0 F cur) e (0, 0)) := by
  have hg : g < w.heap.size := (Array.getElem?_eq_some_iff.1 hb).1
  have h1 : (putRow id (Sort.ahead w m) g 0 F).heap[g]? = some (.cells (putCells id 0 F cur) e (0, 0)) := by
    simp only [putRow, mapBlock, Sort.ahead, Array.getElem?_modify, if_true, hb, Option.map_some, onCells]
  unfold grow
  simp only
  rw [Array.getElem?_append_left (by simpa [putRow, mapBlock, Sort.ahead] using hg)]
  exact h1
theorem grownBy_put {w : World} {g m : Nat} {os : Array Obj} (F : Array Value) : w.grownBy (grow (putRow id (Sort.ahead w m) g 0 F) os) (some g) := by
  refine ⟨rfl, rfl, rfl, by simp [grow, putRow, mapBlock, Sort.ahead], fun k hk hne => ?_⟩
  have : g ≠ k := fun e => hne (by rw [e])
  unfold grow
  simp only
  rw [Array.getElem?_append_left (by simpa [putRow, mapBlock, Sort.ahead] using hk)]
  simp [putRow, mapBlock, Sort.ahead, Array.getElem?_modify, this]
theorem take_put (cur : Array Value) (ts : List Value) (h : ts.length ≤ cur.size) : (putCells id 0 ts.toArray cur).toList.take ts.length = ts := by
  apply List.ext_getElem
  · simp [putCells]
    omega
  · intro i h1 h2
    simp only [putCells, List.getElem_take, Array.getElem_toList, Array.getElem_mapIdx]
    rw [if_pos ⟨by omega, by simpa using h2⟩]
    simp only [id, Nat.sub_zero]
    rw [getElem!_pos _ i (by simpa using h2)]
    simp
theorem own_put {w : World} {base g cap n k m : Nat} {e : TypeId} {os : Array Obj} {cur : Array Value} {ts : List Value} (hbase : base ≤ g) (hb : w.heap[g]? = some (.cells cur e (0, 0)))
    (h1 : n ≤ cap) (h2 : cap ≤ maxLen) (h3 : cur.size = cap * k) (hl : ts.length = n * k) :
    (grow (putRow id (Sort.ahead w m) g 0 ts.toArray) os).ownsRow base e k (.slice (some ⟨g, 0, none⟩) n cap) n ts := by
  refine ⟨hl, .inr ⟨g, cap, _, rfl, hbase, heap_put os hb, h1, h2, by simp [putCells, h3], ?_⟩⟩
  rw [← hl]
  exact take_put cur ts (by rw [hl, h3]; exact Nat.mul_le_mul_right _ h1)
/-- A span's two cells. -/
def encS (x : S32) : List Value := [.int .i64 x.f0, .int .i64 x.f1]
instance : Inhabited S32 := ⟨z32⟩
theorem reps_flat (w : World) (base : Nat) (ok : Nat → Prop) (ts : List S32) : Reps (k32.M w base ok) 2 ts (flatK encS 2 ts.toArray).toList := by
  refine ⟨by simp, fun j p hj => ?_⟩
  obtain ⟨hjl, hp⟩ := List.getElem?_eq_some_iff.1 hj
  have : ((flatK encS 2 ts.toArray).toList.drop (j * 2)).take 2 = encS p := by
    apply List.ext_getElem
    · simp [encS]
      omega
    · intro i h1 h2
      have hi : i < 2 := by simpa [encS] using h2
      have e1 : (j * 2 + i) / 2 = j := by omega
      have e2 : (j * 2 + i) % 2 = i := by omega
      simp only [List.getElem_take, List.getElem_drop, Array.getElem_toList]
      have hlt : j * 2 + i < (flatK encS 2 ts.toArray).size := by simp; omega
      have := get_flatK encS 2 ts.toArray (j * 2 + i) (by simp; omega)
      rw [getElem!_pos (flatK encS 2 ts.toArray) (j * 2 + i) hlt, e1, e2] at this
      rw [this]
      rw [getElem!_pos ts.toArray j (by simpa using hjl)]
      simp only [List.getElem_toArray, hp]
      rw [getElem!_pos (encS p) i (by simpa [encS] using hi)]
  rw [this]
  exact k32_mkM w base ok p
/-- WHAT IS OWNED IS HELD, and laid anew it is owned again. -/
theorem own_bridge {W : World} {base g n cap : Nat} {ok : Nat → Prop} {xs : List S32} (h : Kd.R k32 32 W base ok (.slice (some ⟨g, 0, none⟩) n cap) xs) :
    n = xs.length ∧ HoldsK encS 2 W g 0 xs.toArray ∧ g < W.heap.size ∧ base ≤ g ∧ ∀ (m : Nat) (os : Array Obj) (d : List S32), d.length = xs.length →
      Kd.R k32 32 (sortWorldK encS 2 W g 0 m d.toArray os) base ok (.slice (some ⟨g, 0, none⟩) n cap) d ∧ W.grownBy (sortWorldK encS 2 W g 0 m d.toArray os) (some g) := by
  have hn := (Kd.R_reads' h).1
  subst hn
  refine ⟨rfl, ?_, ?_⟩
  · intro j hj
    have hj' : j < xs.length * 2 := by simpa using hj
    have hq : j / 2 < xs.length := by omega
    obtain ⟨ce, hcl, hM, hcc, hfr⟩ := Kd.R_elem h z32 ((j / 2 : Nat) : Int) (by omega) (by omega)
    obtain rfl := k32_openM hM
    rw [get_flatK _ _ _ _ (by simpa using hj')]
    rw [Int.toNat_natCast] at hcc hfr
    rw [getElem!_pos xs.toArray (j / 2) (by simpa using hq)]
    have e0 : 0 + j = j / 2 * 2 + j % 2 := by omega
    rw [e0]
    have ex : xs.getD (j / 2) z32 = xs[j / 2] := by simp [List.getD_eq_getElem?_getD, List.getElem?_eq_getElem hq]
    refine ⟨hcc (j % 2) _ ?_, hfr (j % 2)⟩
    rw [ex]
    rcases Nat.mod_two_eq_zero_or_one j with e | e <;> rw [e] <;> simp [encS]
  · obtain ⟨h0, inner, hown, hr⟩ := h
    rcases hown.2 with ⟨e, _⟩ | ⟨g', cap', cur, e, hbase, hb, h1, h2, h3, h4⟩
    · cases e
    · injection e with e1 _ e3
      injection e1 with e1
      injection e1 with e1
      subst e1 e3
      refine ⟨(Array.getElem?_eq_some_iff.1 hb).1, hbase, fun m os d hd => ⟨⟨h0, _, ?_, reps_flat _ _ _ d⟩, grownBy_put _⟩⟩
      have := own_put (w := W) (base := base) (g := g) (cap := cap) (n := xs.length) (k := 2) (m := m) (e := 32) (os := os) (cur := cur) (ts := (flatK encS 2 d.toArray).toList) hbase hb h1 h2 h3 (by simp [hd])
      rw [hd]
      unfold sortWorldK putRowK
      rw [Array.toArray_toList] at this
      exact this
end Go.Proofs.Ytningpmoojnomaa.Pr
end
section
namespace Go.Proofs
open Go.Shelf
def Try.lays122_ren : Go.Shelf.Ren := ⟨fun | 122 => 68 | 215 => 95 | n => n, fun | 3 => 3 | 4 => 4 | n => n, fun | n => n⟩
theorem Try.lays122 : Go.Proofs.Lays.n122 Try.prog Try.lays122_ren := {
  mixed := by kernel_rfl
  f122 := Try.func68.trans (congrArg some (by kernel_rfl))
  f215 := Try.func95.trans (congrArg some (by kernel_rfl))
  t3 := Try.underlying3
  a3 := Try.isAgg3
  z3 := Try.sizeOf3
  v3 := Try.zeroValue3
  t4 := Try.underlying4
  a4 := Try.isAgg4
  z4 := Try.sizeOf4
  v4 := Try.zeroValue4 }
open Go.RowKit in
/-- cmp.Compare at int: "Compare returns -1 if x is less than y, 0 if x equals y, +1 if x is greater than y.": IT RETURNS 'Lib.compareInt x y'; the world is asx it was. (LAID: no walk: one application.) -/
theorem Try.cmp_Compare_int (x y : Int) (w : World) :
    Calls Try.prog 68 #[.int .i64 x, .int .i64 y] w fun e w' => e = .returned (.int .i64 (Lib.compareInt x y)) ∧ w' = w := Any.cmp_Compare_int Try.lays122 x y w
def Try.lays189_ren : Go.Shelf.Ren := ⟨fun | 189 => 113 | 125 => 94 | 257 => 122 | 128 => 109 | 129 => 110 | 294 => 125 | 295 => 126 | 296 => 127 | 297 => 128 | 298 => 129 | 299 => 130 | 216 => 131 | 300 => 132 | 301 => 133 | 328 => 135 | 329 => 116 | 330 => 117 | 331 => 136 | 332 => 137 | 215 => 95 | 343 => 138 | n => n, fun | 28 => 33 | 3 => 3 | 46 => 85 | 0 => 0 | 51 => 101 | 53 => 103 | 4 => 4 | 183 => 94 | 182 => 93 | 131 => 98 | 5 => 5 | 9 => 9 | 218 => 109 | 222 => 113 | 228 => 118 | 229 => 119 | n => n, fun | n => n⟩
theorem Try.lays189 : Go.Proofs.Lays.n189 Try.prog Try.lays189_ren := {
  mixed := by kernel_rfl
  f125 := Try.func94.trans (congrArg some (by kernel_rfl))
  f128 := Try.func109.trans (congrArg some (by kernel_rfl))
  f129 := Try.func110.trans (congrArg some (by kernel_rfl))
  f189 := Try.func113.trans (congrArg some (by kernel_rfl))
  f215 := Try.func95.trans (congrArg some (by kernel_rfl))
  f216 := Try.func131.trans (congrArg some (by kernel_rfl))
  f257 := Try.func122.trans (congrArg some (by kernel_rfl))
  f294 := Try.func125.trans (congrArg some (by kernel_rfl))
  f295 := Try.func126.trans (congrArg some (by kernel_rfl))
  f296 := Try.func127.trans (congrArg some (by kernel_rfl))
  f297 := Try.func128.trans (congrArg some (by kernel_rfl))
  f298 := Try.func129.trans (congrArg some (by kernel_rfl))
  f299 := Try.func130.trans (congrArg some (by kernel_rfl))
  f300 := Try.func132.trans (congrArg some (by kernel_rfl))
  f301 := Try.func133.trans (congrArg some (by kernel_rfl))
  f328 := Try.func135.trans (congrArg some (by kernel_rfl))
  f329 := Try.func116.trans (congrArg some (by kernel_rfl))
  f330 := Try.func117.trans (congrArg some (by kernel_rfl))
  f331 := Try.func136.trans (congrArg some (by kernel_rfl))
  f332 := Try.func137.trans (congrArg some (by kernel_rfl))
  f343 := Try.func138.trans (congrArg some (by kernel_rfl))
  t0 := Try.underlying0
  a0 := Try.isAgg0
  z0 := Try.sizeOf0
  v0 := Try.zeroValue0
  t3 := Try.underlying3
  a3 := Try.isAgg3
  z3 := Try.sizeOf3
  v3 := Try.zeroValue3
  t4 := Try.underlying4
  a4 := Try.isAgg4
  z4 := Try.sizeOf4
  v4 := Try.zeroValue4
  t5 := Try.underlying5
  a5 := Try.isAgg5
  z5 := Try.sizeOf5
  v5 := Try.zeroValue5
  t9 := Try.underlying9
  a9 := Try.isAgg9
  z9 := Try.sizeOf9
  v9 := Try.zeroValue9
  t28 := Try.underlying33
  a28 := Try.isAgg33
  z28 := Try.sizeOf33
  v28 := Try.zeroValue33
  t46 := Try.underlying85
  a46 := Try.isAgg85
  z46 := Try.sizeOf85
  v46 := Try.zeroValue85
  t51 := Try.underlying101
  a51 := Try.isAgg101
  z51 := Try.sizeOf101
  v51 := Try.zeroValue101
  t53 := Try.underlying103
  a53 := Try.isAgg103
  z53 := Try.sizeOf103
  v53 := Try.zeroValue103
  t131 := Try.underlying98
  a131 := Try.isAgg98
  z131 := Try.sizeOf98
  v131 := Try.zeroValue98
  t182 := Try.underlying93
  a182 := Try.isAgg93
  z182 := Try.sizeOf93
  v182 := Try.zeroValue93
  t183 := Try.underlying94
  a183 := Try.isAgg94
  z183 := Try.sizeOf94
  v183 := Try.zeroValue94
  t218 := Try.underlying109
  a218 := Try.isAgg109
  z218 := Try.sizeOf109
  v218 := Try.zeroValue109
  t222 := Try.underlying113
  a222 := Try.isAgg113
  z222 := Try.sizeOf113
  v222 := Try.zeroValue113
  t228 := Try.underlying118
  a228 := Try.isAgg118
  z228 := Try.sizeOf118
  v228 := Try.zeroValue118
  t229 := Try.underlying119
  a229 := Try.isAgg119
  z229 := Try.sizeOf119
  v229 := Try.zeroValue119 }
open Go.Sort Go.RowKit in
theorem Try.slices_Sort_int (blk off cap : Nat) (zs : List Int) (w : World) (hH : Holds (Value.int .i64) w blk off zs.toArray) (hblk : blk < w.heap.size) (hsz : zs.length < 4611686018427387904) :
    Calls Try.prog 113 #[.slice (some ⟨blk, off, none⟩) zs.length cap] w fun e w' =>
      e = .returned (.tuple #[]) ∧ ∃ n os, w' = grow (putRow (Value.int .i64) (Sort.ahead w n) blk off (zs.mergeSort fun x y => decide (x ≤ y)).toArray) os := Any.slices_Sort_int Try.lays189 blk off cap zs w hH hblk hsz
def Try.laysNm220_ren : Go.Shelf.Ren := ⟨fun | 20 => 114 | n => n, fun | 22 => 33 | 3 => 3 | 4 => 4 | 0 => 0 | n => n, fun | n => n⟩
theorem Try.laysNm220 : Go.Proofs.Lays2.n20 Try.prog Try.laysNm220_ren := {
  mixed := by kernel_rfl
  f20 := Try.func114.trans (congrArg some (by kernel_rfl))
  t0 := Try.underlying0
  a0 := Try.isAgg0
  z0 := Try.sizeOf0
  v0 := Try.zeroValue0
  t3 := Try.underlying3
  a3 := Try.isAgg3
  z3 := Try.sizeOf3
  v3 := Try.zeroValue3
  t4 := Try.underlying4
  a4 := Try.isAgg4
  z4 := Try.sizeOf4
  v4 := Try.zeroValue4
  t22 := Try.underlying33
  a22 := Try.isAgg33
  z22 := Try.sizeOf33
  v22 := Try.zeroValue33
  i3 := by kernel_rfl }
open Go.RowKit Go.Lib Go.Sort in
/-- slices.Compact at []int: "Compact replaces consecutive runs of equal elements with a single copy. This is like the uniq command found on Unix. Compact modifies the contents of the slice s and returns the modified slice, which may have a smaller length. Compact zeroes the elements between the new length and the original length. The result preserves the nilness of s.": IT RETURNS THE SLICE CUT TO 'Lib.compact zs'; ITS CELLS HOLD 'Lib.compact zs', THEN ZERO VALUES up to the old length; all else is asx it was, but for the count of draws. IN THE WORDS OF slices.Sort's CONTRACT ('Holds', 'putRow'): so the everyday 'slices.Sort(xs); xs = slices.Compact(xs)' goes from the one contract to the other. It asks 'zs.length ≤ cap' (every slice's: the reslicing 's[:k]' looks at it). Length 0, nil: '.._empty'. (LAID: no walk: one application.) -/
theorem Try.slices_Compact_int (blk off cap : Nat) (zs : List Int) (w : World) (hH : Holds (Value.int .i64) w blk off zs.toArray) (hsz : zs.length ≤ 9223372036854775807) (hcap : zs.length ≤ cap) :
    Calls Try.prog 114 #[.slice (some ⟨blk, off, none⟩) zs.length cap] w fun e w' => e = .returned (.slice (some ⟨blk, off, none⟩) (Lib.compact zs).length cap) ∧ ∃ q, w' = putRow (Value.int .i64) (Sort.ahead w q) blk off (Lib.compact zs ++ List.replicate (zs.length - (Lib.compact zs).length) 0).toArray := Any.slices_Compact_int Try.laysNm220 blk off cap zs w hH hsz hcap
def Try.sort66_ren : Go.Shelf.Ren := ⟨fun | 6 => 66 | 15 => 94 | 14 => 93 | 28 => 109 | 29 => 110 | 20 => 101 | 21 => 102 | 22 => 103 | 23 => 104 | 24 => 105 | 25 => 106 | 26 => 107 | 27 => 108 | 46 => 115 | 47 => 116 | 48 => 117 | 49 => 118 | 50 => 119 | 57 => 123 | n => n, fun | 22 => 22 | 24 => 32 | 25 => 69 | 3 => 3 | 39 => 85 | 0 => 0 | 53 => 101 | 55 => 103 | 4 => 4 | 46 => 94 | 45 => 93 | 50 => 98 | 5 => 5 | 9 => 9 | 66 => 109 | 70 => 113 | 76 => 118 | 77 => 119 | n => n, fun | n => n⟩
theorem Try.sort66 : Go.Proofs.SlLaysF0.n6 Try.prog Try.sort66_ren := {
  mixed := by kernel_rfl
  f6 := ⟨Try.f66.name, by decide, Try.func66.trans (congrArg some (by kernel_rfl))⟩
  f14 := ⟨Try.f93.name, by decide, Try.func93.trans (congrArg some (by kernel_rfl))⟩
  f15 := Try.func94.trans (congrArg some (by kernel_rfl))
  f20 := ⟨Try.f101.name, by decide, Try.func101.trans (congrArg some (by kernel_rfl))⟩
  f21 := ⟨Try.f102.name, by decide, Try.func102.trans (congrArg some (by kernel_rfl))⟩
  f22 := ⟨Try.f103.name, by decide, Try.func103.trans (congrArg some (by kernel_rfl))⟩
  f23 := ⟨Try.f104.name, by decide, Try.func104.trans (congrArg some (by kernel_rfl))⟩
  f24 := ⟨Try.f105.name, by decide, Try.func105.trans (congrArg some (by kernel_rfl))⟩
  f25 := ⟨Try.f106.name, by decide, Try.func106.trans (congrArg some (by kernel_rfl))⟩
  f26 := ⟨Try.f107.name, by decide, Try.func107.trans (congrArg some (by kernel_rfl))⟩
  f27 := ⟨Try.f108.name, by decide, Try.func108.trans (congrArg some (by kernel_rfl))⟩
  f28 := Try.func109.trans (congrArg some (by kernel_rfl))
  f29 := Try.func110.trans (congrArg some (by kernel_rfl))
  f46 := ⟨Try.f115.name, by decide, Try.func115.trans (congrArg some (by kernel_rfl))⟩
  f47 := Try.func116.trans (congrArg some (by kernel_rfl))
  f48 := Try.func117.trans (congrArg some (by kernel_rfl))
  f49 := ⟨Try.f118.name, by decide, Try.func118.trans (congrArg some (by kernel_rfl))⟩
  f50 := ⟨Try.f119.name, by decide, Try.func119.trans (congrArg some (by kernel_rfl))⟩
  f57 := ⟨Try.f123.name, by decide, Try.func123.trans (congrArg some (by kernel_rfl))⟩
  t0 := Try.underlying0
  a0 := Try.isAgg0
  z0 := Try.sizeOf0
  v0 := Try.zeroValue0
  t3 := Try.underlying3
  a3 := Try.isAgg3
  z3 := Try.sizeOf3
  v3 := Try.zeroValue3
  t4 := Try.underlying4
  a4 := Try.isAgg4
  z4 := Try.sizeOf4
  v4 := Try.zeroValue4
  t5 := Try.underlying5
  a5 := Try.isAgg5
  z5 := Try.sizeOf5
  v5 := Try.zeroValue5
  t9 := Try.underlying9
  a9 := Try.isAgg9
  z9 := Try.sizeOf9
  v9 := Try.zeroValue9
  t22 := Try.underlying22
  a22 := Try.isAgg22
  z22 := Try.sizeOf22
  v22 := Try.zeroValue22
  t25 := Try.underlying69
  a25 := Try.isAgg69
  z25 := Try.sizeOf69
  v25 := Try.zeroValue69
  t39 := Try.underlying85
  a39 := Try.isAgg85
  z39 := Try.sizeOf85
  v39 := Try.zeroValue85
  t45 := Try.underlying93
  a45 := Try.isAgg93
  z45 := Try.sizeOf93
  v45 := Try.zeroValue93
  t46 := Try.underlying94
  a46 := Try.isAgg94
  z46 := Try.sizeOf94
  v46 := Try.zeroValue94
  t50 := Try.underlying98
  a50 := Try.isAgg98
  z50 := Try.sizeOf98
  v50 := Try.zeroValue98
  t53 := Try.underlying101
  a53 := Try.isAgg101
  z53 := Try.sizeOf101
  v53 := Try.zeroValue101
  t55 := Try.underlying103
  a55 := Try.isAgg103
  z55 := Try.sizeOf103
  v55 := Try.zeroValue103
  t66 := Try.underlying109
  a66 := Try.isAgg109
  z66 := Try.sizeOf109
  v66 := Try.zeroValue109
  t70 := Try.underlying113
  a70 := Try.isAgg113
  z70 := Try.sizeOf113
  v70 := Try.zeroValue113
  t76 := Try.underlying118
  a76 := Try.isAgg118
  z76 := Try.sizeOf118
  v76 := Try.zeroValue118
  t77 := Try.underlying119
  a77 := Try.isAgg119
  z77 := Try.sizeOf119
  v77 := Try.zeroValue119 }
end Go.Proofs
end
section
namespace Go.Proofs.Ytningpmoojnomaa.Pr
open Go.RowKit Go.Sort Go.Shelf Go.Lib Go.Proofs.YtningpmoojnomaaW.PrintWords Go.Proofs.YtningpmoojnomaaW.PrintLast Go.Proofs.YtningpmoojnomaaW.PrintMore
set_option linter.unusedVariables false
set_option linter.unusedSimpArgs false
def cmpLo (x y : S32) : Int := Lib.compareInt x.f0 y.f0
def sortLo (l : List S32) : List S32 := (pdq (ltOf cmpLo) l.toArray 0 l.length (Lib.bitLen l.length) true true).toList
theorem ltOf_cmpLo (x y : S32) : ltOf cmpLo x y = decide (x.f0 < y.f0) := by
  unfold ltOf cmpLo Lib.compareInt
  by_cases h : x.f0 < y.f0
  · simp [h]
  · by_cases h2 : x.f0 > y.f0
    · simp [h, h2]
    · simp [h, h2]
theorem swo_cmpLo : SWO (ltOf cmpLo) where
  irrefl := fun x => by rw [ltOf_cmpLo]; simp
  trans := fun x y z h1 h2 => by rw [ltOf_cmpLo] at *; simp at *; omega
  ntrans := fun x y z h1 h2 => by rw [ltOf_cmpLo] at *; simp at *; omega
theorem sortLo_sorts (l : List S32) : PermIn 0 l.toArray.size l.toArray (sortLo l).toArray ∧ SortedIn (ltOf cmpLo) 0 l.toArray.size (sortLo l).toArray := by
  have h := pdq_sorts (ltOf cmpLo) swo_cmpLo l.toArray 0 l.toArray.size (Lib.bitLen l.toArray.size) true true (Nat.zero_le _) (Nat.le_refl _) (Or.inl rfl)
  unfold sortLo
  rw [Array.toArray_toList]
  exact h
theorem sortLo_perm (l : List S32) : (sortLo l).Perm l := by
  obtain ⟨⟨hs, _, hp⟩, _⟩ := sortLo_sorts l
  have e1 : ((sortLo l).toArray.extract 0 l.toArray.size).toList = sortLo l := by
    rw [← hs]
    simp
  have e2 : (l.toArray.extract 0 l.toArray.size).toList = l := by simp
  rw [e1, e2] at hp
  exact hp
theorem sortLo_length (l : List S32) : (sortLo l).length = l.length := (sortLo_perm l).length_eq
theorem sortLo_pairwise (l : List S32) : (sortLo l).Pairwise (fun a b => a.f0 ≤ b.f0) := by
  obtain ⟨_, hs⟩ := sortLo_sorts l
  rw [List.pairwise_iff_getElem]
  intro i j hi hj hij
  have := hs i j (Nat.zero_le _) hij (by rw [sortLo_length] at hj; simpa using hj)
  rw [ltOf_cmpLo] at this
  rw [getElem!_pos (sortLo l).toArray i (by simpa using hi), getElem!_pos (sortLo l).toArray j (by simpa using hj)] at this
  simp at this
  exact this
set_option maxHeartbeats 1000000 in
theorem closure67 (x y : S32) (W : World) : Calls Try.prog 67 #[.agg #[.int .i64 x.f0, .int .i64 x.f1], .agg #[.int .i64 y.f0, .int .i64 y.f1]] W fun e w' => e = .returned (.int .i64 (cmpLo x y)) ∧ ∃ q os', w' = grow (W.drewN q) os' := by
  have HC := Aside0.mk (fun W' => Try.cmp_Compare_int x.f0 y.f0 W')
  unfold cmpLo
  generalize Lib.compareInt x.f0 y.f0 = r at HC ⊢
  go_enter Try.func67, Try.ntmps67
  go_wp2_with (go_at_call 68; refine (HC.out _).mono ?_; rintro e w' ⟨rfl, rfl⟩)
  go_ret
  exact ⟨rfl, 0, _, by rw [alloc_eq_grow, alloc_eq_grow, grow_grow]; rfl⟩
theorem cmpLays67 (blk off size : Nat) (w : World) : CmpLays Try.prog 67 #[] encS 2 cmpLo blk off size w :=
  fun _ _ _ _ x y => closure67 x y _
/-- slices.SortFunc on a row of the call's own. -/
theorem sortFunc_own (W : World) (base g n cap : Nat) (ok : Nat → Prop) (xs : List S32) (h : Kd.R k32 32 W base ok (.slice (some ⟨g, 0, none⟩) n cap) xs) (hlen : xs.length < 4611686018427387904) :
    Calls Try.prog 66 #[.slice (some ⟨g, 0, none⟩) n cap, .func (.func 67) #[] #[]] W fun e w' => e = .returned (.tuple #[]) ∧ Kd.R k32 32 w' base ok (.slice (some ⟨g, 0, none⟩) n cap) (sortLo xs) ∧ W.grownBy w' (some g) := by
  obtain ⟨rfl, hH, hg, hbase, hput⟩ := own_bridge h
  have eg : ∀ args w, (callFunc 67 args).run Try.prog w = .ok (.enter 67 args) w := enters_of Try.func67 (by kernel_rfl) rfl
  have hcon := AnyQ.slices_SortFunc_eq Try.sort66 2 Try.isAgg32 Try.sizeOf32 encS (fun _ => rfl) (fun x v hv => by simp [encS] at hv; rcases hv with rfl | rfl <;> rfl) cmpLo swo_cmpLo 67 #[] g 0 cap xs.toArray W eg (cmpLays67 g 0 _ W) hH hg (by simpa using hlen)
  change Calls Try.prog 66 _ _ _ at hcon
  refine hcon.mono ?_
  rintro e w' ⟨rfl, m, os, rfl⟩
  have := hput m os (sortLo xs) (sortLo_length xs)
  unfold sortLo at this ⊢
  rw [Array.toArray_toList] at this
  exact ⟨rfl, by simpa using this.1, by simpa using this.2⟩
theorem sortFunc_none (W : World) (p : Option Addr) (cap : Nat) :
    Calls Try.prog 66 #[.slice p 0 cap, .func (.func 67) #[] #[]] W fun e w' => e = .returned (.tuple #[]) ∧ w' = W :=
  AnyF.slices_SortFunc_none Try.sort66 p cap _ W
/-- .. whether nil or not. -/
theorem sortFunc_any (W : World) (base : Nat) (ok : Nat → Prop) (v : Value) (xs : List S32) (h : Kd.R k32 32 W base ok v xs) (hlen : xs.length < 4611686018427387904) :
    Calls Try.prog 66 #[v, .func (.func 67) #[] #[]] W fun e w' => e = .returned (.tuple #[]) ∧ Kd.R k32 32 w' base ok v (sortLo xs) ∧ W.grownBy w' v.ownBlock := by
  rcases h.2 with ⟨inner, ⟨hi, hh⟩, hr⟩
  rcases hh with ⟨rfl, hn⟩ | ⟨g, cap, cur, rfl, _⟩
  · obtain rfl : xs = [] := List.eq_nil_of_length_eq_zero hn
    have e0 : sortLo [] = [] := List.eq_nil_of_length_eq_zero (by rw [sortLo_length]; rfl)
    rw [e0]
    refine (sortFunc_none W none 0).mono ?_
    rintro e w' ⟨rfl, rfl⟩
    exact ⟨rfl, h, World.grownBy.refl _ _⟩
  · exact sortFunc_own W base g xs.length cap ok xs h hlen
def span_Of.f (k : Nat) (l0 : List S32) : Option (List S32 × Int) :=
  (span_listed.f l0).bind fun e => if e = 0 then (clone_Span.f l0).bind fun o => (span_joined.f k (sortLo o)).bind fun j => some (j, 0) else some ([], e)
theorem span_Of.mono : ∀ a0 k, LeO (span_Of.f k a0) (span_Of.f (k + 1) a0) := by
  intro a0 k
  unfold span_Of.f
  refine LeO.bind (LeO.refl _) (fun t => LeO.ite (LeO.bind (LeO.refl _) (fun o => LeO.bind (span_joined.mono _ _) (fun _ => LeO.refl _))) (LeO.refl _))
set_option maxHeartbeats 4000000 in
set_option maxRecDepth 100000 in
theorem span_Of.calls (k : Nat) (A0 : Option Addr) (c0 : Nat) (l0 : List S32) (r1 : List S32) (r2 : Int) (w : World) (hr0 : Kd.C k32 w A0 l0.length l0) (hc0 : l0.length ≤ c0) (h : span_Of.f k l0 = some (r1, r2)) :
    Calls Try.prog 19 #[.slice A0 l0.length c0] w fun e w' => ∃ v0_ : Value, e = .returned (.tuple #[v0_, .int .i64 r2]) ∧ Kd.R k32 32 w' w.heap.size (fun _ => True) v0_ r1 ∧ Below w.heap.size w w' := by
  have hm : l0.length ≤ 9223372036854775807 := hr0.2.1
  have HR0 := Aside0.mk hr0
  have HC0 := Aside0.mk hc0
  have HM := Aside0.mk hm
  clear hr0 hc0 hm
  unfold span_Of.f at h
  obtain ⟨t, ht, h⟩ := Option.bind_eq_some_iff.mp h
  have HT := Aside0.mk ht
  clear ht
  by_cases h0 : t = 0
  · rw [if_pos h0] at h
    subst h0
    obtain ⟨o, ho, h⟩ := Option.bind_eq_some_iff.mp h
    obtain ⟨j, hj, h⟩ := Option.bind_eq_some_iff.mp h
    simp at h
    obtain ⟨rfl, rfl⟩ := h
    have HO := Aside0.mk ho
    have eo : o = l0 ∧ l0.length ≤ 8796093022208 := by
      unfold clone_Span.f at ho
      split at ho
      · rename_i hl
        injection ho with ho
        exact ⟨ho.symm, hl⟩
      · cases ho
    obtain ⟨rfl, hl⟩ := eo
    have HJ := Aside0.mk hj
    have HL := Aside0.mk hl
    clear ho hj hl
    go_enter Try.func19, Try.ntmps19
    go_wp2_with (go_at_call 64; refine (span_listed.calls _ _ o 0 _ HR0.out HC0.out HT.out).mono ?_; rintro e w1 ⟨rfl, hb1⟩)
    have HB1 := Aside0.mk hb1
    clear hb1
    go_wp2_with (go_at_call 65; refine (clone_Span.calls _ _ o o _ (Kd.C_below HR0.out HB1.out) HC0.out HO.out).mono ?_; rintro e w2 ⟨v, rfl, hr2, hb2⟩)
    have HB2 := Aside0.mk (below_then HB1.out HB1.out.size hb2)
    have HR2 := Aside0.mk (Kd.R_lower hr2 HB1.out.size)
    clear hb2 hr2 HB1
    have HS := Aside0.mk (sortFunc_any _ _ _ _ _ HR2.out (by have := HL.out; omega))
    obtain ⟨A2, c2, e2⟩ := Kd.R_slice HR2.out
    subst e2
    go_wp2_with (go_at_call 66; refine HS.out.mono ?_; rintro e w3 ⟨rfl, hr3, hg3⟩)
    have HB3 := Aside0.mk (HB2.out.grown hg3 HB2.out.size (fun k hk => Kd.R_base HR2.out k hk))
    have hC := fun W h1 h2 => span_joined.calls k A2 c2 (sortLo o) j W h1 h2 HJ.out
    have hr := Kd.R_reads' hr3
    rw [sortLo_length] at hC hr
    have HC := Aside0.mk hC
    clear hC
    have HRR := Aside0.mk hr
    clear hr
    go_wp2_with (go_at_call 69; refine (HC.out _ HRR.out.2.2 HRR.out.2.1).mono ?_; rintro e w4 ⟨v4, rfl, hr4, hb4⟩; obtain ⟨A4, c4, e4⟩ := Kd.R_slice hr4; subst e4)
    go_ret2
    exact ⟨_, rfl, Kd.R_lower hr4 HB3.out.size, below_then HB3.out HB3.out.size hb4⟩
  · rw [if_neg h0] at h
    injection h with h
    injection h with h1 h2
    subst h1 h2
    have hn : (t == 0) = false := by simpa using h0
    have hn2 : (t != 0) = true := by simpa using h0
    go_enter Try.func19, Try.ntmps19
    go_wp2_with (go_at_call 64; refine (span_listed.calls _ _ l0 t _ HR0.out HC0.out HT.out).mono ?_; rintro e w1 ⟨rfl, hb1⟩)
    go_ret2
    exact ⟨_, rfl, Kd.R_nil _ _ _ _ _, hb1⟩
end Go.Proofs.Ytningpmoojnomaa.Pr
end
section
namespace Go.Proofs.Ytningpmoojnomaa.Pr
open Go.RowKit Go.Proofs.YtningpmoojnomaaW.PrintWords Go.Proofs.YtningpmoojnomaaW.PrintLast Go.Proofs.YtningpmoojnomaaW.PrintMore
set_option linter.unusedVariables false
set_option linter.unusedSimpArgs false
def memS (l : List S32) (x : Int) : Bool := l.any (hasS x)
theorem memS_cons (s : S32) (t : List S32) (x : Int) : memS (s :: t) x = (hasS x s || memS t x) := rfl
theorem memS_perm {a b : List S32} (h : a.Perm b) (x : Int) : memS a x = memS b x := by
  unfold memS
  rw [Bool.eq_iff_iff, List.any_eq_true, List.any_eq_true]
  exact ⟨fun ⟨s, hs, hp⟩ => ⟨s, h.mem_iff.1 hs, hp⟩, fun ⟨s, hs, hp⟩ => ⟨s, h.mem_iff.2 hs, hp⟩⟩
theorem hasS_iff (x : Int) (s : S32) : hasS x s = true ↔ s.f0 ≤ x ∧ x < s.f1 := by unfold hasS; simp
theorem memS_iff (l : List S32) (x : Int) : memS l x = true ↔ ∃ s ∈ l, s.f0 ≤ x ∧ x < s.f1 := by
  unfold memS
  rw [List.any_eq_true]
  simp only [hasS_iff]
theorem asc_low : ∀ (l : List S32) (lo x : Int), Asc lo l → memS l x = true → lo ≤ x
  | [], _, _, _, h => by simp [memS] at h
  | s :: t, lo, x, ⟨h1, h2, h3, h4⟩, h => by
    rw [memS_cons, Bool.or_eq_true, hasS_iff] at h
    rcases h with h | h
    · omega
    · have := asc_low t _ x h4 h
      omega
theorem asc_mono : ∀ (l : List S32) (lo lo' : Int), lo' ≤ lo → Asc lo l → Asc lo' l
  | [], _, _, _, _ => trivial
  | _ :: _, _, _, h, ⟨h1, h2, h3, h4⟩ => ⟨by omega, h2, h3, h4⟩
/-- AN ASCENDING LIST IS KNOWN BY ITS NUMBERS. -/
theorem canon : ∀ (a b : List S32) (lo lo' : Int), Asc lo a → Asc lo' b → (∀ x, memS a x = memS b x) → a = b
  | [], [], _, _, _, _, _ => rfl
  | [], s :: t, _, _, _, ⟨_, h2, _, _⟩, h => by
    have := h s.f0
    rw [memS_cons, show hasS s.f0 s = true from (hasS_iff _ _).2 ⟨Int.le_refl _, h2⟩] at this
    simp [memS] at this
  | s :: t, [], _, _, ⟨_, h2, _, _⟩, _, h => by
    have := h s.f0
    rw [memS_cons, show hasS s.f0 s = true from (hasS_iff _ _).2 ⟨Int.le_refl _, h2⟩] at this
    simp [memS] at this
  | s :: t, s' :: t', lo, lo', ha, hb, h => by
    have ha' : Asc s.f0 (s :: t) := ⟨Int.le_refl _, ha.2⟩
    have hb' : Asc s'.f0 (s' :: t') := ⟨Int.le_refl _, hb.2⟩
    have m0 : memS (s :: t) s.f0 = true := by rw [memS_cons, (hasS_iff s.f0 s).2 ⟨Int.le_refl _, ha.2.1⟩]; rfl
    have m0' : memS (s' :: t') s'.f0 = true := by rw [memS_cons, (hasS_iff s'.f0 s').2 ⟨Int.le_refl _, hb.2.1⟩]; rfl
    have e0 : s.f0 = s'.f0 := by
      have h1 := asc_low _ _ _ hb' ((h s.f0).symm.trans m0)
      have h2 := asc_low _ _ _ ha' ((h s'.f0).trans m0')
      omega
    have nt : ∀ x, x ≤ s.f1 → memS t x = false := fun x hx => by
      rw [← Bool.not_eq_true]
      intro hc
      have := asc_low _ _ _ ha.2.2.2 hc
      omega
    have nt' : ∀ x, x ≤ s'.f1 → memS t' x = false := fun x hx => by
      rw [← Bool.not_eq_true]
      intro hc
      have := asc_low _ _ _ hb.2.2.2 hc
      omega
    have e1 : s.f1 = s'.f1 := by
      rcases Int.lt_trichotomy s.f1 s'.f1 with hlt | heq | hgt
      · have := h s.f1
        rw [memS_cons, memS_cons, nt s.f1 (Int.le_refl _), (hasS_iff s.f1 s').2 ⟨by have := ha.2.1; omega, hlt⟩] at this
        simp [hasS] at this
      · exact heq
      · have := h s'.f1
        rw [memS_cons, memS_cons, nt' s'.f1 (Int.le_refl _), (hasS_iff s'.f1 s).2 ⟨by have := hb.2.1; omega, hgt⟩] at this
        simp [hasS] at this
    have es : s = s' := by
      cases s
      cases s'
      simp at e0 e1
      subst e0 e1
      rfl
    subst es
    rw [canon t t' _ _ ha.2.2.2 hb.2.2.2 (fun x => by
      rcases Int.lt_or_le s.f1 x with hx | hx
      · have := h x
        rw [memS_cons, memS_cons, show hasS x s = false by rw [← Bool.not_eq_true, hasS_iff]; omega] at this
        simpa using this
      · rw [nt x hx, nt' x hx])]
def jn : List S32 → Option S32 → List S32
  | [], cur => cur.toList
  | s :: t, none => jn t (some s)
  | s :: t, some c => if s.f0 ≤ c.f1 then jn t (some ⟨c.f0, max c.f1 s.f1⟩) else c :: jn t (some s)
theorem jn_spec : ∀ (l : List S32) (cur : Option S32) (lo : Int), l.Pairwise (fun a b => a.f0 ≤ b.f0) → (∀ s ∈ l, lo ≤ s.f0 ∧ s.f0 < s.f1 ∧ s.f1 ≤ 1099511627776) →
    (∀ c, cur = some c → lo ≤ c.f0 ∧ c.f0 < c.f1 ∧ c.f1 ≤ 1099511627776 ∧ ∀ s ∈ l, c.f0 ≤ s.f0) → Asc lo (jn l cur) ∧ ∀ x, memS (jn l cur) x = (memS cur.toList x || memS l x)
  | [], none, lo, _, _, _ => ⟨trivial, fun x => by simp [jn, memS]⟩
  | [], some c, lo, _, _, hc => by
    obtain ⟨h1, h2, h3, _⟩ := hc c rfl
    exact ⟨⟨h1, h2, h3, trivial⟩, fun x => by simp [jn, memS]⟩
  | s :: t, none, lo, hp, hl, _ => by
    rw [List.pairwise_cons] at hp
    obtain ⟨h1, h2, h3⟩ := hl s (List.mem_cons_self)
    obtain ⟨ha, hm⟩ := jn_spec t (some s) lo hp.2 (fun x hx => hl x (List.mem_cons_of_mem _ hx)) (fun c hc => by
      injection hc with hc
      subst hc
      exact ⟨h1, h2, h3, hp.1⟩)
    exact ⟨ha, fun x => by rw [jn, hm x]; simp [memS]⟩
  | s :: t, some c, lo, hp, hl, hc => by
    rw [List.pairwise_cons] at hp
    obtain ⟨h1, h2, h3⟩ := hl s (List.mem_cons_self)
    obtain ⟨c1, c2, c3, c4⟩ := hc c rfl
    have c5 := c4 s (List.mem_cons_self)
    rw [jn]
    by_cases hle : s.f0 ≤ c.f1
    · rw [if_pos hle]
      obtain ⟨ha, hm⟩ := jn_spec t (some ⟨c.f0, max c.f1 s.f1⟩) lo hp.2 (fun x hx => hl x (List.mem_cons_of_mem _ hx)) (fun d hd => by
        injection hd with hd
        subst hd
        exact ⟨c1, by simp; omega, by simp; omega, fun x hx => c4 x (List.mem_cons_of_mem _ hx)⟩)
      refine ⟨ha, fun x => ?_⟩
      rw [hm x, memS_cons, ← Bool.or_assoc]
      congr 1
      simp only [Option.toList_some, memS, List.any_cons, List.any_nil, Bool.or_false]
      rw [Bool.eq_iff_iff, Bool.or_eq_true, hasS_iff, hasS_iff, hasS_iff]
      simp only
      omega
    · rw [if_neg hle]
      obtain ⟨ha, hm⟩ := jn_spec t (some s) (c.f1 + 1) hp.2 (fun x hx => by
        have := hl x (List.mem_cons_of_mem _ hx)
        have := hp.1 x hx
        exact ⟨by omega, by omega, by omega⟩) (fun d hd => by
        injection hd with hd
        subst hd
        exact ⟨by omega, h2, h3, hp.1⟩)
      exact ⟨⟨c1, c2, c3, ha⟩, fun x => by rw [memS_cons, hm x]; simp [memS]⟩
theorem jn_len : ∀ (l : List S32) (cur : Option S32), (jn l cur).length ≤ l.length + cur.toList.length
  | [], cur => by simp [jn]
  | s :: t, none => by have := jn_len t (some s); simp [jn] at *; omega
  | s :: t, some c => by
    rw [jn]
    by_cases hle : s.f0 ≤ c.f1
    · rw [if_pos hle]; have := jn_len t (some ⟨c.f0, max c.f1 s.f1⟩); simp at *; omega
    · rw [if_neg hle]; have := jn_len t (some s); simp at *; omega
theorem rd_last (p : List S32) (c : S32) : rd_T32 (p ++ [c]) ((p.length : Nat) : Int) = c := by
  rw [rd_nat]
  simp [List.getD_eq_getElem?_getD]
theorem set_last (p : List S32) (c d : S32) : (p ++ [c]).set p.length d = p ++ [d] := by
  rw [List.set_append_right _ _ (Nat.le_refl _)]
  simp
theorem len_last (p : List S32) (c : S32) (h : p.length < 4611686018427387904) : wrap64 (((p ++ [c]).length : Int) - 1) = ((p.length : Nat) : Int) := by
  rw [List.length_append, List.length_singleton]
  unfold wrap64
  omega
theorem joined_loop (l : List S32) (hn : l.length ≤ 1000000) : ∀ (d i : Nat) (p : List S32) (c : S32), l.length - i = d → i ≤ l.length → p.length + 1 ≤ i →
    Ev (fun k => span_joined.l0 k (p ++ [c]) l (l.length : Int) (i : Int)) (p ++ jn (l.drop i) (some c))
  | 0, i, p, c, h, _, _ => by
    rw [List.drop_eq_nil_of_le (by omega)]
    exact Ev.step (f := fun _ => some (p ++ [c])) (fun k => by simp only [span_joined.l0]; rw [if_neg (by omega)]) (Ev.now _)
  | d + 1, i, p, c, h, hi', hp => by
    have hi : i < l.length := by omega
    have hw := len_last p c (by omega)
    have hlen : (((p ++ [c]).length : Nat) : Int) = (p.length : Int) + 1 := by simp
    rw [drop_cons l i hi, jn]
    refine Ev.step (f := fun k => span_joined.j1 k (p ++ [c]) ((p ++ [c]).length : Int) l (l.length : Int) (i : Int) (decide ((l.getD i z32).f0 ≤ c.f1)) (l.getD i z32).f0 (l.getD i z32).f1) (fun k => ?_) ?_
    · simp only [span_joined.l0]
      rw [if_pos (by omega), if_pos (by omega), if_pos (by omega), rd_nat, if_pos (by omega), hw, if_pos (by omega), if_pos (by omega), rd_last]
    · by_cases hle : (l.getD i z32).f0 ≤ c.f1
      · rw [if_pos hle, decide_eq_true hle]
        refine Ev.step (f := fun k => span_joined.l0 k (p ++ [⟨c.f0, max c.f1 (l.getD i z32).f1⟩]) l (l.length : Int) ((i + 1 : Nat) : Int)) (fun k => ?_) (joined_loop l hn d (i + 1) p _ (by omega) (by omega) (by omega))
        simp only [span_joined.j1]
        rw [if_pos trivial, hw, if_pos (by omega), if_pos (by omega), rd_last, wrap_succ hi (by omega), Int.toNat_natCast, set_last, mx_eq]
      · rw [if_neg hle, decide_eq_false hle]
        have := joined_loop l hn d (i + 1) (p ++ [c]) (l.getD i z32) (by omega) (by omega) (by simp; omega)
        rw [show p ++ c :: jn (l.drop (i + 1)) (some (l.getD i z32)) = (p ++ [c]) ++ jn (l.drop (i + 1)) (some (l.getD i z32)) by simp]
        refine Ev.step (fun k => ?_) this
        simp only [span_joined.j1]
        rw [if_neg (by simp), if_pos (by simp; omega), wrap_succ hi (by omega)]
theorem joined_ev (l : List S32) (hn : l.length ≤ 1000000) : Ev (fun k => span_joined.f k l) (jn l none) := by
  unfold span_joined.f
  rcases l with _ | ⟨s, t⟩
  · exact Ev.step (f := fun _ => some []) (fun k => by simp only [span_joined.l0]; simp) (Ev.now _)
  · refine Ev.step (f := fun k => span_joined.j1 k [] 0 (s :: t) ((s :: t).length : Int) 0 false s.f0 s.f1) (fun k => ?_) ?_
    · simp only [span_joined.l0]
      rw [if_pos (by simp), if_pos (by omega), if_pos (by simp)]
      simp [rd_T32]
    · have := joined_loop (s :: t) hn t.length 1 [] s (by simp) (by simp) (by simp)
      refine Ev.step (fun k => ?_) this
      simp only [span_joined.j1]
      rw [if_neg (by simp), if_pos (by simp)]
      simp [wrap64]
def putRest (x : Int) : List Int → Bool → List Int
  | [], done => if done = true then [] else [x]
  | y :: t, done => if done = false ∧ x ≤ y then (if y = x then x :: putRest x t true else x :: y :: putRest x t true) else (if y = x then putRest x t done else y :: putRest x t done)
def putL (l : List Int) (x : Int) : List Int := putRest x l false
theorem putRest_done (x : Int) : ∀ l : List Int, (∀ y ∈ l, x < y) → putRest x l true = l
  | [], _ => rfl
  | y :: t, h => by
    have := h y (List.mem_cons_self)
    rw [putRest, if_neg (by simp), if_neg (by omega), putRest_done x t (fun z hz => h z (List.mem_cons_of_mem _ hz))]
theorem putL_spec (x : Int) : ∀ l : List Int, l.Pairwise (· < ·) → (putL l x).Pairwise (· < ·) ∧ (∀ z, z ∈ putL l x ↔ z = x ∨ z ∈ l) ∧ (putL l x).length ≤ l.length + 1
  | [], _ => by simp [putL, putRest]
  | y :: t, h => by
    have h0 := h
    rw [List.pairwise_cons] at h
    have ih := putL_spec x t h.2
    unfold putL at ih ⊢
    rw [putRest]
    by_cases hle : x ≤ y
    · rw [if_pos ⟨rfl, hle⟩]
      have hgt : ∀ z ∈ t, x < z := fun z hz => by have := h.1 z hz; omega
      rw [putRest_done x t hgt]
      by_cases he : y = x
      · subst he
        rw [if_pos rfl]
        exact ⟨h0, fun z => by simp, by simp⟩
      · rw [if_neg he]
        refine ⟨?_, fun z => by simp, by simp⟩
        rw [List.pairwise_cons]
        refine ⟨fun z hz => ?_, h0⟩
        rcases List.mem_cons.1 hz with rfl | hz
        · omega
        · exact hgt z hz
    · rw [if_neg (fun hc => hle hc.2), if_neg (by omega)]
      refine ⟨?_, fun z => ?_, ?_⟩
      · rw [List.pairwise_cons]
        refine ⟨fun z hz => ?_, ih.1⟩
        rcases (ih.2.1 z).1 hz with rfl | hz
        · omega
        · exact h.1 z hz
      · rw [List.mem_cons, ih.2.1 z, List.mem_cons]
        exact ⟨fun h => h.elim (fun h => .inr (.inl h)) (fun h => h.elim .inl (fun h => .inr (.inr h))), fun h => h.elim (fun h => .inr (.inl h)) (fun h => h.elim .inl (fun h => .inr (.inr h)))⟩
      · have := ih.2.2
        simp
        omega
theorem dropI (l : List Int) (i : Nat) (h : i < l.length) : l.drop i = rd l (i : Int) :: l.drop (i + 1) := by
  rw [List.drop_eq_getElem_cons h]
  unfold rd
  simp [List.getD_eq_getElem?_getD, List.getElem?_eq_getElem h]
def endsL (E : List Int) (l : List S32) : List Int := l.foldl (fun E s => putL (putL E s.f0) s.f1) E
theorem endsL_spec : ∀ (l : List S32) (E : List Int), E.Pairwise (· < ·) → (endsL E l).Pairwise (· < ·) ∧ (∀ z, z ∈ endsL E l ↔ z ∈ E ∨ ∃ s ∈ l, z = s.f0 ∨ z = s.f1) ∧ (endsL E l).length ≤ E.length + 2 * l.length
  | [], E, h => by simp [endsL, h]
  | s :: t, E, h => by
    obtain ⟨p1, m1, n1⟩ := putL_spec s.f0 E h
    obtain ⟨p2, m2, n2⟩ := putL_spec s.f1 _ p1
    obtain ⟨p3, m3, n3⟩ := endsL_spec t _ p2
    refine ⟨p3, fun z => ?_, ?_⟩
    · show z ∈ endsL _ t ↔ _
      rw [m3 z, m2 z, m1 z]
      simp only [List.mem_cons, exists_eq_or_imp]
      constructor
      · rintro ((h | h | h) | h)
        · exact .inr (.inl (.inr h))
        · exact .inr (.inl (.inl h))
        · exact .inl h
        · exact .inr (.inr h)
      · rintro (h | (h | h) | h)
        · exact .inl (.inr (.inr h))
        · exact .inl (.inr (.inl h))
        · exact .inl (.inl h)
        · exact .inr h
    · show (endsL _ t).length ≤ _
      simp
      omega
def gen (p : Int → Bool) : List Int → Option S32 → List S32
  | e :: e' :: t, none => if p e = true then gen p (e' :: t) (some ⟨e, e'⟩) else gen p (e' :: t) none
  | e :: e' :: t, some c => if p e = true then (if c.f1 = e then gen p (e' :: t) (some ⟨c.f0, e'⟩) else c :: gen p (e' :: t) (some ⟨e, e'⟩)) else gen p (e' :: t) (some c)
  | _, cur => cur.toList
def inP (p : Int → Bool) : List Int → Int → Bool
  | e :: e' :: t, x => (p e && (decide (e ≤ x) && decide (x < e'))) || inP p (e' :: t) x
  | _, _ => false
theorem inP_low (p : Int → Bool) : ∀ (E : List Int) (x : Int), (∀ e ∈ E, x < e) → inP p E x = false
  | [], _, _ => rfl
  | [_], _, _ => rfl
  | e :: e' :: t, x, h => by
    rw [inP, inP_low p (e' :: t) x (fun z hz => h z (List.mem_cons_of_mem _ hz))]
    have := h e (List.mem_cons_self)
    rw [show decide (e ≤ x) = false by simp; omega]
    simp
theorem gen_spec (p : Int → Bool) : ∀ (E : List Int) (cur : Option S32) (lo : Int), E.Pairwise (· < ·) → (∀ e ∈ E, lo ≤ e ∧ e ≤ 1099511627776) →
    (∀ c, cur = some c → lo ≤ c.f0 ∧ c.f0 < c.f1 ∧ c.f1 ≤ 1099511627776 ∧ ∀ e ∈ E, c.f1 ≤ e) → Asc lo (gen p E cur) ∧ ∀ x, memS (gen p E cur) x = (memS cur.toList x || inP p E x)
  | [], cur, lo, _, _, hc => by
    cases cur with
    | none => exact ⟨trivial, fun x => by simp [gen, inP, memS]⟩
    | some c => obtain ⟨h1, h2, h3, _⟩ := hc c rfl; exact ⟨⟨h1, h2, h3, trivial⟩, fun x => by simp [gen, inP, memS]⟩
  | [e], cur, lo, _, _, hc => by
    cases cur with
    | none => exact ⟨trivial, fun x => by simp [gen, inP, memS]⟩
    | some c => obtain ⟨h1, h2, h3, _⟩ := hc c rfl; exact ⟨⟨h1, h2, h3, trivial⟩, fun x => by simp [gen, inP, memS]⟩
  | e :: e' :: t, none, lo, hp, hE, _ => by
    rw [List.pairwise_cons] at hp
    have hee := hp.1 e' (List.mem_cons_self)
    have he := hE e (List.mem_cons_self)
    have he' := hE e' (List.mem_cons_of_mem _ List.mem_cons_self)
    have hE' := fun z hz => hE z (List.mem_cons_of_mem _ hz)
    rw [gen]
    by_cases hpe : p e = true
    · rw [if_pos hpe]
      obtain ⟨ha, hm⟩ := gen_spec p (e' :: t) (some ⟨e, e'⟩) lo hp.2 hE' (fun c hc => by
        injection hc with hc
        subst hc
        refine ⟨he.1, hee, he'.2, fun z hz => ?_⟩
        rcases List.mem_cons.1 hz with rfl | hz
        · exact Int.le_refl _
        · have := (List.pairwise_cons.1 hp.2).1 z hz
          exact Int.le_of_lt this)
      refine ⟨ha, fun x => ?_⟩
      rw [hm x, inP, hpe]
      simp [memS, hasS]
    · rw [if_neg hpe]
      obtain ⟨ha, hm⟩ := gen_spec p (e' :: t) none lo hp.2 hE' (fun c hc => by cases hc)
      refine ⟨ha, fun x => ?_⟩
      rw [hm x, inP, Bool.eq_false_iff.2 hpe]
      simp
  | e :: e' :: t, some c, lo, hp, hE, hc => by
    rw [List.pairwise_cons] at hp
    have hee := hp.1 e' (List.mem_cons_self)
    have he := hE e (List.mem_cons_self)
    have he' := hE e' (List.mem_cons_of_mem _ List.mem_cons_self)
    have hE' := fun z hz => hE z (List.mem_cons_of_mem _ hz)
    have hle' : ∀ z ∈ e' :: t, e' ≤ z := fun z hz => by
      rcases List.mem_cons.1 hz with rfl | hz
      · exact Int.le_refl _
      · have := (List.pairwise_cons.1 hp.2).1 z hz
        exact Int.le_of_lt this
    obtain ⟨c1, c2, c3, c4⟩ := hc c rfl
    have c5 := c4 e (List.mem_cons_self)
    rw [gen]
    by_cases hpe : p e = true
    · rw [if_pos hpe]
      by_cases hce : c.f1 = e
      · rw [if_pos hce]
        obtain ⟨ha, hm⟩ := gen_spec p (e' :: t) (some ⟨c.f0, e'⟩) lo hp.2 hE' (fun d hd => by
          injection hd with hd
          subst hd
          exact ⟨c1, by simp; omega, he'.2, hle'⟩)
        refine ⟨ha, fun x => ?_⟩
        rw [hm x, inP, hpe, ← Bool.or_assoc]
        congr 1
        simp only [Option.toList_some, memS, List.any_cons, List.any_nil, Bool.or_false, hasS, Bool.true_and]
        rw [Bool.eq_iff_iff]
        simp
        omega
      · rw [if_neg hce]
        obtain ⟨ha, hm⟩ := gen_spec p (e' :: t) (some ⟨e, e'⟩) (c.f1 + 1) hp.2 (fun z hz => by
          have := hle' z hz
          exact ⟨by omega, (hE' z hz).2⟩) (fun d hd => by
          injection hd with hd
          subst hd
          exact ⟨by simp; omega, hee, he'.2, hle'⟩)
        refine ⟨⟨c1, c2, c3, ha⟩, fun x => ?_⟩
        rw [memS_cons, hm x, inP, hpe]
        simp [memS, hasS]
    · rw [if_neg hpe]
      obtain ⟨ha, hm⟩ := gen_spec p (e' :: t) (some c) lo hp.2 hE' (fun d hd => by
        injection hd with hd
        subst hd
        exact ⟨c1, c2, c3, fun z hz => c4 z (List.mem_cons_of_mem _ hz)⟩)
      refine ⟨ha, fun x => ?_⟩
      rw [hm x, inP, Bool.eq_false_iff.2 hpe]
      simp
/-- Between two ends that follow one another all numbers are alike. -/
theorem floor_mem (l : List S32) (e e' x : Int) (h : ∀ s ∈ l, (s.f0 ≤ e ∨ e' ≤ s.f0) ∧ (s.f1 ≤ e ∨ e' ≤ s.f1)) (h1 : e ≤ x) (h2 : x < e') : memS l x = memS l e := by
  rw [Bool.eq_iff_iff, memS_iff, memS_iff]
  constructor
  · rintro ⟨s, hs, hx⟩
    have := h s hs
    exact ⟨s, hs, by omega⟩
  · rintro ⟨s, hs, hx⟩
    have := h s hs
    exact ⟨s, hs, by omega⟩
theorem inP_floor (q : Bool → Bool → Bool) (hq : q false false = false) (a b : List S32) : ∀ (E : List Int), E.Pairwise (· < ·) → E ≠ [] →
    (∀ s, s ∈ a ∨ s ∈ b → (s.f0 ∈ E ∨ ∀ z ∈ E, s.f0 ≤ z) ∧ (s.f1 ∈ E ∨ ∀ z ∈ E, s.f1 ≤ z)) → ∀ x, (∃ e ∈ E.head?, e ≤ x) → inP (fun e => q (memS a e) (memS b e)) E x = q (memS a x) (memS b x)
  | [], _, h, _, _, _ => absurd rfl h
  | [e], _, _, h, x, ⟨e0, he0, hx⟩ => by
    simp at he0
    subst he0
    have key : ∀ l : List S32, (∀ s ∈ l, s ∈ a ∨ s ∈ b) → memS l x = false := fun l hl => by
      rw [← Bool.not_eq_true, memS_iff]
      rintro ⟨s, hs, hsx⟩
      have := (h s (hl s hs)).2
      rcases this with this | this
      · simp at this; omega
      · have := this e (List.mem_cons_self); omega
    rw [key a (fun s hs => .inl hs), key b (fun s hs => .inr hs), hq]
    rfl
  | e :: e' :: t, hp, _, h, x, ⟨e0, he0, hx⟩ => by
    simp at he0
    subst he0
    rw [List.pairwise_cons] at hp
    have hlow : ∀ z ∈ e' :: t, e' ≤ z := fun z hz => by
      rcases List.mem_cons.1 hz with rfl | hz
      · exact Int.le_refl _
      · have := (List.pairwise_cons.1 hp.2).1 z hz
        exact Int.le_of_lt this
    have hee := hp.1 e' (List.mem_cons_self)
    have side : ∀ v : Int, (v ∈ e :: e' :: t ∨ ∀ z ∈ e :: e' :: t, v ≤ z) → v ≤ e ∨ e' ≤ v := fun v hv => by
      rcases hv with hv | hv
      · rcases List.mem_cons.1 hv with rfl | hv
        · exact .inl (Int.le_refl _)
        · exact .inr (hlow v hv)
      · exact .inl (hv e (List.mem_cons_self))
    rw [inP]
    by_cases hx' : x < e'
    · rw [inP_low _ (e' :: t) x (fun z hz => by have := hlow z hz; omega), decide_eq_true hx, decide_eq_true hx']
      rw [floor_mem a e e' x (fun s hs => ⟨side _ (h s (.inl hs)).1, side _ (h s (.inl hs)).2⟩) hx hx', floor_mem b e e' x (fun s hs => ⟨side _ (h s (.inr hs)).1, side _ (h s (.inr hs)).2⟩) hx hx']
      simp
    · rw [decide_eq_false hx', Bool.and_false, Bool.and_false, Bool.false_or]
      refine inP_floor q hq a b (e' :: t) hp.2 (by simp) (fun s hs => ?_) x ⟨e', by simp, by omega⟩
      have step : ∀ v : Int, (v ∈ e :: e' :: t ∨ ∀ z ∈ e :: e' :: t, v ≤ z) → v ∈ e' :: t ∨ ∀ z ∈ e' :: t, v ≤ z := fun v hv => by
        rcases hv with hv | hv
        · rcases List.mem_cons.1 hv with rfl | hv
          · exact .inr (fun z hz => Int.le_of_lt (hp.1 z hz))
          · exact .inl hv
        · exact .inr (fun z hz => hv z (List.mem_cons_of_mem _ hz))
      exact ⟨step _ (h s hs).1, step _ (h s hs).2⟩
/-- WHAT THE PIECES COME TO. -/
theorem inP_ends (q : Bool → Bool → Bool) (hq : q false false = false) (a b : List S32) (hv : ∀ s, s ∈ a ∨ s ∈ b → s.f0 < s.f1) (E : List Int) (hp : E.Pairwise (· < ·)) (hE : ∀ s, s ∈ a ∨ s ∈ b → s.f0 ∈ E ∧ s.f1 ∈ E) (x : Int) :
    inP (fun e => q (memS a e) (memS b e)) E x = q (memS a x) (memS b x) := by
  have low : (∀ e ∈ E, x < e) → inP (fun e => q (memS a e) (memS b e)) E x = q (memS a x) (memS b x) := fun hlow => by
    have key : ∀ l : List S32, (∀ s ∈ l, s ∈ a ∨ s ∈ b) → memS l x = false := fun l hl => by
      rw [← Bool.not_eq_true, memS_iff]
      rintro ⟨s, hs, hsx⟩
      have := hlow _ (hE s (hl s hs)).1
      omega
    rw [inP_low _ E x hlow, key a (fun s hs => .inl hs), key b (fun s hs => .inr hs), hq]
  rcases E with _ | ⟨e, t⟩
  · exact low (fun e he => absurd he (by simp))
  · by_cases hx : e ≤ x
    · exact inP_floor q hq a b (e :: t) hp (by simp) (fun s hs => ⟨.inl (hE s hs).1, .inl (hE s hs).2⟩) x ⟨e, by simp, hx⟩
    · refine low (fun z hz => ?_)
      rcases List.mem_cons.1 hz with rfl | hz
      · omega
      · have := (List.pairwise_cons.1 hp).1 z hz
        omega
def keepsB (kind : Int) (a b : Bool) : Bool := if kind = 0 then a || b else if kind = 1 then a && b else a && !b
theorem keepsB_ff (kind : Int) : keepsB kind false false = false := by
  unfold keepsB
  by_cases h0 : kind = 0 <;> by_cases h1 : kind = 1 <;> simp [h0, h1]
end Go.Proofs.Ytningpmoojnomaa.Pr
end
section
namespace Go.Proofs.Ytningpmoojnomaa.Pr
open Go.RowKit Go.Proofs.YtningpmoojnomaaW.PrintWords Go.Proofs.YtningpmoojnomaaW.PrintLast Go.Proofs.YtningpmoojnomaaW.PrintMore
set_option linter.unusedVariables false
set_option linter.unusedSimpArgs false
def keepP (kind : Int) (a b : List S32) (e : Int) : Bool := keepsB kind (memS a e) (memS b e)
theorem drop2 (E : List Int) (i : Nat) (h : i + 1 < E.length) : E.drop i = rd E (i : Int) :: rd E ((i + 1 : Nat) : Int) :: E.drop (i + 2) := by
  rw [dropI E i (by omega), dropI E (i + 1) h]
/-- The ends of two lists of spans, ascending. -/
def ends2 (a b : List S32) : List Int := endsL (endsL [] a) b
def madeL (kind : Int) (a b : List S32) : List S32 := gen (keepP kind a b) (ends2 a b) none
/-- WHAT MADE IS: ascending, with the numbers that the kind keeps. -/
theorem made_spec (kind : Int) (a b : List S32) (hv : ∀ s, s ∈ a ∨ s ∈ b → -1099511627776 ≤ s.f0 ∧ s.f0 < s.f1 ∧ s.f1 ≤ 1099511627776) :
    Asc (-1099511627776) (madeL kind a b) ∧ ∀ x, memS (madeL kind a b) x = keepsB kind (memS a x) (memS b x) := by
  obtain ⟨p1, m1, n1⟩ := endsL_spec a [] List.Pairwise.nil
  obtain ⟨p2, m2, n2⟩ := endsL_spec b _ p1
  have hin : ∀ z ∈ ends2 a b, -1099511627776 ≤ z ∧ z ≤ 1099511627776 := fun z hz => by
    rcases (m2 z).1 hz with hz | ⟨s, hs, hz⟩
    · rcases (m1 z).1 hz with hz | ⟨s, hs, hz⟩
      · cases hz
      · have := hv s (.inl hs); rcases hz with rfl | rfl <;> omega
    · have := hv s (.inr hs); rcases hz with rfl | rfl <;> omega
  obtain ⟨ha, hm⟩ := gen_spec (keepP kind a b) (ends2 a b) none (-1099511627776) p2 hin (fun c hc => by cases hc)
  refine ⟨ha, fun x => ?_⟩
  show memS (gen _ _ none) x = _
  rw [hm x]
  have := inP_ends (keepsB kind) (keepsB_ff kind) a b (fun s hs => (hv s hs).2.1) (ends2 a b) p2 (fun s hs => by
    rcases hs with hs | hs
    · exact ⟨(m2 _).2 (.inl ((m1 _).2 (.inr ⟨s, hs, .inl rfl⟩))), (m2 _).2 (.inl ((m1 _).2 (.inr ⟨s, hs, .inr rfl⟩)))⟩
    · exact ⟨(m2 _).2 (.inr ⟨s, hs, .inl rfl⟩), (m2 _).2 (.inr ⟨s, hs, .inr rfl⟩)⟩) x
  simp only [Option.toList_none]
  rw [show memS [] x = false from rfl, Bool.false_or]
  exact this
/-- What is said of a list of spans: 3 too long, 2 not good, 0. -/
def listR (l : List S32) : Int := if l.length > 128 then 3 else if l.any (fun x => !goodS x) then 2 else 0
theorem listed_f (l : List S32) : span_listed.f l = some (listR l) := by
  unfold span_listed.f listR
  by_cases h : l.length > 128
  · rw [if_pos h, if_pos h]
  · rw [if_neg h, if_neg h]
    cases l.any (fun x => !goodS x) <;> rfl
theorem listR_good {l : List S32} (h : listR l = 0) : l.length ≤ 128 ∧ ∀ s ∈ l, -1099511627776 ≤ s.f0 ∧ s.f0 < s.f1 ∧ s.f1 ≤ 1099511627776 := by
  unfold listR at h
  by_cases h1 : l.length > 128
  · rw [if_pos h1] at h; omega
  · rw [if_neg h1] at h
    by_cases h2 : l.any (fun x => !goodS x) = true
    · rw [if_pos h2] at h; omega
    · refine ⟨by omega, fun s hs => ?_⟩
      rw [← goodS_iff]
      simp only [List.any_eq_true, Bool.not_eq_true'] at h2
      exact Decidable.byContradiction fun hc => h2 ⟨s, hs, Bool.eq_false_iff.2 hc⟩
/-- OF, OF BOTH. -/
def ofL (l : List S32) : List S32 := madeL 0 l []
def ofR (l : List S32) : List S32 × Int := if listR l = 0 then (ofL l, 0) else ([], listR l)
theorem memS_nil (x : Int) : memS [] x = false := rfl
theorem ofL_spec {l : List S32} (h : listR l = 0) : Asc (-1099511627776) (ofL l) ∧ ∀ x, memS (ofL l) x = memS l x := by
  obtain ⟨ha, hm⟩ := made_spec 0 l [] (fun s hs => by
    rcases hs with hs | hs
    · exact (listR_good h).2 s hs
    · cases hs)
  exact ⟨ha, fun x => by rw [ofL, hm x, memS_nil]; simp [keepsB]⟩
theorem jn_of {l : List S32} (h : listR l = 0) : jn (sortLo l) none = ofL l := by
  obtain ⟨hl, hg⟩ := listR_good h
  obtain ⟨ha, hm⟩ := jn_spec (sortLo l) none (-1099511627776) (sortLo_pairwise l) (fun s hs => hg s ((sortLo_perm l).mem_iff.1 hs)) (fun c hc => by cases hc)
  obtain ⟨ha', hm'⟩ := ofL_spec h
  refine canon _ _ _ _ ha ha' (fun x => ?_)
  rw [hm x, hm' x, memS_perm (sortLo_perm l) x]
  rfl
theorem clone_f {l : List S32} (h : l.length ≤ 128) : clone_Span.f l = some l := by unfold clone_Span.f; rw [if_pos (by omega)]
theorem spanOf_ev (l : List S32) : Ev (fun k => span_Of.f k l) (ofR l) := by
  unfold span_Of.f ofR
  rw [listed_f]
  simp only [Option.bind_some]
  by_cases h : listR l = 0
  · have := (listR_good h).1
    simp only [if_pos h, clone_f this, Option.bind_some]
    have hj := joined_ev (sortLo l) (by rw [sortLo_length]; omega)
    rw [jn_of h] at hj
    exact Ev.bind hj (Ev.now _)
  · simp only [if_neg h]
    exact Ev.now _
/-- An ascending list of at most 128 spans is a set. -/
theorem validFrom_of_asc (l : List S32) : ∀ (d i : Nat), l.length - i = d → Asc (if i = 0 then -1099511627776 else (l.getD (i - 1) z32).f1 + 1) (l.drop i) → -1099511627776 ≤ (if i = 0 then -1099511627776 else (l.getD (i - 1) z32).f1 + 1) → validFrom l i = true
  | 0, i, h, _, _ => validFrom_end l i (by omega)
  | d + 1, i, h, ha, hlo => by
    have hi : i < l.length := by omega
    rw [drop_cons l i hi] at ha
    obtain ⟨h1, h2, h3, h4⟩ := ha
    rw [validFrom_step l i hi, validFrom_of_asc l d (i + 1) (by omega) (by rw [if_neg (by omega)]; exact h4) (by rw [if_neg (by omega)]; simp only [Nat.add_sub_cancel]; omega)]
    unfold okAt
    rw [(goodS_iff _).2 ⟨by omega, h2, h3⟩]
    by_cases h0 : i = 0
    · simp [h0]
    · rw [if_neg h0] at h1
      rw [show decide ((l.getD (i - 1) z32).f1 < (l.getD i z32).f0) = true from decide_eq_true (by omega)]
      simp
theorem valid_of_asc {l : List S32} (hn : l.length ≤ 128) (h : Asc (-1099511627776) l) : validS l = true := by
  unfold validS
  rw [validFrom_of_asc l _ 0 rfl h (by simp)]
  simp [hn]
theorem ofL_valid {l : List S32} (h : listR l = 0) : validS (ofL l) = true := by
  refine valid_of_asc ?_ (ofL_spec h).1
  rw [← jn_of h]
  have := jn_len (sortLo l) none
  have := (listR_good h).1
  have := sortLo_length l
  simp at *
  omega
end Go.Proofs.Ytningpmoojnomaa.Pr
end
section
namespace Go.Proofs.Ytningpmoojnomaa.Pr
open Go.RowKit Go.Proofs.YtningpmoojnomaaW.PrintWords Go.Proofs.YtningpmoojnomaaW.PrintLast Go.Proofs.YtningpmoojnomaaW.PrintMore
attribute [local go_sem] max2_int min2_int max_two min_two max_three min_three max_four min_four
set_option linter.unusedVariables false
set_option linter.unusedSimpArgs false
def growS (r : Int) (x : S32) : S32 := ⟨mx (wrap64 (x.f0 - r)) (-1099511627776), mn (wrap64 (x.f1 + r)) 1099511627776⟩
def growN (r : Int) (l : List S32) (k : Nat) : List S32 := (l.take k).map (growS r) ++ l.drop k
theorem growN_length (r : Int) (l : List S32) (k : Nat) : (growN r l k).length = l.length := by
  unfold growN
  simp
  omega
theorem growN_get (r : Int) (l : List S32) (k : Nat) (h : k < l.length) : rd_T32 (growN r l k) (k : Int) = l.getD k z32 := by
  unfold growN rd_T32
  rw [Int.toNat_natCast]
  simp only [List.getD_eq_getElem?_getD]
  rw [List.getElem?_append_right (by simp; omega)]
  simp [Nat.min_eq_left (Nat.le_of_lt h)]
theorem growN_set (r : Int) (l : List S32) (k : Nat) (h : k < l.length) : (growN r l k).set k (growS r (l.getD k z32)) = growN r l (k + 1) := by
  unfold growN
  rw [List.set_append_right _ _ (by simp; omega)]
  rw [List.take_succ_eq_append_getElem h, List.map_append, List.append_assoc]
  congr 1
  simp only [List.length_map, List.length_take, Nat.min_eq_left (Nat.le_of_lt h), Nat.sub_self]
  rw [show l.getD k z32 = l[k] from by simp [List.getD_eq_getElem?_getD, List.getElem?_eq_getElem h]]
  conv => lhs; rw [List.drop_eq_getElem_cons h]
  rfl
theorem growN_all (r : Int) (l : List S32) : growN r l l.length = l.map (growS r) := by
  unfold growN
  simp
theorem growN_zero (r : Int) (l : List S32) : growN r l 0 = l := by simp [growN]
def span_Grow.f (k : Nat) (l0 : List S32) (a1 : Int) : Option (List S32 × Int) :=
  (span_radius.f k l0 a1).bind fun t => if t = true then (clone_Span.f l0).bind fun o => (span_joined.f k (o.map (growS a1))).bind fun j => some (j, 0) else some ([], 2)
theorem span_Grow.mono : ∀ a0 a1 k, LeO (span_Grow.f k a0 a1) (span_Grow.f (k + 1) a0 a1) := by
  intro a0 a1 k
  unfold span_Grow.f
  refine LeO.bind (span_radius.mono _ _ _) (fun t => LeO.ite (LeO.bind (LeO.refl _) (fun o => LeO.bind (span_joined.mono _ _) (fun _ => LeO.refl _))) (LeO.refl _))
set_option maxHeartbeats 4000000 in
set_option maxRecDepth 100000 in
theorem span_Grow.calls (k : Nat) (A0 : Option Addr) (c0 : Nat) (l0 : List S32) (a1 : Int) (r1 : List S32) (r2 : Int) (w : World) (hr0 : Kd.C k32 w A0 l0.length l0) (hc0 : l0.length ≤ c0) (h : span_Grow.f k l0 a1 = some (r1, r2)) :
    Calls Try.prog 38 #[.slice A0 l0.length c0, .int .i64 a1] w fun e w' => ∃ v0_ : Value, e = .returned (.tuple #[v0_, .int .i64 r2]) ∧ Kd.R k32 32 w' w.heap.size (fun _ => True) v0_ r1 ∧ Below w.heap.size w w' := by
  have hm : l0.length ≤ 9223372036854775807 := hr0.2.1
  have HR0 := Aside0.mk hr0
  have HC0 := Aside0.mk hc0
  have HM := Aside0.mk hm
  clear hr0 hc0 hm
  have hu32 := Try.underlying32
  unfold span_Grow.f at h
  obtain ⟨t, ht, h⟩ := Option.bind_eq_some_iff.mp h
  have HT := Aside0.mk ht
  clear ht
  cases t with
  | false =>
    simp at h
    obtain ⟨rfl, rfl⟩ := h
    go_enter Try.func38, Try.ntmps38
    go_wp2_with (go_at_call 76; refine (span_radius.calls k _ _ l0 a1 false _ HR0.out HC0.out HT.out).mono ?_; rintro e w' ⟨rfl, hb'⟩)
    go_ret2
    exact ⟨_, rfl, Kd.R_nil _ _ _ _ _, hb'⟩
  | true =>
    rw [if_pos rfl] at h
    obtain ⟨o, ho, h⟩ := Option.bind_eq_some_iff.mp h
    obtain ⟨j, hj, h⟩ := Option.bind_eq_some_iff.mp h
    simp at h
    obtain ⟨rfl, rfl⟩ := h
    have HO := Aside0.mk ho
    have eo : o = l0 := by
      unfold clone_Span.f at ho
      split at ho
      · injection ho with ho
        exact ho.symm
      · cases ho
    subst eo
    have HJ := Aside0.mk hj
    clear ho hj
    go_enter Try.func38, Try.ntmps38
    go_wp2_with (go_at_call 76; refine (span_radius.calls k _ _ o a1 true _ HR0.out HC0.out HT.out).mono ?_; rintro e w1 ⟨rfl, hb1⟩)
    have HB1 := Aside0.mk hb1
    clear hb1
    go_wp2_with (go_at_call 65; refine (clone_Span.calls _ _ o o _ (Kd.C_below HR0.out HB1.out) HC0.out HO.out).mono ?_; rintro e w2 ⟨v, rfl, hr2, hb2⟩; obtain ⟨A2, c2, e2⟩ := Kd.R_slice hr2; subst e2)
    have HB2 := Aside0.mk (below_then HB1.out HB1.out.size hb2)
    have HR2 := Aside0.mk (Kd.R_lower hr2 HB1.out.size)
    clear hb2 hr2 HB1
    go_wp2
    go_loopg [17] o.length (fun gg v17 wr => ∃ kk : Nat, kk ≤ o.length ∧ o.length - kk ≤ gg ∧ v17 = .int .i64 kk ∧ Aside0 (Below w.heap.size w wr) ∧ Aside0 (Kd.R k32 32 wr w.heap.size (fun _ => True) (.slice A2 o.length c2) (growN a1 o kk)))
    case atStart => exact ⟨0, Nat.zero_le _, by omega, rfl, HB2, ⟨by rw [growN_zero]; exact HR2.out⟩⟩
    case round =>
      obtain ⟨kk, hkk, hg, rfl, HB, HR⟩ := hrel
      have hm2 := HM.out
      by_cases hlt : kk < o.length
      · have hltz : (kk : Int) < (o.length : Int) := by omega
        have el := growN_length a1 o kk
        obtain ⟨go4, co4, eo4, gb4, gl4, cl4, HG4⟩ := Kd.R_form HR.out (by rw [el]; omega)
        injection eo4 with ea_ en_ ec_
        subst ea_ ec_
        obtain ⟨ce4, hcl4, hM4, hcc4, hfr4⟩ := Kd.R_elem HR.out z32 (kk : Int) (by omega) hltz
        obtain rfl := k32_openM hM4
        have HP := Aside0.mk (Kd.R_seg HR.out (kk : Int) (by omega) hltz (seg := [.int .i64 (growS a1 (o.getD kk z32)).f0, .int .i64 (growS a1 (o.getD kk z32)).f1]) (j := 0) hcl4 hcc4 (show 2 ≤ 2 from by decide) (x' := growS a1 (o.getD kk z32)) (k32_mkM _ _ _ (growS a1 (o.getD kk z32))) (fun _ hk => hk))
        have eg : rd_T32 (growN a1 o kk) (kk : Int) = o.getD kk z32 := growN_get a1 o kk hlt
        have es := growN_set a1 o kk hlt
        rw [show (growN a1 o kk).getD ((kk : Int)).toNat z32 = o.getD kk z32 from eg] at hcc4
        generalize hy : o.getD kk z32 = y at *
        have hx4_0 : wr.cell? ⟨go4, kk * 2, none⟩ = some (.int .i64 y.f0) := hcc4 0 _ rfl
        have hx4_1 : wr.cell? ⟨go4, kk * 2 + 1, none⟩ = some (.int .i64 y.f1) := hcc4 1 _ rfl
        have hf4_0 : wr.frozen? ⟨go4, kk * 2, none⟩ = false := hfr4 0
        have hf4_1 : wr.frozen? ⟨go4, kk * 2 + 1, none⟩ = false := hfr4 1
        have hgl : go4 < wr.heap.size := gl4
        clear hcl4 hcc4 hfr4 hM4 HG4 cl4 en_
        have EG := Aside0.mk eg
        have ES := Aside0.mk es
        have EL := Aside0.mk el
        clear eg es el hy HR HR2
        have fin : ∀ p q : Int, growS a1 y = ⟨p, q⟩ → ∀ nx : Obj,
            Below w.heap.size w (((wr.setCell ⟨go4, kk * 2, none⟩ (.int .i64 p)).setCell ⟨go4, kk * 2 + 1, none⟩ (.int .i64 q)).alloc nx) ∧
            Kd.R k32 32 (((wr.setCell ⟨go4, kk * 2, none⟩ (.int .i64 p)).setCell ⟨go4, kk * 2 + 1, none⟩ (.int .i64 q)).alloc nx) w.heap.size (fun _ => True) (.slice (some ⟨go4, 0, none⟩) o.length c2) (growN a1 o (kk + 1)) := by
          intro p q e nx
          have hp := HP.out
          have es := ES.out
          rw [e] at hp es
          rw [Int.toNat_natCast, es] at hp
          exact ⟨below_alloc (below_set (below_set HB.out gb4) gb4) nx, Kd.R_alloc hp.1 nx⟩
        go_wp2
        all_goals
          go_roundg (o.length - (kk + 1))
          case measure => omega
          case rel =>
            have ff := fin _ _ (by unfold growS mx mn; first | (rw [if_pos (by omega), if_pos (by omega)]) | (rw [if_pos (by omega), if_neg (by omega)]) | (rw [if_neg (by omega), if_pos (by omega)]) | (rw [if_neg (by omega), if_neg (by omega)])) (.cells #[.int .i64 y.f0, .int .i64 y.f1] 32)
            exact ⟨kk + 1, by omega, by omega, by go_num, ⟨ff.1⟩, ⟨ff.2⟩⟩
      · have hltz : ¬ (kk : Int) < (o.length : Int) := by omega
        obtain rfl : kk = o.length := by omega
        rw [growN_all] at HR
        clear HR2
        have hC := fun W h1 h2 => span_joined.calls k A2 c2 (o.map (growS a1)) j W h1 h2 HJ.out
        have hr := Kd.R_reads' HR.out
        rw [List.length_map] at hC hr
        have HC := Aside0.mk hC
        clear hC
        have HRR := Aside0.mk hr
        clear hr
        go_wp2_with (go_at_call 69; refine (HC.out _ HRR.out.2.2 HRR.out.2.1).mono ?_; rintro e w3 ⟨v3, rfl, hr3, hb3⟩; obtain ⟨A3, c3, e3⟩ := Kd.R_slice hr3; subst e3)
        go_ret2
        exact ⟨_, rfl, Kd.R_lower hr3 HB.out.size, below_then HB.out HB.out.size hb3⟩
end Go.Proofs.Ytningpmoojnomaa.Pr
end
