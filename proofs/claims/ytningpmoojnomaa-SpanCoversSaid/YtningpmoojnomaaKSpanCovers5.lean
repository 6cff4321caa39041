/- What the proof of the law needs, trimmed and merged by wip/pack.py out of the texts YtningpmoojnomaaPrx18, YtningpmoojnomaaPrx26, YtningpmoojnomaaMath, YtningpmoojnomaaSetm, YtningpmoojnomaaCov, YtningpmoojnomaaArgs, YtningpmoojnomaaWalkSpanCovers, YtningpmoojnomaaRowSpanCovers. No condition. -/
import Derived.Deep.Slices
import Derived.Deep.Fields
import Derived.ChangeSame
import Derived.Lib.SmallJoins
import Derived.OpenShut
import Derived.Test.YtningpmoojnomaaRows
import Derived.WalkKit
import Derived.ProofKit
import Derived.ShutString
import Derived.ChangeOld
import Derived.Below
import Derived.SizedLaws
import Derived.Test.YtningpmoojnomaaKSpanCovers0
import Derived.Test.YtningpmoojnomaaKSpanCovers1
import Derived.Test.YtningpmoojnomaaKSpanCovers2
import Derived.Test.YtningpmoojnomaaKSpanCovers3
import Derived.Test.YtningpmoojnomaaKSpanCovers4
section
namespace Go.Proofs.Ytningpmoojnomaa.Pr
open Go.RowKit Go.Proofs.YtningpmoojnomaaW.PrintWords Go.Proofs.YtningpmoojnomaaW.PrintLast Go.Proofs.YtningpmoojnomaaW.PrintMore
attribute [local go_sem] max2_int min2_int max_two min_two max_three min_three max_four min_four   -- for this text's walks alone
set_option linter.unusedVariables false
set_option linter.unusedSimpArgs false
mutual
def kimberliteref01_Steps.l0 : Nat → List (S32) → List Int → List Int → Int → Int → Int → Option (List Int × List Int × Int)
 | 0, _, _, _, _, _, _ => none
 | k + 1, x1, x8, x9, x10, x260000, x260001 => if x10 < x260001 then (kimberliteref01_Steps.l1 k x1 x8 x9 x10 (-1) 0 x260000 x260001) else (some (x8, x9, 0))
def kimberliteref01_Steps.l1 : Nat → List (S32) → List Int → List Int → Int → Int → Int → Int → Int → Option (List Int × List Int × Int)
 | 0, _, _, _, _, _, _, _, _ => none
 | k + 1, x1, x8, x9, x10, x11, x12, x260000, x260001 => if x12 < (x1.length : Int) then (if 0 ≤ x12 then (if ((rd_T32 x1 x12).f0) ≤ x10 then (if x10 < ((rd_T32 x1 x12).f1) then (if x11 < 0 then (kimberliteref01_Steps.j2 k x1 x8 x9 x10 x11 x12 true x260000 x260001) else (if 0 ≤ x11 then (if x11 < (x1.length : Int) then (kimberliteref01_Steps.j2 k x1 x8 x9 x10 x11 x12 (decide (((rd_T32 x1 x12).f1) > ((rd_T32 x1 x11).f1))) x260000 x260001) else (none)) else (none))) else (kimberliteref01_Steps.j2 k x1 x8 x9 x10 x11 x12 false x260000 x260001)) else (kimberliteref01_Steps.j2 k x1 x8 x9 x10 x11 x12 false x260000 x260001)) else (none)) else (if x11 < 0 then (some (([] : List Int), ([] : List Int), 10)) else (if x8.length < 17592186044416 then (if x9.length < 17592186044416 then (if 0 ≤ x11 then (if x11 < (x1.length : Int) then (kimberliteref01_Steps.l0 k x1 (x8 ++ [x11]) (x9 ++ [x10]) ((rd_T32 x1 x11).f1) x260000 x260001) else (none)) else (none)) else (none)) else (none)))
def kimberliteref01_Steps.j2 : Nat → List (S32) → List Int → List Int → Int → Int → Int → Bool → Int → Int → Option (List Int × List Int × Int)
 | 0, _, _, _, _, _, _, _, _, _ => none
 | k + 1, x1, x8, x9, x10, x11, x12, x65, x260000, x260001 => if x65 = true then (kimberliteref01_Steps.l1 k x1 x8 x9 x10 x12 (wrap64 (x12 + 1)) x260000 x260001) else (kimberliteref01_Steps.l1 k x1 x8 x9 x10 x11 (wrap64 (x12 + 1)) x260000 x260001)
end
def kimberliteref01_Steps.f (k : Nat) (a0_0 : Int) (a0_1 : Int) (l1 : List (S32)) : Option (List Int × List Int × Int) := (kimberliteref01_Good.f a0_0 a0_1).bind fun t260 => (if t260 = true then ((kimberliteref01_List.f k l1).bind fun t261 => (if t261 = 0 then (kimberliteref01_Steps.l0 k l1 ([] : List Int) ([] : List Int) a0_0 a0_0 a0_1) else (some (([] : List Int), ([] : List Int), t261)))) else (some (([] : List Int), ([] : List Int), 2)))
theorem kimberliteref01_Steps.mono_l : ∀ k, (∀ y0 y1 y2 y3 y4 y5, LeO (kimberliteref01_Steps.l0 k y0 y1 y2 y3 y4 y5) (kimberliteref01_Steps.l0 (k + 1) y0 y1 y2 y3 y4 y5)) ∧ (∀ y0 y1 y2 y3 y4 y5 y6 y7, LeO (kimberliteref01_Steps.l1 k y0 y1 y2 y3 y4 y5 y6 y7) (kimberliteref01_Steps.l1 (k + 1) y0 y1 y2 y3 y4 y5 y6 y7)) ∧ (∀ y0 y1 y2 y3 y4 y5 y6 y7 y8, LeO (kimberliteref01_Steps.j2 k y0 y1 y2 y3 y4 y5 y6 y7 y8) (kimberliteref01_Steps.j2 (k + 1) y0 y1 y2 y3 y4 y5 y6 y7 y8))
 | 0 => ⟨fun _ _ _ _ _ _ r h => by simp [kimberliteref01_Steps.l0] at h, fun _ _ _ _ _ _ _ _ r h => by simp [kimberliteref01_Steps.l1] at h, fun _ _ _ _ _ _ _ _ _ r h => by simp [kimberliteref01_Steps.j2] at h⟩
 | k + 1 => by
  obtain ⟨ih0, ih1, ih2⟩ := kimberliteref01_Steps.mono_l k
  refine ⟨?_, ?_, ?_⟩
  · intro y0 y1 y2 y3 y4 y5
    unfold kimberliteref01_Steps.l0
    repeat' first
    | (with_reducible exact ih0 _ _ _ _ _ _)
    | (with_reducible exact ih1 _ _ _ _ _ _ _ _)
    | (with_reducible exact ih2 _ _ _ _ _ _ _ _ _)
    | (with_reducible exact kimberliteref01_List.mono _ _)
    | (with_reducible exact LeO.refl _)
    | (with_reducible exact LeO.none _)
    | (with_reducible refine LeO.ite ?_ ?_)
    | (with_reducible refine LeO.bind ?_ (fun _ => ?_))
    | exact ih0 _ _ _ _ _ _
    | exact ih1 _ _ _ _ _ _ _ _
    | exact ih2 _ _ _ _ _ _ _ _ _
    | exact kimberliteref01_List.mono _ _
    | exact LeO.none _
    | refine LeO.ite ?_ ?_
    | refine LeO.bind ?_ (fun _ => ?_)
  · intro y0 y1 y2 y3 y4 y5 y6 y7
    unfold kimberliteref01_Steps.l1
    repeat' first
    | (with_reducible exact ih0 _ _ _ _ _ _)
    | (with_reducible exact ih1 _ _ _ _ _ _ _ _)
    | (with_reducible exact ih2 _ _ _ _ _ _ _ _ _)
    | (with_reducible exact kimberliteref01_List.mono _ _)
    | (with_reducible exact LeO.refl _)
    | (with_reducible exact LeO.none _)
    | (with_reducible refine LeO.ite ?_ ?_)
    | (with_reducible refine LeO.bind ?_ (fun _ => ?_))
    | exact ih0 _ _ _ _ _ _
    | exact ih1 _ _ _ _ _ _ _ _
    | exact ih2 _ _ _ _ _ _ _ _ _
    | exact kimberliteref01_List.mono _ _
    | exact LeO.none _
    | refine LeO.ite ?_ ?_
    | refine LeO.bind ?_ (fun _ => ?_)
  · intro y0 y1 y2 y3 y4 y5 y6 y7 y8
    unfold kimberliteref01_Steps.j2
    repeat' first
    | (with_reducible exact ih0 _ _ _ _ _ _)
    | (with_reducible exact ih1 _ _ _ _ _ _ _ _)
    | (with_reducible exact ih2 _ _ _ _ _ _ _ _ _)
    | (with_reducible exact kimberliteref01_List.mono _ _)
    | (with_reducible exact LeO.refl _)
    | (with_reducible exact LeO.none _)
    | (with_reducible refine LeO.ite ?_ ?_)
    | (with_reducible refine LeO.bind ?_ (fun _ => ?_))
    | exact ih0 _ _ _ _ _ _
    | exact ih1 _ _ _ _ _ _ _ _
    | exact ih2 _ _ _ _ _ _ _ _ _
    | exact kimberliteref01_List.mono _ _
    | exact LeO.none _
    | refine LeO.ite ?_ ?_
    | refine LeO.bind ?_ (fun _ => ?_)
theorem kimberliteref01_Steps.mono : ∀ a0 a1 a2 k, LeO (kimberliteref01_Steps.f k a0 a1 a2) (kimberliteref01_Steps.f (k + 1) a0 a1 a2) := by
 intro a0 a1 a2 k
 obtain ⟨ih0, ih1, ih2⟩ := kimberliteref01_Steps.mono_l k
 unfold kimberliteref01_Steps.f
 repeat' first
  | (with_reducible exact ih0 _ _ _ _ _ _)
  | (with_reducible exact ih1 _ _ _ _ _ _ _ _)
  | (with_reducible exact ih2 _ _ _ _ _ _ _ _ _)
  | (with_reducible exact kimberliteref01_List.mono _ _)
  | (with_reducible exact LeO.refl _)
  | (with_reducible exact LeO.none _)
  | (with_reducible refine LeO.ite ?_ ?_)
  | (with_reducible refine LeO.bind ?_ (fun _ => ?_))
  | exact ih0 _ _ _ _ _ _
  | exact ih1 _ _ _ _ _ _ _ _
  | exact ih2 _ _ _ _ _ _ _ _ _
  | exact kimberliteref01_List.mono _ _
  | exact LeO.none _
  | refine LeO.ite ?_ ?_
  | refine LeO.bind ?_ (fun _ => ?_)
set_option maxHeartbeats 8000000 in
set_option maxRecDepth 100000 in
theorem kimberliteref01_Steps.calls (k : Nat) (a0_0 : Int) (a0_1 : Int) (A1 : Option Addr) (c1 : Nat) (l1 : List (S32)) (r1 : List Int) (r2 : List Int) (r3 : Int) (w : World) (hr1 : Kd.C k32 w A1 l1.length l1) (hc1 : l1.length ≤ c1) (h : kimberliteref01_Steps.f k a0_0 a0_1 l1 = some (r1, r2, r3)) :
 Calls Try.prog 27 #[.agg #[.int .i64 a0_0, .int .i64 a0_1], .slice A1 l1.length c1] w fun e w' => ∃ v0_ v1_ : Value, e = .returned (.tuple #[v0_, v1_, .int .i64 r3]) ∧ Kd.R (Kd.int .i64) 3 w' w.heap.size (fun k_ => some k_ ≠ (v1_ : Value).ownBlock) v0_ r1 ∧ Kd.R (Kd.int .i64) 3 w' w.heap.size (fun k_ => some k_ ≠ (v0_ : Value).ownBlock) v1_ r2 ∧ Below w.heap.size w w' := by
 have hu32 := Try.underlying32
 have HR1 := Aside0.mk hr1
 have HC1 := Aside0.mk hc1
 clear hr1 hc1
 have HB := Aside0.mk (Below.refl w.heap.size w)
 have H : ((kimberliteref01_Good.f a0_0 a0_1).bind fun t260 => (if t260 = true then ((kimberliteref01_List.f k l1).bind fun t261 => (if t261 = 0 then (kimberliteref01_Steps.l0 k l1 ([] : List Int) ([] : List Int) a0_0 a0_0 a0_1) else (some (([] : List Int), ([] : List Int), t261)))) else (some (([] : List Int), ([] : List Int), 2)))) = some (r1, r2, r3) := h
 clear h
 replace H := Option.bind_eq_some_iff.mp H
 obtain ⟨t260, A30, H⟩ := H
 replace H : (if t260 = true then ((kimberliteref01_List.f k l1).bind fun t261 => (if t261 = 0 then (kimberliteref01_Steps.l0 k l1 ([] : List Int) ([] : List Int) a0_0 a0_0 a0_1) else (some (([] : List Int), ([] : List Int), t261)))) else (some (([] : List Int), ([] : List Int), 2))) = some (r1, r2, r3) := H
 have A3 := Aside0.mk A30
 clear A30
 by_cases c4 : t260 = true
 · subst c4
   have H1 : ((kimberliteref01_List.f k l1).bind fun t261 => (if t261 = 0 then (kimberliteref01_Steps.l0 k l1 ([] : List Int) ([] : List Int) a0_0 a0_0 a0_1) else (some (([] : List Int), ([] : List Int), t261)))) = some (r1, r2, r3) := by rw [if_pos rfl] at H; exact H
   clear H
   have H := H1
   clear H1
   replace H := Option.bind_eq_some_iff.mp H
   obtain ⟨t261, A50, H⟩ := H
   replace H : (if t261 = 0 then (kimberliteref01_Steps.l0 k l1 ([] : List Int) ([] : List Int) a0_0 a0_0 a0_1) else (some (([] : List Int), ([] : List Int), t261))) = some (r1, r2, r3) := H
   have A5 := Aside0.mk A50
   clear A50
   by_cases c6 : t261 = 0
   · rw [if_pos c6] at H
     have c6b0 : (t261 == 0) = true := beq_iff_eq.mpr c6
     have c6b1 : (t261 != 0) = false := bne_eq_false_iff_eq.mpr c6
     clear c6
     have H' := Aside0.mk H
     clear H
     go_enter Try.func27, Try.ntmps27
     go_wp2_with (first | ((with_reducible refine gate_dst (N := 2) rfl ?_); refine box_event ?hg (N := 2) ?hd (cs := #[.int .i64 a0_0, .int .i64 a0_1]) (t := 32) ?hr ?_; (case hd => rfl); (case hg => rfl); (case hr => first | (go_simp; done) | (go_simp; rfl)); intro gb259 hg w7 hbox hb; have n0_ := Aside0.mk (below_step (by repeat (first | (with_reducible first | exact HB.out | apply below_alloc | apply pw_below_drewN | apply below_drew1) | exact HB.out)) hb); have n1_ := Aside0.mk (hbox); have n2_ := Aside0.mk ((by rw [hg]; exact (below_size (by repeat (first | (with_reducible first | exact HB.out | apply below_alloc | apply pw_below_drewN | apply below_drew1) | exact HB.out))) : w.heap.size ≤ gb259)); have n3_ := Aside0.mk ((by rw [hg]; exact (below_size (by repeat (first | (with_reducible first | exact HB.out | apply below_alloc | apply pw_below_drewN | apply below_drew1) | exact HB.out))) : w.heap.size ≤ gb259)); clear HB; have HB := n0_; have BK259 := n1_; have GW259 := n2_; have GE259 := n3_; clear n0_ n1_ n2_ n3_; clear hb hbox hg; have hcz8_0 : w7.cell? ⟨gb259, 0, none⟩ = some (.int .i64 a0_0) := (blk_cell BK259.out 0).trans rfl; have hcz8_1 : w7.cell? ⟨gb259, 1, none⟩ = some (.int .i64 a0_1) := (blk_cell BK259.out 1).trans rfl; have hfz8_0 := blk_frozen BK259.out 0; have hfz8_1 := blk_frozen BK259.out 1) | (go_at_call 71; (with_reducible refine (kimberliteref01_Good.calls a0_0 a0_1 true _ A3.out).mono ?_); rintro e w9 ⟨rfl, hb⟩; have n0_ := Aside0.mk (blk_below (g := gb259) (o := .cells #[.int .i64 a0_0, .int .i64 a0_1] 32 (0, 0)) (by (with_reducible repeat (first | refine blk_drewN ?_ _ | refine blk_drew ?_ | refine blk_alloc ?_ _)); exact BK259.out) hb); have n1_ := Aside0.mk (below_step (by repeat (first | (with_reducible first | exact HB.out | apply below_alloc | apply pw_below_drewN | apply below_drew1 | refine below_set ?_ GE259.out) | exact HB.out)) hb); clear BK259; clear HB; have BK259 := n0_; have HB := n1_; clear n0_ n1_; (try clear hb); (try clear hb2); (try clear hk); (try clear hi)) | (go_at_call 62; (with_reducible refine (kimberliteref01_List.calls k _ _ l1 t261 _ ?side1 ?side2 A5.out).mono ?_); (case side1 => repeat (first | exact (Kd.C_below HR1.out HB.out) | (with_reducible refine Kd.C_alloc ?_ _) | (with_reducible refine Kd.C_drewN ?_ _) | (with_reducible refine Kd.C_drew ?_))); (case side2 => exact HC1.out); rintro e w10 ⟨rfl, hb⟩; have n0_ := Aside0.mk (blk_below (g := gb259) (o := .cells #[.int .i64 a0_0, .int .i64 a0_1] 32 (0, 0)) (by (with_reducible repeat (first | refine blk_drewN ?_ _ | refine blk_drew ?_ | refine blk_alloc ?_ _)); exact BK259.out) hb); have n1_ := Aside0.mk (below_step (by repeat (first | (with_reducible first | exact HB.out | apply below_alloc | apply pw_below_drewN | apply below_drew1 | refine below_set ?_ GE259.out) | exact HB.out)) hb); clear BK259; clear HB; have BK259 := n0_; have HB := n1_; clear n0_ n1_; (try clear hb); (try clear hb2); (try clear hk); (try clear hi); have hcz11_0 : w10.cell? ⟨gb259, 0, none⟩ = some (.int .i64 a0_0) := (blk_cell BK259.out 0).trans rfl; have hcz11_1 : w10.cell? ⟨gb259, 1, none⟩ = some (.int .i64 a0_1) := (blk_cell BK259.out 1).trans rfl; have hfz11_0 := blk_frozen BK259.out 0; have hfz11_1 := blk_frozen BK259.out 1))
     repeat (go_quiet (first | (go_at_call 71; (with_reducible refine (kimberliteref01_Good.calls a0_0 a0_1 true _ A3.out).mono ?_); rintro e w9 ⟨rfl, hb⟩; have n0_ := Aside0.mk (blk_below (g := gb259) (o := .cells #[.int .i64 a0_0, .int .i64 a0_1] 32 (0, 0)) (by (with_reducible repeat (first | refine blk_drewN ?_ _ | refine blk_drew ?_ | refine blk_alloc ?_ _)); exact BK259.out) hb); have n1_ := Aside0.mk (below_step (by repeat (first | (with_reducible first | exact HB.out | apply below_alloc | apply pw_below_drewN | apply below_drew1 | refine below_set ?_ GE259.out) | exact HB.out)) hb); clear BK259; clear HB; have BK259 := n0_; have HB := n1_; clear n0_ n1_; (try clear hb); (try clear hb2); (try clear hk); (try clear hi)) | (go_at_call 62; (with_reducible refine (kimberliteref01_List.calls k _ _ l1 t261 _ ?side1 ?side2 A5.out).mono ?_); (case side1 => repeat (first | exact (Kd.C_below HR1.out HB.out) | (with_reducible refine Kd.C_alloc ?_ _) | (with_reducible refine Kd.C_drewN ?_ _) | (with_reducible refine Kd.C_drew ?_))); (case side2 => exact HC1.out); rintro e w10 ⟨rfl, hb⟩; have n0_ := Aside0.mk (blk_below (g := gb259) (o := .cells #[.int .i64 a0_0, .int .i64 a0_1] 32 (0, 0)) (by (with_reducible repeat (first | refine blk_drewN ?_ _ | refine blk_drew ?_ | refine blk_alloc ?_ _)); exact BK259.out) hb); have n1_ := Aside0.mk (below_step (by repeat (first | (with_reducible first | exact HB.out | apply below_alloc | apply pw_below_drewN | apply below_drew1 | refine below_set ?_ GE259.out) | exact HB.out)) hb); clear BK259; clear HB; have BK259 := n0_; have HB := n1_; clear n0_ n1_; (try clear hb); (try clear hb2); (try clear hk); (try clear hi); have hcz11_0 : w10.cell? ⟨gb259, 0, none⟩ = some (.int .i64 a0_0) := (blk_cell BK259.out 0).trans rfl; have hcz11_1 : w10.cell? ⟨gb259, 1, none⟩ = some (.int .i64 a0_1) := (blk_cell BK259.out 1).trans rfl; have hfz11_0 := blk_frozen BK259.out 0; have hfz11_1 := blk_frozen BK259.out 1)); try go_wp2_with (first | ((with_reducible refine gate_dst (N := 2) rfl ?_); refine box_event ?hg (N := 2) ?hd (cs := #[.int .i64 a0_0, .int .i64 a0_1]) (t := 32) ?hr ?_; (case hd => rfl); (case hg => rfl); (case hr => first | (go_simp; done) | (go_simp; rfl)); intro gb259 hg w7 hbox hb; have n0_ := Aside0.mk (below_step (by repeat (first | (with_reducible first | exact HB.out | apply below_alloc | apply pw_below_drewN | apply below_drew1) | exact HB.out)) hb); have n1_ := Aside0.mk (hbox); have n2_ := Aside0.mk ((by rw [hg]; exact (below_size (by repeat (first | (with_reducible first | exact HB.out | apply below_alloc | apply pw_below_drewN | apply below_drew1) | exact HB.out))) : w.heap.size ≤ gb259)); have n3_ := Aside0.mk ((by rw [hg]; exact (below_size (by repeat (first | (with_reducible first | exact HB.out | apply below_alloc | apply pw_below_drewN | apply below_drew1) | exact HB.out))) : w.heap.size ≤ gb259)); clear HB; have HB := n0_; have BK259 := n1_; have GW259 := n2_; have GE259 := n3_; clear n0_ n1_ n2_ n3_; clear hb hbox hg; have hcz8_0 : w7.cell? ⟨gb259, 0, none⟩ = some (.int .i64 a0_0) := (blk_cell BK259.out 0).trans rfl; have hcz8_1 : w7.cell? ⟨gb259, 1, none⟩ = some (.int .i64 a0_1) := (blk_cell BK259.out 1).trans rfl; have hfz8_0 := blk_frozen BK259.out 0; have hfz8_1 := blk_frozen BK259.out 1) | (go_at_call 71; (with_reducible refine (kimberliteref01_Good.calls a0_0 a0_1 true _ A3.out).mono ?_); rintro e w9 ⟨rfl, hb⟩; have n0_ := Aside0.mk (blk_below (g := gb259) (o := .cells #[.int .i64 a0_0, .int .i64 a0_1] 32 (0, 0)) (by (with_reducible repeat (first | refine blk_drewN ?_ _ | refine blk_drew ?_ | refine blk_alloc ?_ _)); exact BK259.out) hb); have n1_ := Aside0.mk (below_step (by repeat (first | (with_reducible first | exact HB.out | apply below_alloc | apply pw_below_drewN | apply below_drew1 | refine below_set ?_ GE259.out) | exact HB.out)) hb); clear BK259; clear HB; have BK259 := n0_; have HB := n1_; clear n0_ n1_; (try clear hb); (try clear hb2); (try clear hk); (try clear hi)) | (go_at_call 62; (with_reducible refine (kimberliteref01_List.calls k _ _ l1 t261 _ ?side1 ?side2 A5.out).mono ?_); (case side1 => repeat (first | exact (Kd.C_below HR1.out HB.out) | (with_reducible refine Kd.C_alloc ?_ _) | (with_reducible refine Kd.C_drewN ?_ _) | (with_reducible refine Kd.C_drew ?_))); (case side2 => exact HC1.out); rintro e w10 ⟨rfl, hb⟩; have n0_ := Aside0.mk (blk_below (g := gb259) (o := .cells #[.int .i64 a0_0, .int .i64 a0_1] 32 (0, 0)) (by (with_reducible repeat (first | refine blk_drewN ?_ _ | refine blk_drew ?_ | refine blk_alloc ?_ _)); exact BK259.out) hb); have n1_ := Aside0.mk (below_step (by repeat (first | (with_reducible first | exact HB.out | apply below_alloc | apply pw_below_drewN | apply below_drew1 | refine below_set ?_ GE259.out) | exact HB.out)) hb); clear BK259; clear HB; have BK259 := n0_; have HB := n1_; clear n0_ n1_; (try clear hb); (try clear hb2); (try clear hk); (try clear hi); have hcz11_0 : w10.cell? ⟨gb259, 0, none⟩ = some (.int .i64 a0_0) := (blk_cell BK259.out 0).trans rfl; have hcz11_1 : w10.cell? ⟨gb259, 1, none⟩ = some (.int .i64 a0_1) := (blk_cell BK259.out 1).trans rfl; have hfz11_0 := blk_frozen BK259.out 0; have hfz11_1 := blk_frozen BK259.out 1)))
     go_loopg [8, 9, 10] k (fun kq v8 v9 v10 w' => ∃ (x8_1 : List Int) (x9_1 : List Int) (x10_1 : Int), v10 = .int .i64 x10_1 ∧ Aside0 (kimberliteref01_Steps.l0 kq l1 x8_1 x9_1 x10_1 a0_0 a0_1 = some (r1, r2, r3)) ∧ Aside0 (kq ≤ k) ∧ Aside0 (Kd.R (Kd.int .i64) 3 w' w.heap.size (fun k_ => some k_ ≠ (v9 : Value).ownBlock) v8 x8_1) ∧ Aside0 (Kd.R (Kd.int .i64) 3 w' w.heap.size (fun k_ => some k_ ≠ (v8 : Value).ownBlock) v9 x9_1) ∧ Aside0 (w'.heap[gb259]? = some (.cells #[.int .i64 a0_0, .int .i64 a0_1] 32 (0, 0))) ∧ Aside0 (Below w.heap.size w w'))
     case atStart => exact ⟨(([] : List Int)), (([] : List Int)), (a0_0), (by first | rfl | (simp; done) | (simp [*]; done)), H', ⟨Nat.le_refl _⟩, ⟨by first | exact Kd.R_nil _ _ _ _ _ | exact Kd.N_nil _ _ _ _ _ | exact Kd.V_nil _ _ _ _ _ | exact Kd.Q_nil _ _ _ _ _ | exact Kd.S_nil _ _ _ _ _⟩, ⟨by first | exact Kd.R_nil _ _ _ _ _ | exact Kd.N_nil _ _ _ _ _ | exact Kd.V_nil _ _ _ _ _ | exact Kd.Q_nil _ _ _ _ _ | exact Kd.S_nil _ _ _ _ _⟩, ⟨by (with_reducible repeat (first | refine blk_drewN ?_ _ | refine blk_drew ?_ | refine blk_alloc ?_ _)); exact BK259.out⟩, ⟨by repeat (first | (with_reducible first | exact HB.out | apply below_alloc | apply pw_below_drewN | apply below_drew1 | refine below_set ?_ GE259.out) | exact HB.out)⟩⟩
     case round =>
      clear H'
      try clear c1
      try clear c2
      try clear p2
      try clear c4
      try clear c6
      try clear c6b0
      try clear c6b1
      try clear hcz11_0
      try clear hcz11_1
      try clear hcz8_0
      try clear hcz8_1
      try clear hfz11_0
      try clear hfz11_1
      try clear hfz8_0
      try clear hfz8_1
      obtain ⟨x8_1, x9_1, x10_1, rfl, HA, HK1, HO_8, HO_9, BK259, HB⟩ := hrel
      cases gk with
      | zero => exact absurd HA.out (by simp [kimberliteref01_Steps.l0])
      | succ k1 =>
       have H := HA.out
       clear HA
       simp only [kimberliteref01_Steps.l0] at H
       by_cases c12 : x10_1 < a0_1
       · rw [if_pos c12] at H
         have c12b0 : decide (x10_1 < a0_1) = true := decide_eq_true c12
         clear c12
         have H' := Aside0.mk H
         clear H
         have hcz13_0 : wr.cell? ⟨gb259, 0, none⟩ = some (.int .i64 a0_0) := (blk_cell BK259.out 0).trans rfl
         have hcz13_1 : wr.cell? ⟨gb259, 1, none⟩ = some (.int .i64 a0_1) := (blk_cell BK259.out 1).trans rfl
         have hfz13_0 := blk_frozen BK259.out 0
         have hfz13_1 := blk_frozen BK259.out 1
         go_wp2
         repeat (go_quiet (fail); try go_wp2)
         go_loopg [11, 12] k1 (fun kq v11 v12 w' => ∃ (x11_2 : Int) (x12_2 : Int), v11 = .int .i64 x11_2 ∧ v12 = .int .i64 x12_2 ∧ Aside0 (kimberliteref01_Steps.l1 kq l1 x8_1 x9_1 x10_1 x11_2 x12_2 a0_0 a0_1 = some (r1, r2, r3)) ∧ Aside0 (kq ≤ k1) ∧ Aside0 (Kd.R (Kd.int .i64) 3 w' w.heap.size (fun k_ => some k_ ≠ (u9 : Value).ownBlock) u8 x8_1) ∧ Aside0 (Kd.R (Kd.int .i64) 3 w' w.heap.size (fun k_ => some k_ ≠ (u8 : Value).ownBlock) u9 x9_1) ∧ Aside0 (w'.heap[gb259]? = some (.cells #[.int .i64 a0_0, .int .i64 a0_1] 32 (0, 0))) ∧ Aside0 (Below w.heap.size w w'))
         case atStart => exact ⟨((-1)), (0), (by first | rfl | (simp; done) | (simp [*]; done)), (by first | rfl | (simp; done) | (simp [*]; done)), H', ⟨Nat.le_refl _⟩, ⟨by (with_reducible repeat (first | apply Kd.R_alloc | apply Kd.R_drewN | apply Kd.R_drew)); exact HO_8.out⟩, ⟨by (with_reducible repeat (first | apply Kd.R_alloc | apply Kd.R_drewN | apply Kd.R_drew)); exact HO_9.out⟩, ⟨by (with_reducible repeat (first | refine blk_drewN ?_ _ | refine blk_drew ?_ | refine blk_alloc ?_ _)); exact BK259.out⟩, ⟨by repeat (first | (with_reducible first | exact HB.out | apply below_alloc | apply pw_below_drewN | apply below_drew1 | refine below_set ?_ GE259.out) | exact HB.out)⟩⟩
         case round =>
          clear H'
          try clear c1
          try clear c2
          try clear p2
          try clear c4
          try clear c6
          try clear c6b0
          try clear c6b1
          try clear c12
          try clear c12b0
          try clear hcz11_0
          try clear hcz11_1
          try clear hcz13_0
          try clear hcz13_1
          try clear hcz8_0
          try clear hcz8_1
          try clear hfz11_0
          try clear hfz11_1
          try clear hfz13_0
          try clear hfz13_1
          try clear hfz8_0
          try clear hfz8_1
          try clear p2
          obtain ⟨x11_2, x12_2, rfl, rfl, HA, HK2, HO_8, HO_9, BK259, HB⟩ := hrel
          cases gk with
          | zero => exact absurd HA.out (by simp [kimberliteref01_Steps.l1])
          | succ k2 =>
           have H := HA.out
           clear HA
           simp only [kimberliteref01_Steps.l1] at H
           by_cases c14 : x12_2 < (l1.length : Int)
           · rw [if_pos c14] at H
             have c14b0 : decide (x12_2 < (l1.length : Int)) = true := decide_eq_true c14
             clear c14
             have HC15 := Aside0.mk H
             clear H
             go_upto_region 13 with (fail)
             repeat (go_quiet (fail); go_upto_region 13 with (fail))
             go_cut [65] (fun v65 wc => ∃ (kq : Nat) (x65_14 : Bool), v65 = .bool x65_14 ∧ Aside0 (kimberliteref01_Steps.j2 kq l1 x8_1 x9_1 x10_1 x11_2 x12_2 x65_14 a0_0 a0_1 = some (r1, r2, r3)) ∧ Aside0 (kq ≤ k2) ∧ Aside0 (Kd.R (Kd.int .i64) 3 wc w.heap.size (fun k_ => some k_ ≠ (u9 : Value).ownBlock) u8 x8_1) ∧ Aside0 (Kd.R (Kd.int .i64) 3 wc w.heap.size (fun k_ => some k_ ≠ (u8 : Value).ownBlock) u9 x9_1) ∧ Aside0 (wc.heap[gb259]? = some (.cells #[.int .i64 a0_0, .int .i64 a0_1] 32 (0, 0))) ∧ Aside0 (Below w.heap.size w wc))
             case first =>
              have H := HC15.out
              clear HC15
              by_cases c16 : 0 ≤ x12_2
              · rw [if_pos c16] at H
                have c16b0 : decide (0 ≤ x12_2) = true := decide_eq_true c16
                clear c16
                (first | rw [c16b0] | (simp only [i64_w, i32_w]; rw [c16b0]) | skip)
                by_cases c17 : ((rd_T32 l1 x12_2).f0) ≤ x10_1
                · rw [if_pos c17] at H
                  have c17b0 : decide (((rd_T32 l1 x12_2).f0) ≤ x10_1) = true := decide_eq_true c17
                  clear c17
                  by_cases c18 : x10_1 < ((rd_T32 l1 x12_2).f1)
                  · rw [if_pos c18] at H
                    have c18b0 : decide (x10_1 < ((rd_T32 l1 x12_2).f1)) = true := decide_eq_true c18
                    clear c18
                    by_cases c19 : x11_2 < 0
                    · rw [if_pos c19] at H
                      have c19b0 : decide (x11_2 < 0) = true := decide_eq_true c19
                      clear c19
                      have H' := Aside0.mk H
                      clear H
                      have p262 : 0 ≤ (x12_2 : Int) := of_decide_eq_true (by first | (with_reducible assumption) | assumption)
                      have q262 : x12_2 < (l1.length : Int) := of_decide_eq_true (by first | (with_reducible assumption) | assumption)
                      obtain ⟨ad262, e262, hx262_0, hx262_1⟩ := at_T32 HR1.out x12_2 p262 q262
                      cases e262
                      replace hx262_0 := (HB.out.cell (World.block_lt_of_cell? w _ hx262_0)).trans hx262_0
                      replace hx262_1 := (HB.out.cell (World.block_lt_of_cell? w _ hx262_1)).trans hx262_1
                      replace p262 := eq_true p262
                      replace q262 := eq_true q262
                      have p263 : 0 ≤ (x12_2 : Int) := of_decide_eq_true (by first | (with_reducible assumption) | assumption)
                      have q263 : x12_2 < (l1.length : Int) := of_decide_eq_true (by first | (with_reducible assumption) | assumption)
                      obtain ⟨ad263, e263, hx263_0, hx263_1⟩ := at_T32 HR1.out x12_2 p263 q263
                      obtain rfl : ad262 = ad263 := (by injection e263)
                      replace hx263_0 := (HB.out.cell (World.block_lt_of_cell? w _ hx263_0)).trans hx263_0
                      replace hx263_1 := (HB.out.cell (World.block_lt_of_cell? w _ hx263_1)).trans hx263_1
                      replace p263 := eq_true p263
                      replace q263 := eq_true q263
                      go_wp2
                      repeat (go_quiet (fail); try go_wp2)
                      go_meet
                      case rel => exact ⟨_, (true), (by first | rfl | (simp; done) | (simp [*]; done)), H', ⟨by have := HK1.out; have := HK2.out; first | omega | exact Nat.le_refl _⟩, ⟨by (with_reducible repeat (first | apply Kd.R_alloc | apply Kd.R_drewN | apply Kd.R_drew)); exact HO_8.out⟩, ⟨by (with_reducible repeat (first | apply Kd.R_alloc | apply Kd.R_drewN | apply Kd.R_drew)); exact HO_9.out⟩, ⟨by (with_reducible repeat (first | refine blk_drewN ?_ _ | refine blk_drew ?_ | refine blk_alloc ?_ _)); exact BK259.out⟩, ⟨by repeat (first | (with_reducible first | exact HB.out | apply below_alloc | apply pw_below_drewN | apply below_drew1 | refine below_set ?_ GE259.out) | exact HB.out)⟩⟩
                    · rw [if_neg c19] at H
                      have c19b0 : decide (x11_2 < 0) = false := decide_eq_false c19
                      clear c19
                      by_cases c20 : 0 ≤ x11_2
                      · rw [if_pos c20] at H
                        have c20b0 : decide (0 ≤ x11_2) = true := decide_eq_true c20
                        clear c20
                        by_cases c21 : x11_2 < (l1.length : Int)
                        · rw [if_pos c21] at H
                          have c21b0 : decide (x11_2 < (l1.length : Int)) = true := decide_eq_true c21
                          clear c21
                          have H' := Aside0.mk H
                          clear H
                          have p262 : 0 ≤ (x12_2 : Int) := of_decide_eq_true (by first | (with_reducible assumption) | assumption)
                          have q262 : x12_2 < (l1.length : Int) := of_decide_eq_true (by first | (with_reducible assumption) | assumption)
                          obtain ⟨ad262, e262, hx262_0, hx262_1⟩ := at_T32 HR1.out x12_2 p262 q262
                          cases e262
                          replace hx262_0 := (HB.out.cell (World.block_lt_of_cell? w _ hx262_0)).trans hx262_0
                          replace hx262_1 := (HB.out.cell (World.block_lt_of_cell? w _ hx262_1)).trans hx262_1
                          replace p262 := eq_true p262
                          replace q262 := eq_true q262
                          have p263 : 0 ≤ (x12_2 : Int) := of_decide_eq_true (by first | (with_reducible assumption) | assumption)
                          have q263 : x12_2 < (l1.length : Int) := of_decide_eq_true (by first | (with_reducible assumption) | assumption)
                          obtain ⟨ad263, e263, hx263_0, hx263_1⟩ := at_T32 HR1.out x12_2 p263 q263
                          obtain rfl : ad262 = ad263 := (by injection e263)
                          replace hx263_0 := (HB.out.cell (World.block_lt_of_cell? w _ hx263_0)).trans hx263_0
                          replace hx263_1 := (HB.out.cell (World.block_lt_of_cell? w _ hx263_1)).trans hx263_1
                          replace p263 := eq_true p263
                          replace q263 := eq_true q263
                          have p264 : 0 ≤ (x12_2 : Int) := of_decide_eq_true (by first | (with_reducible assumption) | assumption)
                          have q264 : x12_2 < (l1.length : Int) := of_decide_eq_true (by first | (with_reducible assumption) | assumption)
                          obtain ⟨ad264, e264, hx264_0, hx264_1⟩ := at_T32 HR1.out x12_2 p264 q264
                          obtain rfl : ad262 = ad264 := (by injection e264)
                          replace hx264_0 := (HB.out.cell (World.block_lt_of_cell? w _ hx264_0)).trans hx264_0
                          replace hx264_1 := (HB.out.cell (World.block_lt_of_cell? w _ hx264_1)).trans hx264_1
                          replace p264 := eq_true p264
                          replace q264 := eq_true q264
                          have p265 : 0 ≤ (x11_2 : Int) := of_decide_eq_true (by first | (with_reducible assumption) | assumption)
                          have q265 : x11_2 < (l1.length : Int) := of_decide_eq_true (by first | (with_reducible assumption) | assumption)
                          obtain ⟨ad265, e265, hx265_0, hx265_1⟩ := at_T32 HR1.out x11_2 p265 q265
                          obtain rfl : ad262 = ad265 := (by injection e265)
                          replace hx265_0 := (HB.out.cell (World.block_lt_of_cell? w _ hx265_0)).trans hx265_0
                          replace hx265_1 := (HB.out.cell (World.block_lt_of_cell? w _ hx265_1)).trans hx265_1
                          replace p265 := eq_true p265
                          replace q265 := eq_true q265
                          go_wp2
                          repeat (go_quiet (fail); try go_wp2)
                          go_meet
                          case rel => exact ⟨_, (decide (((rd_T32 l1 x12_2).f1) > ((rd_T32 l1 x11_2).f1))), (by first | rfl | (simp; done) | (simp [*]; done)), H', ⟨by have := HK1.out; have := HK2.out; first | omega | exact Nat.le_refl _⟩, ⟨by (with_reducible repeat (first | apply Kd.R_alloc | apply Kd.R_drewN | apply Kd.R_drew)); exact HO_8.out⟩, ⟨by (with_reducible repeat (first | apply Kd.R_alloc | apply Kd.R_drewN | apply Kd.R_drew)); exact HO_9.out⟩, ⟨by (with_reducible repeat (first | refine blk_drewN ?_ _ | refine blk_drew ?_ | refine blk_alloc ?_ _)); exact BK259.out⟩, ⟨by repeat (first | (with_reducible first | exact HB.out | apply below_alloc | apply pw_below_drewN | apply below_drew1 | refine below_set ?_ GE259.out) | exact HB.out)⟩⟩
                        · rw [if_neg c21] at H
                          exact absurd H (by simp)
                      · rw [if_neg c20] at H
                        exact absurd H (by simp)
                  · rw [if_neg c18] at H
                    have c18b0 : decide (x10_1 < ((rd_T32 l1 x12_2).f1)) = false := decide_eq_false c18
                    clear c18
                    have H' := Aside0.mk H
                    clear H
                    have p262 : 0 ≤ (x12_2 : Int) := of_decide_eq_true (by first | (with_reducible assumption) | assumption)
                    have q262 : x12_2 < (l1.length : Int) := of_decide_eq_true (by first | (with_reducible assumption) | assumption)
                    obtain ⟨ad262, e262, hx262_0, hx262_1⟩ := at_T32 HR1.out x12_2 p262 q262
                    cases e262
                    replace hx262_0 := (HB.out.cell (World.block_lt_of_cell? w _ hx262_0)).trans hx262_0
                    replace hx262_1 := (HB.out.cell (World.block_lt_of_cell? w _ hx262_1)).trans hx262_1
                    replace p262 := eq_true p262
                    replace q262 := eq_true q262
                    have p263 : 0 ≤ (x12_2 : Int) := of_decide_eq_true (by first | (with_reducible assumption) | assumption)
                    have q263 : x12_2 < (l1.length : Int) := of_decide_eq_true (by first | (with_reducible assumption) | assumption)
                    obtain ⟨ad263, e263, hx263_0, hx263_1⟩ := at_T32 HR1.out x12_2 p263 q263
                    obtain rfl : ad262 = ad263 := (by injection e263)
                    replace hx263_0 := (HB.out.cell (World.block_lt_of_cell? w _ hx263_0)).trans hx263_0
                    replace hx263_1 := (HB.out.cell (World.block_lt_of_cell? w _ hx263_1)).trans hx263_1
                    replace p263 := eq_true p263
                    replace q263 := eq_true q263
                    go_wp2
                    repeat (go_quiet (fail); try go_wp2)
                    go_meet
                    case rel => exact ⟨_, (false), (by first | rfl | (simp; done) | (simp [*]; done)), H', ⟨by have := HK1.out; have := HK2.out; first | omega | exact Nat.le_refl _⟩, ⟨by (with_reducible repeat (first | apply Kd.R_alloc | apply Kd.R_drewN | apply Kd.R_drew)); exact HO_8.out⟩, ⟨by (with_reducible repeat (first | apply Kd.R_alloc | apply Kd.R_drewN | apply Kd.R_drew)); exact HO_9.out⟩, ⟨by (with_reducible repeat (first | refine blk_drewN ?_ _ | refine blk_drew ?_ | refine blk_alloc ?_ _)); exact BK259.out⟩, ⟨by repeat (first | (with_reducible first | exact HB.out | apply below_alloc | apply pw_below_drewN | apply below_drew1 | refine below_set ?_ GE259.out) | exact HB.out)⟩⟩
                · rw [if_neg c17] at H
                  have c17b0 : decide (((rd_T32 l1 x12_2).f0) ≤ x10_1) = false := decide_eq_false c17
                  clear c17
                  have H' := Aside0.mk H
                  clear H
                  have p262 : 0 ≤ (x12_2 : Int) := of_decide_eq_true (by first | (with_reducible assumption) | assumption)
                  have q262 : x12_2 < (l1.length : Int) := of_decide_eq_true (by first | (with_reducible assumption) | assumption)
                  obtain ⟨ad262, e262, hx262_0, hx262_1⟩ := at_T32 HR1.out x12_2 p262 q262
                  cases e262
                  replace hx262_0 := (HB.out.cell (World.block_lt_of_cell? w _ hx262_0)).trans hx262_0
                  replace hx262_1 := (HB.out.cell (World.block_lt_of_cell? w _ hx262_1)).trans hx262_1
                  replace p262 := eq_true p262
                  replace q262 := eq_true q262
                  go_wp2
                  repeat (go_quiet (fail); try go_wp2)
                  go_meet
                  case rel => exact ⟨_, (false), (by first | rfl | (simp; done) | (simp [*]; done)), H', ⟨by have := HK1.out; have := HK2.out; first | omega | exact Nat.le_refl _⟩, ⟨by (with_reducible repeat (first | apply Kd.R_alloc | apply Kd.R_drewN | apply Kd.R_drew)); exact HO_8.out⟩, ⟨by (with_reducible repeat (first | apply Kd.R_alloc | apply Kd.R_drewN | apply Kd.R_drew)); exact HO_9.out⟩, ⟨by (with_reducible repeat (first | refine blk_drewN ?_ _ | refine blk_drew ?_ | refine blk_alloc ?_ _)); exact BK259.out⟩, ⟨by repeat (first | (with_reducible first | exact HB.out | apply below_alloc | apply pw_below_drewN | apply below_drew1 | refine below_set ?_ GE259.out) | exact HB.out)⟩⟩
              · rw [if_neg c16] at H
                exact absurd H (by simp)
             case rest =>
              clear HC15
              try clear c1
              try clear c2
              try clear p2
              try clear q2
              try clear hx2
              try clear c4
              try clear c6
              try clear c6b0
              try clear c6b1
              try clear c12
              try clear c12b0
              try clear c14
              try clear c14b0
              try clear c16
              try clear c16b0
              try clear c17
              try clear c17b0
              try clear c18
              try clear c18b0
              try clear c19
              try clear c19b0
              try clear c20
              try clear c20b0
              try clear c21
              try clear c21b0
              try clear hcz11_0
              try clear hcz11_1
              try clear hcz13_0
              try clear hcz13_1
              try clear hcz8_0
              try clear hcz8_1
              try clear hfz11_0
              try clear hfz11_1
              try clear hfz13_0
              try clear hfz13_1
              try clear hfz8_0
              try clear hfz8_1
              try clear hx262_0
              try clear hx262_1
              try clear hx263_0
              try clear hx263_1
              try clear hx264_0
              try clear hx264_1
              try clear hx265_0
              try clear hx265_1
              try clear p2
              try clear p262
              try clear p263
              try clear p264
              try clear p265
              try clear q262
              try clear q263
              try clear q264
              try clear q265
              obtain ⟨kq, x65_14, rfl, HA, HJ14, HO_8, HO_9, BK259, HB⟩ := hcut
              cases kq with
              | zero => exact absurd HA.out (by simp [kimberliteref01_Steps.j2])
              | succ kj14 =>
               have H := HA.out
               clear HA
               simp only [kimberliteref01_Steps.j2] at H
               by_cases c22 : x65_14 = true
               · subst c22
                 have H1 : (kimberliteref01_Steps.l1 kj14 l1 x8_1 x9_1 x10_1 x12_2 (wrap64 (x12_2 + 1)) a0_0 a0_1) = some (r1, r2, r3) := by rw [if_pos rfl] at H; exact H
                 clear H
                 have H := H1
                 clear H1
                 have H' := Aside0.mk H
                 clear H
                 go_wp2
                 repeat (go_quiet (fail); try go_wp2)
                 go_roundg kj14
                 case measure => have := HK1.out; have := HK2.out; have := HJ14.out; omega
                 case rel => exact ⟨(x12_2), (wrap64 (x12_2 + 1)), (by first | rfl | (simp; done) | (simp [*]; done)), (by first | rfl | (simp; done) | (simp [*]; done)), H', ⟨by have := HK1.out; have := HK2.out; have := HJ14.out; omega⟩, ⟨by (with_reducible repeat (first | apply Kd.R_alloc | apply Kd.R_drewN | apply Kd.R_drew)); exact HO_8.out⟩, ⟨by (with_reducible repeat (first | apply Kd.R_alloc | apply Kd.R_drewN | apply Kd.R_drew)); exact HO_9.out⟩, ⟨by (with_reducible repeat (first | refine blk_drewN ?_ _ | refine blk_drew ?_ | refine blk_alloc ?_ _)); exact BK259.out⟩, ⟨by repeat (first | (with_reducible first | exact HB.out | apply below_alloc | apply pw_below_drewN | apply below_drew1 | refine below_set ?_ GE259.out) | exact HB.out)⟩⟩
               · replace c22 := Bool.eq_false_iff.mpr c22
                 subst c22
                 have H1 : (kimberliteref01_Steps.l1 kj14 l1 x8_1 x9_1 x10_1 x11_2 (wrap64 (x12_2 + 1)) a0_0 a0_1) = some (r1, r2, r3) := by rw [if_neg (show ¬ (false = true) by decide)] at H; exact H
                 clear H
                 have H := H1
                 clear H1
                 have H' := Aside0.mk H
                 clear H
                 go_wp2
                 repeat (go_quiet (fail); try go_wp2)
                 go_roundg kj14
                 case measure => have := HK1.out; have := HK2.out; have := HJ14.out; omega
                 case rel => exact ⟨(x11_2), (wrap64 (x12_2 + 1)), (by first | rfl | (simp; done) | (simp [*]; done)), (by first | rfl | (simp; done) | (simp [*]; done)), H', ⟨by have := HK1.out; have := HK2.out; have := HJ14.out; omega⟩, ⟨by (with_reducible repeat (first | apply Kd.R_alloc | apply Kd.R_drewN | apply Kd.R_drew)); exact HO_8.out⟩, ⟨by (with_reducible repeat (first | apply Kd.R_alloc | apply Kd.R_drewN | apply Kd.R_drew)); exact HO_9.out⟩, ⟨by (with_reducible repeat (first | refine blk_drewN ?_ _ | refine blk_drew ?_ | refine blk_alloc ?_ _)); exact BK259.out⟩, ⟨by repeat (first | (with_reducible first | exact HB.out | apply below_alloc | apply pw_below_drewN | apply below_drew1 | refine below_set ?_ GE259.out) | exact HB.out)⟩⟩
           · rw [if_neg c14] at H
             have c14b0 : decide (x12_2 < (l1.length : Int)) = false := decide_eq_false c14
             clear c14
             by_cases c23 : x11_2 < 0
             · rw [if_pos c23] at H
               have c23b0 : decide (x11_2 < 0) = true := decide_eq_true c23
               clear c23
               simp only [Option.some.injEq, Prod.mk.injEq] at H
               obtain ⟨rfl, rfl, rfl⟩ := H
               go_wp2
               repeat (go_quiet (fail); try go_wp2)
               go_ret3
               exact ⟨_, _, by first | rfl | (simp [errW_none, errW_some] <;> rfl) | (simp [*, errW_none, errW_some] <;> rfl), by first | exact Kd.R_nil _ _ _ _ _ | exact Kd.N_nil _ _ _ _ _ | exact Kd.V_nil _ _ _ _ _ | exact Kd.Q_nil _ _ _ _ _ | exact Kd.S_nil _ _ _ _ _, by first | exact Kd.R_nil _ _ _ _ _ | exact Kd.N_nil _ _ _ _ _ | exact Kd.V_nil _ _ _ _ _ | exact Kd.Q_nil _ _ _ _ _ | exact Kd.S_nil _ _ _ _ _, by repeat (first | (with_reducible first | exact HB.out | apply below_alloc | apply pw_below_drewN | apply below_drew1 | refine below_set ?_ GE259.out) | exact HB.out)⟩
             · rw [if_neg c23] at H
               have c23b0 : decide (x11_2 < 0) = false := decide_eq_false c23
               clear c23
               by_cases c24 : x8_1.length < 17592186044416
               · rw [if_pos c24] at H
                 have LMc24 := Aside0.mk c24
                 clear c24
                 obtain ⟨y266, hy266⟩ : ∃ y_ : List Int, y_ = (x8_1 ++ [x11_2]) := ⟨_, rfl⟩
                 replace H : (if x9_1.length < 17592186044416 then (if 0 ≤ x11_2 then (if x11_2 < (l1.length : Int) then (kimberliteref01_Steps.l0 k2 l1 y266 (x9_1 ++ [x10_1]) ((rd_T32 l1 x11_2).f1) a0_0 a0_1) else (none)) else (none)) else (none)) = some (r1, r2, r3) := by first | (rw [hy266]; with_reducible exact H) | (have H2_ := (Option.bind_some _ _).symm.trans H; rw [hy266]; with_reducible exact H2_) | (have H2_ := (Option.bind_some _ _).symm.trans H; with_reducible exact H2_) | with_reducible exact H | (rw [hy266]; exact H) | exact H
                 have Ny266 := Aside0.mk hy266
                 clear hy266
                 by_cases c25 : x9_1.length < 17592186044416
                 · rw [if_pos c25] at H
                   have LMc25 := Aside0.mk c25
                   clear c25
                   obtain ⟨y269, hy269⟩ : ∃ y_ : List Int, y_ = (x9_1 ++ [x10_1]) := ⟨_, rfl⟩
                   replace H : (if 0 ≤ x11_2 then (if x11_2 < (l1.length : Int) then (kimberliteref01_Steps.l0 k2 l1 y266 y269 ((rd_T32 l1 x11_2).f1) a0_0 a0_1) else (none)) else (none)) = some (r1, r2, r3) := by first | (rw [hy269]; with_reducible exact H) | (have H2_ := (Option.bind_some _ _).symm.trans H; rw [hy269]; with_reducible exact H2_) | (have H2_ := (Option.bind_some _ _).symm.trans H; with_reducible exact H2_) | with_reducible exact H | (rw [hy269]; exact H) | exact H
                   have Ny269 := Aside0.mk hy269
                   clear hy269
                   by_cases c26 : 0 ≤ x11_2
                   · rw [if_pos c26] at H
                     have c26b0 : decide (0 ≤ x11_2) = true := decide_eq_true c26
                     clear c26
                     by_cases c27 : x11_2 < (l1.length : Int)
                     · rw [if_pos c27] at H
                       have c27b0 : decide (x11_2 < (l1.length : Int)) = true := decide_eq_true c27
                       clear c27
                       have H' := Aside0.mk H
                       clear H
                       go_wp2_with (first | ((with_reducible refine gate_builtin (b := .append) (xs := #[.tmp 69, .tmp 71]) rfl ?_); at_builtin; refine Kd.R_append (Kd.int .i64) (w0 := w) w.heap.size rfl (.tmp 69) (.tmp 71) 33 3 (.int .i64 0) 8 rfl Try.underlying33 info3 rfl (by decide) (by omega) u8 x8_1 x11_2 [.int .i64 x11_2] (fun k_ => some k_ ≠ (u9 : Value).ownBlock) (fun _ => False) rfl rfl ?aP (fun _ hk => hk.elim) ?aF ?aO ?aB ?aS ?aL ?_; (case aP => exact rfl); (case aB => exact (by repeat (first | (with_reducible first | exact HB.out | apply below_alloc | apply pw_below_drewN | apply below_drew1 | refine below_set ?_ GE259.out) | exact HB.out))); (case aF => exact (fun k_ hk => Kd.fresh' (Kd.R_lt (by (with_reducible repeat (first | apply Kd.R_alloc | apply Kd.R_drewN | apply Kd.R_drew)); exact HO_9.out)) k_ hk)); (case aO => exact (by (with_reducible repeat (first | apply Kd.R_alloc | apply Kd.R_drewN | apply Kd.R_drew)); exact HO_8.out)); (case aS => exact (below_size (by repeat (first | (with_reducible first | exact HB.out | apply below_alloc | apply pw_below_drewN | apply below_drew1 | refine below_set ?_ GE259.out) | exact HB.out)))); (case aL => have := LMc24.out; omega); intro v267 w28 ho hb hg hat; rw [← Ny266.out] at ho; have n0_ := Aside0.mk (Kd.R_after (ok := (fun _ => True)) (by (with_reducible repeat (first | apply Kd.R_alloc | apply Kd.R_drewN | apply Kd.R_drew)); exact Kd.R_mono HO_9.out (fun _ hk => ⟨trivial, hk⟩)) hg hat); have n1_ := Aside0.mk (blk_grown (g := gb259) (o := .cells #[.int .i64 a0_0, .int .i64 a0_1] 32 (0, 0)) (by (with_reducible repeat (first | refine blk_drewN ?_ _ | refine blk_drew ?_ | refine blk_alloc ?_ _)); exact BK259.out) hg (Kd.R_ne HO_8.out BK259.out (by decide))); have n2_ := Aside0.mk (hb); have n3_ := Aside0.mk (ho); clear HO_9; clear BK259; clear HB; clear HO_8; have HO_9 := n0_; have BK259 := n1_; have HB := n2_; have HO268 := n3_; clear n0_ n1_ n2_ n3_; clear ho hb hg hat) | ((with_reducible refine gate_builtin (b := .append) (xs := #[.tmp 73, .tmp 75]) rfl ?_); at_builtin; refine Kd.R_append (Kd.int .i64) (w0 := w) w.heap.size rfl (.tmp 73) (.tmp 75) 33 3 (.int .i64 0) 8 rfl Try.underlying33 info3 rfl (by decide) (by omega) u9 x9_1 x10_1 [.int .i64 x10_1] (fun k_ => some k_ ≠ (v267 : Value).ownBlock) (fun _ => False) rfl rfl ?aP (fun _ hk => hk.elim) ?aF ?aO ?aB ?aS ?aL ?_; (case aP => exact rfl); (case aB => exact (by repeat (first | (with_reducible first | exact HB.out | apply below_alloc | apply pw_below_drewN | apply below_drew1 | refine below_set ?_ GE259.out) | exact HB.out))); (case aF => exact (fun k_ hk => Kd.fresh' (Kd.R_lt (by (with_reducible repeat (first | apply Kd.R_alloc | apply Kd.R_drewN | apply Kd.R_drew)); exact HO268.out)) k_ hk)); (case aO => exact (by (with_reducible repeat (first | apply Kd.R_alloc | apply Kd.R_drewN | apply Kd.R_drew)); exact Kd.R_mono HO_9.out (fun _ hk => hk.2))); (case aS => exact (below_size (by repeat (first | (with_reducible first | exact HB.out | apply below_alloc | apply pw_below_drewN | apply below_drew1 | refine below_set ?_ GE259.out) | exact HB.out)))); (case aL => have := LMc25.out; omega); intro v270 w29 ho hb hg hat; rw [← Ny269.out] at ho; have n0_ := Aside0.mk (blk_grown (g := gb259) (o := .cells #[.int .i64 a0_0, .int .i64 a0_1] 32 (0, 0)) (by (with_reducible repeat (first | refine blk_drewN ?_ _ | refine blk_drew ?_ | refine blk_alloc ?_ _)); exact BK259.out) hg (Kd.R_ne HO_9.out BK259.out (by decide))); have n1_ := Aside0.mk (Kd.R_after (ok := (fun _ => True)) (by (with_reducible repeat (first | apply Kd.R_alloc | apply Kd.R_drewN | apply Kd.R_drew)); exact Kd.R_mono HO268.out (fun _ hk => ⟨trivial, hk⟩)) hg hat); have n2_ := Aside0.mk (hb); have n3_ := Aside0.mk (ho); clear BK259; clear HO268; clear HB; clear HO_9; have BK259 := n0_; have HO268 := n1_; have HB := n2_; have HO271 := n3_; clear n0_ n1_ n2_ n3_; clear ho hb hg hat; have p272 : 0 ≤ (x11_2 : Int) := of_decide_eq_true (by first | (with_reducible assumption) | assumption); have q272 : x11_2 < (l1.length : Int) := of_decide_eq_true (by first | (with_reducible assumption) | assumption); obtain ⟨ad272, e272, hx272_0, hx272_1⟩ := at_T32 HR1.out x11_2 p272 q272; cases e272; replace hx272_0 := (HB.out.cell (World.block_lt_of_cell? w _ hx272_0)).trans hx272_0; replace hx272_1 := (HB.out.cell (World.block_lt_of_cell? w _ hx272_1)).trans hx272_1; replace p272 := eq_true p272; replace q272 := eq_true q272))
                       repeat (go_quiet (fail); try go_wp2_with (first | ((with_reducible refine gate_builtin (b := .append) (xs := #[.tmp 69, .tmp 71]) rfl ?_); at_builtin; refine Kd.R_append (Kd.int .i64) (w0 := w) w.heap.size rfl (.tmp 69) (.tmp 71) 33 3 (.int .i64 0) 8 rfl Try.underlying33 info3 rfl (by decide) (by omega) u8 x8_1 x11_2 [.int .i64 x11_2] (fun k_ => some k_ ≠ (u9 : Value).ownBlock) (fun _ => False) rfl rfl ?aP (fun _ hk => hk.elim) ?aF ?aO ?aB ?aS ?aL ?_; (case aP => exact rfl); (case aB => exact (by repeat (first | (with_reducible first | exact HB.out | apply below_alloc | apply pw_below_drewN | apply below_drew1 | refine below_set ?_ GE259.out) | exact HB.out))); (case aF => exact (fun k_ hk => Kd.fresh' (Kd.R_lt (by (with_reducible repeat (first | apply Kd.R_alloc | apply Kd.R_drewN | apply Kd.R_drew)); exact HO_9.out)) k_ hk)); (case aO => exact (by (with_reducible repeat (first | apply Kd.R_alloc | apply Kd.R_drewN | apply Kd.R_drew)); exact HO_8.out)); (case aS => exact (below_size (by repeat (first | (with_reducible first | exact HB.out | apply below_alloc | apply pw_below_drewN | apply below_drew1 | refine below_set ?_ GE259.out) | exact HB.out)))); (case aL => have := LMc24.out; omega); intro v267 w28 ho hb hg hat; rw [← Ny266.out] at ho; have n0_ := Aside0.mk (Kd.R_after (ok := (fun _ => True)) (by (with_reducible repeat (first | apply Kd.R_alloc | apply Kd.R_drewN | apply Kd.R_drew)); exact Kd.R_mono HO_9.out (fun _ hk => ⟨trivial, hk⟩)) hg hat); have n1_ := Aside0.mk (blk_grown (g := gb259) (o := .cells #[.int .i64 a0_0, .int .i64 a0_1] 32 (0, 0)) (by (with_reducible repeat (first | refine blk_drewN ?_ _ | refine blk_drew ?_ | refine blk_alloc ?_ _)); exact BK259.out) hg (Kd.R_ne HO_8.out BK259.out (by decide))); have n2_ := Aside0.mk (hb); have n3_ := Aside0.mk (ho); clear HO_9; clear BK259; clear HB; clear HO_8; have HO_9 := n0_; have BK259 := n1_; have HB := n2_; have HO268 := n3_; clear n0_ n1_ n2_ n3_; clear ho hb hg hat) | ((with_reducible refine gate_builtin (b := .append) (xs := #[.tmp 73, .tmp 75]) rfl ?_); at_builtin; refine Kd.R_append (Kd.int .i64) (w0 := w) w.heap.size rfl (.tmp 73) (.tmp 75) 33 3 (.int .i64 0) 8 rfl Try.underlying33 info3 rfl (by decide) (by omega) u9 x9_1 x10_1 [.int .i64 x10_1] (fun k_ => some k_ ≠ (v267 : Value).ownBlock) (fun _ => False) rfl rfl ?aP (fun _ hk => hk.elim) ?aF ?aO ?aB ?aS ?aL ?_; (case aP => exact rfl); (case aB => exact (by repeat (first | (with_reducible first | exact HB.out | apply below_alloc | apply pw_below_drewN | apply below_drew1 | refine below_set ?_ GE259.out) | exact HB.out))); (case aF => exact (fun k_ hk => Kd.fresh' (Kd.R_lt (by (with_reducible repeat (first | apply Kd.R_alloc | apply Kd.R_drewN | apply Kd.R_drew)); exact HO268.out)) k_ hk)); (case aO => exact (by (with_reducible repeat (first | apply Kd.R_alloc | apply Kd.R_drewN | apply Kd.R_drew)); exact Kd.R_mono HO_9.out (fun _ hk => hk.2))); (case aS => exact (below_size (by repeat (first | (with_reducible first | exact HB.out | apply below_alloc | apply pw_below_drewN | apply below_drew1 | refine below_set ?_ GE259.out) | exact HB.out)))); (case aL => have := LMc25.out; omega); intro v270 w29 ho hb hg hat; rw [← Ny269.out] at ho; have n0_ := Aside0.mk (blk_grown (g := gb259) (o := .cells #[.int .i64 a0_0, .int .i64 a0_1] 32 (0, 0)) (by (with_reducible repeat (first | refine blk_drewN ?_ _ | refine blk_drew ?_ | refine blk_alloc ?_ _)); exact BK259.out) hg (Kd.R_ne HO_9.out BK259.out (by decide))); have n1_ := Aside0.mk (Kd.R_after (ok := (fun _ => True)) (by (with_reducible repeat (first | apply Kd.R_alloc | apply Kd.R_drewN | apply Kd.R_drew)); exact Kd.R_mono HO268.out (fun _ hk => ⟨trivial, hk⟩)) hg hat); have n2_ := Aside0.mk (hb); have n3_ := Aside0.mk (ho); clear BK259; clear HO268; clear HB; clear HO_9; have BK259 := n0_; have HO268 := n1_; have HB := n2_; have HO271 := n3_; clear n0_ n1_ n2_ n3_; clear ho hb hg hat; have p272 : 0 ≤ (x11_2 : Int) := of_decide_eq_true (by first | (with_reducible assumption) | assumption); have q272 : x11_2 < (l1.length : Int) := of_decide_eq_true (by first | (with_reducible assumption) | assumption); obtain ⟨ad272, e272, hx272_0, hx272_1⟩ := at_T32 HR1.out x11_2 p272 q272; cases e272; replace hx272_0 := (HB.out.cell (World.block_lt_of_cell? w _ hx272_0)).trans hx272_0; replace hx272_1 := (HB.out.cell (World.block_lt_of_cell? w _ hx272_1)).trans hx272_1; replace p272 := eq_true p272; replace q272 := eq_true q272)))
                       go_roundg k2
                       case measure => have := HK1.out; have := HK2.out; omega
                       case rel => exact ⟨(y266), (y269), ((rd_T32 l1 x11_2).f1), (by first | rfl | (simp; done) | (simp [*]; done)), H', ⟨by have := HK1.out; have := HK2.out; omega⟩, ⟨by (with_reducible repeat (first | apply Kd.R_alloc | apply Kd.R_drewN | apply Kd.R_drew)); exact Kd.R_mono HO268.out (fun _ hk => hk.2)⟩, ⟨by (with_reducible repeat (first | apply Kd.R_alloc | apply Kd.R_drewN | apply Kd.R_drew)); exact HO271.out⟩, ⟨by (with_reducible repeat (first | refine blk_drewN ?_ _ | refine blk_drew ?_ | refine blk_alloc ?_ _)); exact BK259.out⟩, ⟨by repeat (first | (with_reducible first | exact HB.out | apply below_alloc | apply pw_below_drewN | apply below_drew1 | refine below_set ?_ GE259.out) | exact HB.out)⟩⟩
                     · rw [if_neg c27] at H
                       exact absurd H (by simp)
                   · rw [if_neg c26] at H
                     exact absurd H (by simp)
                 · rw [if_neg c25] at H
                   exact absurd H (by simp)
               · rw [if_neg c24] at H
                 exact absurd H (by simp)
       · rw [if_neg c12] at H
         have c12b0 : decide (x10_1 < a0_1) = false := decide_eq_false c12
         clear c12
         simp only [Option.some.injEq, Prod.mk.injEq] at H
         obtain ⟨rfl, rfl, rfl⟩ := H
         have hcz30_0 : wr.cell? ⟨gb259, 0, none⟩ = some (.int .i64 a0_0) := (blk_cell BK259.out 0).trans rfl
         have hcz30_1 : wr.cell? ⟨gb259, 1, none⟩ = some (.int .i64 a0_1) := (blk_cell BK259.out 1).trans rfl
         have hfz30_0 := blk_frozen BK259.out 0
         have hfz30_1 := blk_frozen BK259.out 1
         go_wp2
         repeat (go_quiet (fail); try go_wp2)
         go_ret3
         exact ⟨_, _, by first | rfl | (simp [errW_none, errW_some] <;> rfl) | (simp [*, errW_none, errW_some] <;> rfl), by (with_reducible repeat (first | apply Kd.R_alloc | apply Kd.R_drewN | apply Kd.R_drew)); exact HO_8.out, by (with_reducible repeat (first | apply Kd.R_alloc | apply Kd.R_drewN | apply Kd.R_drew)); exact HO_9.out, by repeat (first | (with_reducible first | exact HB.out | apply below_alloc | apply pw_below_drewN | apply below_drew1 | refine below_set ?_ GE259.out) | exact HB.out)⟩
   · rw [if_neg c6] at H
     have c6b0 : (t261 == 0) = false := beq_eq_false_iff_ne.mpr c6
     have c6b1 : (t261 != 0) = true := bne_iff_ne.mpr c6
     simp only [Option.some.injEq, Prod.mk.injEq] at H
     obtain ⟨rfl, rfl, rfl⟩ := H
     go_enter Try.func27, Try.ntmps27
     go_wp2_with (first | ((with_reducible refine gate_dst (N := 2) rfl ?_); refine box_event ?hg (N := 2) ?hd (cs := #[.int .i64 a0_0, .int .i64 a0_1]) (t := 32) ?hr ?_; (case hd => rfl); (case hg => rfl); (case hr => first | (go_simp; done) | (go_simp; rfl)); intro gb259 hg w31 hbox hb; have n0_ := Aside0.mk (below_step (by repeat (first | (with_reducible first | exact HB.out | apply below_alloc | apply pw_below_drewN | apply below_drew1) | exact HB.out)) hb); have n1_ := Aside0.mk (hbox); have n2_ := Aside0.mk ((by rw [hg]; exact (below_size (by repeat (first | (with_reducible first | exact HB.out | apply below_alloc | apply pw_below_drewN | apply below_drew1) | exact HB.out))) : w.heap.size ≤ gb259)); have n3_ := Aside0.mk ((by rw [hg]; exact (below_size (by repeat (first | (with_reducible first | exact HB.out | apply below_alloc | apply pw_below_drewN | apply below_drew1) | exact HB.out))) : w.heap.size ≤ gb259)); clear HB; have HB := n0_; have BK259 := n1_; have GW259 := n2_; have GE259 := n3_; clear n0_ n1_ n2_ n3_; clear hb hbox hg; have hcz32_0 : w31.cell? ⟨gb259, 0, none⟩ = some (.int .i64 a0_0) := (blk_cell BK259.out 0).trans rfl; have hcz32_1 : w31.cell? ⟨gb259, 1, none⟩ = some (.int .i64 a0_1) := (blk_cell BK259.out 1).trans rfl; have hfz32_0 := blk_frozen BK259.out 0; have hfz32_1 := blk_frozen BK259.out 1) | (go_at_call 71; (with_reducible refine (kimberliteref01_Good.calls a0_0 a0_1 true _ A3.out).mono ?_); rintro e w33 ⟨rfl, hb⟩; have n0_ := Aside0.mk (blk_below (g := gb259) (o := .cells #[.int .i64 a0_0, .int .i64 a0_1] 32 (0, 0)) (by (with_reducible repeat (first | refine blk_drewN ?_ _ | refine blk_drew ?_ | refine blk_alloc ?_ _)); exact BK259.out) hb); have n1_ := Aside0.mk (below_step (by repeat (first | (with_reducible first | exact HB.out | apply below_alloc | apply pw_below_drewN | apply below_drew1 | refine below_set ?_ GE259.out) | exact HB.out)) hb); clear BK259; clear HB; have BK259 := n0_; have HB := n1_; clear n0_ n1_; (try clear hb); (try clear hb2); (try clear hk); (try clear hi)) | (go_at_call 62; (with_reducible refine (kimberliteref01_List.calls k _ _ l1 t261 _ ?side1 ?side2 A5.out).mono ?_); (case side1 => repeat (first | exact (Kd.C_below HR1.out HB.out) | (with_reducible refine Kd.C_alloc ?_ _) | (with_reducible refine Kd.C_drewN ?_ _) | (with_reducible refine Kd.C_drew ?_))); (case side2 => exact HC1.out); rintro e w34 ⟨rfl, hb⟩; have n0_ := Aside0.mk (blk_below (g := gb259) (o := .cells #[.int .i64 a0_0, .int .i64 a0_1] 32 (0, 0)) (by (with_reducible repeat (first | refine blk_drewN ?_ _ | refine blk_drew ?_ | refine blk_alloc ?_ _)); exact BK259.out) hb); have n1_ := Aside0.mk (below_step (by repeat (first | (with_reducible first | exact HB.out | apply below_alloc | apply pw_below_drewN | apply below_drew1 | refine below_set ?_ GE259.out) | exact HB.out)) hb); clear BK259; clear HB; have BK259 := n0_; have HB := n1_; clear n0_ n1_; (try clear hb); (try clear hb2); (try clear hk); (try clear hi)))
     repeat (go_quiet (first | (go_at_call 71; (with_reducible refine (kimberliteref01_Good.calls a0_0 a0_1 true _ A3.out).mono ?_); rintro e w33 ⟨rfl, hb⟩; have n0_ := Aside0.mk (blk_below (g := gb259) (o := .cells #[.int .i64 a0_0, .int .i64 a0_1] 32 (0, 0)) (by (with_reducible repeat (first | refine blk_drewN ?_ _ | refine blk_drew ?_ | refine blk_alloc ?_ _)); exact BK259.out) hb); have n1_ := Aside0.mk (below_step (by repeat (first | (with_reducible first | exact HB.out | apply below_alloc | apply pw_below_drewN | apply below_drew1 | refine below_set ?_ GE259.out) | exact HB.out)) hb); clear BK259; clear HB; have BK259 := n0_; have HB := n1_; clear n0_ n1_; (try clear hb); (try clear hb2); (try clear hk); (try clear hi)) | (go_at_call 62; (with_reducible refine (kimberliteref01_List.calls k _ _ l1 t261 _ ?side1 ?side2 A5.out).mono ?_); (case side1 => repeat (first | exact (Kd.C_below HR1.out HB.out) | (with_reducible refine Kd.C_alloc ?_ _) | (with_reducible refine Kd.C_drewN ?_ _) | (with_reducible refine Kd.C_drew ?_))); (case side2 => exact HC1.out); rintro e w34 ⟨rfl, hb⟩; have n0_ := Aside0.mk (blk_below (g := gb259) (o := .cells #[.int .i64 a0_0, .int .i64 a0_1] 32 (0, 0)) (by (with_reducible repeat (first | refine blk_drewN ?_ _ | refine blk_drew ?_ | refine blk_alloc ?_ _)); exact BK259.out) hb); have n1_ := Aside0.mk (below_step (by repeat (first | (with_reducible first | exact HB.out | apply below_alloc | apply pw_below_drewN | apply below_drew1 | refine below_set ?_ GE259.out) | exact HB.out)) hb); clear BK259; clear HB; have BK259 := n0_; have HB := n1_; clear n0_ n1_; (try clear hb); (try clear hb2); (try clear hk); (try clear hi))); try go_wp2_with (first | ((with_reducible refine gate_dst (N := 2) rfl ?_); refine box_event ?hg (N := 2) ?hd (cs := #[.int .i64 a0_0, .int .i64 a0_1]) (t := 32) ?hr ?_; (case hd => rfl); (case hg => rfl); (case hr => first | (go_simp; done) | (go_simp; rfl)); intro gb259 hg w31 hbox hb; have n0_ := Aside0.mk (below_step (by repeat (first | (with_reducible first | exact HB.out | apply below_alloc | apply pw_below_drewN | apply below_drew1) | exact HB.out)) hb); have n1_ := Aside0.mk (hbox); have n2_ := Aside0.mk ((by rw [hg]; exact (below_size (by repeat (first | (with_reducible first | exact HB.out | apply below_alloc | apply pw_below_drewN | apply below_drew1) | exact HB.out))) : w.heap.size ≤ gb259)); have n3_ := Aside0.mk ((by rw [hg]; exact (below_size (by repeat (first | (with_reducible first | exact HB.out | apply below_alloc | apply pw_below_drewN | apply below_drew1) | exact HB.out))) : w.heap.size ≤ gb259)); clear HB; have HB := n0_; have BK259 := n1_; have GW259 := n2_; have GE259 := n3_; clear n0_ n1_ n2_ n3_; clear hb hbox hg; have hcz32_0 : w31.cell? ⟨gb259, 0, none⟩ = some (.int .i64 a0_0) := (blk_cell BK259.out 0).trans rfl; have hcz32_1 : w31.cell? ⟨gb259, 1, none⟩ = some (.int .i64 a0_1) := (blk_cell BK259.out 1).trans rfl; have hfz32_0 := blk_frozen BK259.out 0; have hfz32_1 := blk_frozen BK259.out 1) | (go_at_call 71; (with_reducible refine (kimberliteref01_Good.calls a0_0 a0_1 true _ A3.out).mono ?_); rintro e w33 ⟨rfl, hb⟩; have n0_ := Aside0.mk (blk_below (g := gb259) (o := .cells #[.int .i64 a0_0, .int .i64 a0_1] 32 (0, 0)) (by (with_reducible repeat (first | refine blk_drewN ?_ _ | refine blk_drew ?_ | refine blk_alloc ?_ _)); exact BK259.out) hb); have n1_ := Aside0.mk (below_step (by repeat (first | (with_reducible first | exact HB.out | apply below_alloc | apply pw_below_drewN | apply below_drew1 | refine below_set ?_ GE259.out) | exact HB.out)) hb); clear BK259; clear HB; have BK259 := n0_; have HB := n1_; clear n0_ n1_; (try clear hb); (try clear hb2); (try clear hk); (try clear hi)) | (go_at_call 62; (with_reducible refine (kimberliteref01_List.calls k _ _ l1 t261 _ ?side1 ?side2 A5.out).mono ?_); (case side1 => repeat (first | exact (Kd.C_below HR1.out HB.out) | (with_reducible refine Kd.C_alloc ?_ _) | (with_reducible refine Kd.C_drewN ?_ _) | (with_reducible refine Kd.C_drew ?_))); (case side2 => exact HC1.out); rintro e w34 ⟨rfl, hb⟩; have n0_ := Aside0.mk (blk_below (g := gb259) (o := .cells #[.int .i64 a0_0, .int .i64 a0_1] 32 (0, 0)) (by (with_reducible repeat (first | refine blk_drewN ?_ _ | refine blk_drew ?_ | refine blk_alloc ?_ _)); exact BK259.out) hb); have n1_ := Aside0.mk (below_step (by repeat (first | (with_reducible first | exact HB.out | apply below_alloc | apply pw_below_drewN | apply below_drew1 | refine below_set ?_ GE259.out) | exact HB.out)) hb); clear BK259; clear HB; have BK259 := n0_; have HB := n1_; clear n0_ n1_; (try clear hb); (try clear hb2); (try clear hk); (try clear hi))))
     go_ret3
     exact ⟨_, _, by first | rfl | (simp [errW_none, errW_some] <;> rfl) | (simp [*, errW_none, errW_some] <;> rfl), by first | exact Kd.R_nil _ _ _ _ _ | exact Kd.N_nil _ _ _ _ _ | exact Kd.V_nil _ _ _ _ _ | exact Kd.Q_nil _ _ _ _ _ | exact Kd.S_nil _ _ _ _ _, by first | exact Kd.R_nil _ _ _ _ _ | exact Kd.N_nil _ _ _ _ _ | exact Kd.V_nil _ _ _ _ _ | exact Kd.Q_nil _ _ _ _ _ | exact Kd.S_nil _ _ _ _ _, by repeat (first | (with_reducible first | exact HB.out | apply below_alloc | apply pw_below_drewN | apply below_drew1 | refine below_set ?_ GE259.out) | exact HB.out)⟩
 · replace c4 := Bool.eq_false_iff.mpr c4
   subst c4
   have H1 : (some (([] : List Int), ([] : List Int), 2)) = some (r1, r2, r3) := by rw [if_neg (show ¬ (false = true) by decide)] at H; exact H
   clear H
   have H := H1
   clear H1
   simp only [Option.some.injEq, Prod.mk.injEq] at H
   obtain ⟨rfl, rfl, rfl⟩ := H
   go_enter Try.func27, Try.ntmps27
   go_wp2_with (first | ((with_reducible refine gate_dst (N := 2) rfl ?_); refine box_event ?hg (N := 2) ?hd (cs := #[.int .i64 a0_0, .int .i64 a0_1]) (t := 32) ?hr ?_; (case hd => rfl); (case hg => rfl); (case hr => first | (go_simp; done) | (go_simp; rfl)); intro gb259 hg w35 hbox hb; have n0_ := Aside0.mk (below_step (by repeat (first | (with_reducible first | exact HB.out | apply below_alloc | apply pw_below_drewN | apply below_drew1) | exact HB.out)) hb); have n1_ := Aside0.mk (hbox); have n2_ := Aside0.mk ((by rw [hg]; exact (below_size (by repeat (first | (with_reducible first | exact HB.out | apply below_alloc | apply pw_below_drewN | apply below_drew1) | exact HB.out))) : w.heap.size ≤ gb259)); have n3_ := Aside0.mk ((by rw [hg]; exact (below_size (by repeat (first | (with_reducible first | exact HB.out | apply below_alloc | apply pw_below_drewN | apply below_drew1) | exact HB.out))) : w.heap.size ≤ gb259)); clear HB; have HB := n0_; have BK259 := n1_; have GW259 := n2_; have GE259 := n3_; clear n0_ n1_ n2_ n3_; clear hb hbox hg; have hcz36_0 : w35.cell? ⟨gb259, 0, none⟩ = some (.int .i64 a0_0) := (blk_cell BK259.out 0).trans rfl; have hcz36_1 : w35.cell? ⟨gb259, 1, none⟩ = some (.int .i64 a0_1) := (blk_cell BK259.out 1).trans rfl; have hfz36_0 := blk_frozen BK259.out 0; have hfz36_1 := blk_frozen BK259.out 1) | (go_at_call 71; (with_reducible refine (kimberliteref01_Good.calls a0_0 a0_1 false _ A3.out).mono ?_); rintro e w37 ⟨rfl, hb⟩; have n0_ := Aside0.mk (blk_below (g := gb259) (o := .cells #[.int .i64 a0_0, .int .i64 a0_1] 32 (0, 0)) (by (with_reducible repeat (first | refine blk_drewN ?_ _ | refine blk_drew ?_ | refine blk_alloc ?_ _)); exact BK259.out) hb); have n1_ := Aside0.mk (below_step (by repeat (first | (with_reducible first | exact HB.out | apply below_alloc | apply pw_below_drewN | apply below_drew1 | refine below_set ?_ GE259.out) | exact HB.out)) hb); clear BK259; clear HB; have BK259 := n0_; have HB := n1_; clear n0_ n1_; (try clear hb); (try clear hb2); (try clear hk); (try clear hi)))
   repeat (go_quiet (first | (go_at_call 71; (with_reducible refine (kimberliteref01_Good.calls a0_0 a0_1 false _ A3.out).mono ?_); rintro e w37 ⟨rfl, hb⟩; have n0_ := Aside0.mk (blk_below (g := gb259) (o := .cells #[.int .i64 a0_0, .int .i64 a0_1] 32 (0, 0)) (by (with_reducible repeat (first | refine blk_drewN ?_ _ | refine blk_drew ?_ | refine blk_alloc ?_ _)); exact BK259.out) hb); have n1_ := Aside0.mk (below_step (by repeat (first | (with_reducible first | exact HB.out | apply below_alloc | apply pw_below_drewN | apply below_drew1 | refine below_set ?_ GE259.out) | exact HB.out)) hb); clear BK259; clear HB; have BK259 := n0_; have HB := n1_; clear n0_ n1_; (try clear hb); (try clear hb2); (try clear hk); (try clear hi))); try go_wp2_with (first | ((with_reducible refine gate_dst (N := 2) rfl ?_); refine box_event ?hg (N := 2) ?hd (cs := #[.int .i64 a0_0, .int .i64 a0_1]) (t := 32) ?hr ?_; (case hd => rfl); (case hg => rfl); (case hr => first | (go_simp; done) | (go_simp; rfl)); intro gb259 hg w35 hbox hb; have n0_ := Aside0.mk (below_step (by repeat (first | (with_reducible first | exact HB.out | apply below_alloc | apply pw_below_drewN | apply below_drew1) | exact HB.out)) hb); have n1_ := Aside0.mk (hbox); have n2_ := Aside0.mk ((by rw [hg]; exact (below_size (by repeat (first | (with_reducible first | exact HB.out | apply below_alloc | apply pw_below_drewN | apply below_drew1) | exact HB.out))) : w.heap.size ≤ gb259)); have n3_ := Aside0.mk ((by rw [hg]; exact (below_size (by repeat (first | (with_reducible first | exact HB.out | apply below_alloc | apply pw_below_drewN | apply below_drew1) | exact HB.out))) : w.heap.size ≤ gb259)); clear HB; have HB := n0_; have BK259 := n1_; have GW259 := n2_; have GE259 := n3_; clear n0_ n1_ n2_ n3_; clear hb hbox hg; have hcz36_0 : w35.cell? ⟨gb259, 0, none⟩ = some (.int .i64 a0_0) := (blk_cell BK259.out 0).trans rfl; have hcz36_1 : w35.cell? ⟨gb259, 1, none⟩ = some (.int .i64 a0_1) := (blk_cell BK259.out 1).trans rfl; have hfz36_0 := blk_frozen BK259.out 0; have hfz36_1 := blk_frozen BK259.out 1) | (go_at_call 71; (with_reducible refine (kimberliteref01_Good.calls a0_0 a0_1 false _ A3.out).mono ?_); rintro e w37 ⟨rfl, hb⟩; have n0_ := Aside0.mk (blk_below (g := gb259) (o := .cells #[.int .i64 a0_0, .int .i64 a0_1] 32 (0, 0)) (by (with_reducible repeat (first | refine blk_drewN ?_ _ | refine blk_drew ?_ | refine blk_alloc ?_ _)); exact BK259.out) hb); have n1_ := Aside0.mk (below_step (by repeat (first | (with_reducible first | exact HB.out | apply below_alloc | apply pw_below_drewN | apply below_drew1 | refine below_set ?_ GE259.out) | exact HB.out)) hb); clear BK259; clear HB; have BK259 := n0_; have HB := n1_; clear n0_ n1_; (try clear hb); (try clear hb2); (try clear hk); (try clear hi))))
   go_ret3
   exact ⟨_, _, by first | rfl | (simp [errW_none, errW_some] <;> rfl) | (simp [*, errW_none, errW_some] <;> rfl), by first | exact Kd.R_nil _ _ _ _ _ | exact Kd.N_nil _ _ _ _ _ | exact Kd.V_nil _ _ _ _ _ | exact Kd.Q_nil _ _ _ _ _ | exact Kd.S_nil _ _ _ _ _, by first | exact Kd.R_nil _ _ _ _ _ | exact Kd.N_nil _ _ _ _ _ | exact Kd.V_nil _ _ _ _ _ | exact Kd.Q_nil _ _ _ _ _ | exact Kd.S_nil _ _ _ _ _, by repeat (first | (with_reducible first | exact HB.out | apply below_alloc | apply pw_below_drewN | apply below_drew1 | refine below_set ?_ GE259.out) | exact HB.out)⟩
end Go.Proofs.Ytningpmoojnomaa.Pr
end
section
namespace Go.Proofs.Ytningpmoojnomaa.Pr
open Go.RowKit Go.Proofs.YtningpmoojnomaaW.PrintWords Go.Proofs.YtningpmoojnomaaW.PrintLast Go.Proofs.YtningpmoojnomaaW.PrintMore
attribute [local go_sem] max2_int min2_int max_two min_two max_three min_three max_four min_four   -- for this text's walks alone
set_option linter.unusedVariables false
set_option linter.unusedSimpArgs false
def span_Apart.f (k : Nat) (a0_0 : Int) (a0_1 : Int) (l1 : List (S32)) : Option (List Int × Int) := (span_covered.f k a0_0 a0_1 l1).bind fun bt362 => (some (bt362.2.1, bt362.2.2))
theorem span_Apart.mono : ∀ a0 a1 a2 k, LeO (span_Apart.f k a0 a1 a2) (span_Apart.f (k + 1) a0 a1 a2) := by
 intro a0 a1 a2 k
 unfold span_Apart.f
 repeat' first
  | (with_reducible exact span_covered.mono _ _ _ _)
  | (with_reducible exact LeO.refl _)
  | (with_reducible exact LeO.none _)
  | (with_reducible refine LeO.ite ?_ ?_)
  | (with_reducible refine LeO.bind ?_ (fun _ => ?_))
  | exact span_covered.mono _ _ _ _
  | exact LeO.none _
  | refine LeO.ite ?_ ?_
  | refine LeO.bind ?_ (fun _ => ?_)
set_option maxHeartbeats 8000000 in
set_option maxRecDepth 100000 in
theorem span_Apart.calls (k : Nat) (a0_0 : Int) (a0_1 : Int) (A1 : Option Addr) (c1 : Nat) (l1 : List (S32)) (r1 : List Int) (r2 : Int) (w : World) (hr1 : Kd.C k32 w A1 l1.length l1) (hc1 : l1.length ≤ c1) (h : span_Apart.f k a0_0 a0_1 l1 = some (r1, r2)) :
 Calls Try.prog 26 #[.agg #[.int .i64 a0_0, .int .i64 a0_1], .slice A1 l1.length c1] w fun e w' => ∃ v0_ : Value, e = .returned (.tuple #[v0_, .int .i64 r2]) ∧ Kd.R (Kd.int .i64) 3 w' w.heap.size (fun _ => True) v0_ r1 ∧ Below w.heap.size w w' := by
 have hu32 := Try.underlying32
 have HR1 := Aside0.mk hr1
 have HC1 := Aside0.mk hc1
 clear hr1 hc1
 have HB := Aside0.mk (Below.refl w.heap.size w)
 have H : ((span_covered.f k a0_0 a0_1 l1).bind fun bt362 => (some (bt362.2.1, bt362.2.2))) = some (r1, r2) := h
 clear h
 replace H := Option.bind_eq_some_iff.mp H
 obtain ⟨⟨t362, t365, t368⟩, A30, H⟩ := H
 replace H : (some (t365, t368)) = some (r1, r2) := H
 have A3 := Aside0.mk A30
 clear A30
 simp only [Option.some.injEq, Prod.mk.injEq] at H
 obtain ⟨rfl, rfl⟩ := H
 go_enter Try.func26, Try.ntmps26
 go_wp2_with (first | ((with_reducible refine gate_dst (N := 2) rfl ?_); refine box_event ?hg (N := 2) ?hd (cs := #[.int .i64 a0_0, .int .i64 a0_1]) (t := 32) ?hr ?_; (case hd => rfl); (case hg => rfl); (case hr => first | (go_simp; done) | (go_simp; rfl)); intro gb361 hg w4 hbox hb; have n0_ := Aside0.mk (below_step (by repeat (first | (with_reducible first | exact HB.out | apply below_alloc | apply pw_below_drewN | apply below_drew1) | exact HB.out)) hb); have n1_ := Aside0.mk (hbox); have n2_ := Aside0.mk ((by rw [hg]; exact (below_size (by repeat (first | (with_reducible first | exact HB.out | apply below_alloc | apply pw_below_drewN | apply below_drew1) | exact HB.out))) : w.heap.size ≤ gb361)); have n3_ := Aside0.mk ((by rw [hg]; exact (below_size (by repeat (first | (with_reducible first | exact HB.out | apply below_alloc | apply pw_below_drewN | apply below_drew1) | exact HB.out))) : w.heap.size ≤ gb361)); clear HB; have HB := n0_; have BK361 := n1_; have GW361 := n2_; have GE361 := n3_; clear n0_ n1_ n2_ n3_; clear hb hbox hg; have hcz5_0 : w4.cell? ⟨gb361, 0, none⟩ = some (.int .i64 a0_0) := (blk_cell BK361.out 0).trans rfl; have hcz5_1 : w4.cell? ⟨gb361, 1, none⟩ = some (.int .i64 a0_1) := (blk_cell BK361.out 1).trans rfl; have hfz5_0 := blk_frozen BK361.out 0; have hfz5_1 := blk_frozen BK361.out 1) | ((with_reducible refine gate_callee (f := 72) rfl ?_); refine goesL_ (some 12) rfl rfl Try.func72 (by kernel_rfl) rfl #[.agg #[.int .i64 a0_0, .int .i64 a0_1], .slice A1 l1.length c1] rfl (by (try simp only [List.map_toArray, List.map_cons, List.map_nil]); first | done | rfl | (simp only [List.length_drop, List.length_take]; rfl)) ?_; (with_reducible refine (span_covered.calls k a0_0 a0_1 _ _ l1 t362 t365 t368 _ ?side1 ?side2 A3.out).mono ?_); (case side1 => repeat (first | exact (Kd.C_below HR1.out HB.out) | (with_reducible refine Kd.C_alloc ?_ _) | (with_reducible refine Kd.C_drewN ?_ _) | (with_reducible refine Kd.C_drew ?_))); (case side2 => exact HC1.out); rintro e w6 ⟨v363, v366, rfl, ho0, ho1, hb⟩; refine ⟨_, rfl, ?_⟩; have n0_ := Aside0.mk (Kd.R_lower ho0 (below_size (by repeat (first | (with_reducible first | exact HB.out | apply below_alloc | apply pw_below_drewN | apply below_drew1 | refine below_set ?_ GE361.out) | exact HB.out)))); have n1_ := Aside0.mk (Kd.R_lower ho1 (below_size (by repeat (first | (with_reducible first | exact HB.out | apply below_alloc | apply pw_below_drewN | apply below_drew1 | refine below_set ?_ GE361.out) | exact HB.out)))); have n2_ := Aside0.mk (blk_below (g := gb361) (o := .cells #[.int .i64 a0_0, .int .i64 a0_1] 32 (0, 0)) (by (with_reducible repeat (first | refine blk_drewN ?_ _ | refine blk_drew ?_ | refine blk_alloc ?_ _)); exact BK361.out) hb); have n3_ := Aside0.mk (below_step (by repeat (first | (with_reducible first | exact HB.out | apply below_alloc | apply pw_below_drewN | apply below_drew1 | refine below_set ?_ GE361.out) | exact HB.out)) hb); clear BK361; clear HB; have HO364 := n0_; have HO367 := n1_; have BK361 := n2_; have HB := n3_; clear n0_ n1_ n2_ n3_; (try clear hb); (try clear hb2); (try clear hk); (try clear hi); (try clear ho0); (try clear ho1)))
 go_ret2
 exact ⟨_, by first | rfl | (simp [errW_none, errW_some] <;> rfl) | (simp [*, errW_none, errW_some] <;> rfl), by (with_reducible repeat (first | apply Kd.R_alloc | apply Kd.R_drewN | apply Kd.R_drew)); exact Kd.R_mono HO367.out (fun _ hk => trivial), by repeat (first | (with_reducible first | exact HB.out | apply below_alloc | apply pw_below_drewN | apply below_drew1 | refine below_set ?_ GE361.out) | exact HB.out)⟩
end Go.Proofs.Ytningpmoojnomaa.Pr
end
section
namespace Go.Proofs.Ytningpmoojnomaa.Pr
open Go.RowKit Go.Proofs.YtningpmoojnomaaW.PrintWords Go.Proofs.YtningpmoojnomaaW.PrintLast Go.Proofs.YtningpmoojnomaaW.PrintMore
set_option linter.unusedVariables false
set_option linter.unusedSimpArgs false
theorem rd_nat (l : List S32) (i : Nat) : rd_T32 l (i : Int) = l.getD i z32 := by unfold rd_T32; rw [Int.toNat_natCast]
theorem wrap_succ {i n : Nat} (h : i < n) (hn : n ≤ 9223372036854775807) : wrap64 ((i : Int) + 1) = ((i + 1 : Nat) : Int) := by
  unfold wrap64
  omega
theorem drop_cons (l : List S32) (i : Nat) (h : i < l.length) : l.drop i = l.getD i z32 :: l.drop (i + 1) := by
  rw [List.drop_eq_getElem_cons h]
  simp [List.getD_eq_getElem?_getD, List.getElem?_eq_getElem h]
theorem refGood_f (x : S32) : kimberliteref01_Good.f x.f0 x.f1 = some (goodS x) := goodS_f x
theorem goodS_iff (s : S32) : goodS s = true ↔ -1099511627776 ≤ s.f0 ∧ s.f0 < s.f1 ∧ s.f1 ≤ 1099511627776 := by
  unfold goodS
  simp
end Go.Proofs.Ytningpmoojnomaa.Pr
end
section
namespace Go.Proofs.Ytningpmoojnomaa.Pr
open Go.RowKit Go.Proofs.YtningpmoojnomaaW.PrintWords Go.Proofs.YtningpmoojnomaaW.PrintLast Go.Proofs.YtningpmoojnomaaW.PrintMore
set_option linter.unusedVariables false
set_option linter.unusedSimpArgs false
theorem refList_loop (l : List S32) (hn : l.length ≤ 1000000) : ∀ (d i : Nat), l.length - i = d → Ev (fun k => kimberliteref01_List.l0 k l (i : Int)) (if (l.drop i).any (fun x => !goodS x) then 2 else 0)
  | 0, i, h => by
    rw [List.drop_eq_nil_of_le (by omega)]
    exact Ev.step (f := fun _ => some 0) (fun k => by simp only [kimberliteref01_List.l0]; rw [if_neg (by omega)]) (Ev.now _)
  | d + 1, i, h => by
    have hi : i < l.length := by omega
    rw [drop_cons l i hi, List.any_cons]
    by_cases hg : goodS (l.getD i z32) = true
    · rw [hg]
      have := refList_loop l hn d (i + 1) (by omega)
      simp only [Bool.not_true, Bool.false_or]
      exact Ev.step (fun k => by simp only [kimberliteref01_List.l0]; rw [if_pos (by omega), if_pos (by omega), rd_nat, refGood_f, wrap_succ hi (by omega)]; simp only [Option.bind_some]; rw [if_pos hg]) this
    · rw [Bool.eq_false_iff.2 hg]
      simp only [Bool.not_false, Bool.true_or, if_true]
      exact Ev.step (f := fun _ => some 2) (fun k => by simp only [kimberliteref01_List.l0]; rw [if_pos (by omega), if_pos (by omega), rd_nat, refGood_f]; simp only [Option.bind_some]; rw [if_neg hg]) (Ev.now _)
/-- What is said of a list of spans: 3 too long, 2 not good, 0. -/
def listR (l : List S32) : Int := if l.length > 128 then 3 else if l.any (fun x => !goodS x) then 2 else 0
theorem listed_f (l : List S32) : span_listed.f l = some (listR l) := by
  unfold span_listed.f listR
  by_cases h : l.length > 128
  · rw [if_pos h, if_pos h]
  · rw [if_neg h, if_neg h]
    cases l.any (fun x => !goodS x) <;> rfl
theorem refList_ev (l : List S32) : Ev (fun k => kimberliteref01_List.f k l) (listR l) := by
  unfold kimberliteref01_List.f listR
  by_cases h : l.length > 128
  · rw [if_pos h]
    simp only [if_pos (show (l.length : Int) > 128 by omega)]
    exact Ev.now _
  · rw [if_neg h]
    simp only [if_neg (show ¬ (l.length : Int) > 128 by omega)]
    exact refList_loop l (by omega) _ 0 rfl
theorem listR_good {l : List S32} (h : listR l = 0) : l.length ≤ 128 ∧ ∀ s ∈ l, -1099511627776 ≤ s.f0 ∧ s.f0 < s.f1 ∧ s.f1 ≤ 1099511627776 := by
  unfold listR at h
  by_cases h1 : l.length > 128
  · rw [if_pos h1] at h; omega
  · rw [if_neg h1] at h
    by_cases h2 : l.any (fun x => !goodS x) = true
    · rw [if_pos h2] at h; omega
    · refine ⟨by omega, fun s hs => ?_⟩
      rw [← goodS_iff]
      simp only [List.any_eq_true, Bool.not_eq_true'] at h2
      exact Decidable.byContradiction fun hc => h2 ⟨s, hs, Bool.eq_false_iff.2 hc⟩
end Go.Proofs.Ytningpmoojnomaa.Pr
end
section
namespace Go.Proofs.Ytningpmoojnomaa.Pr
open Go.RowKit Go.Proofs.YtningpmoojnomaaW.PrintWords Go.Proofs.YtningpmoojnomaaW.PrintLast Go.Proofs.YtningpmoojnomaaW.PrintMore
set_option linter.unusedVariables false
set_option linter.unusedSimpArgs false
/-- The better of the span in hand (its index; -1: none) and the i-th one, for the number x. -/
def takesB (l : List S32) (x b : Int) (i : Nat) : Bool := decide ((l.getD i z32).f0 ≤ x) && (decide (x < (l.getD i z32).f1) && (decide (b < 0) || decide ((l.getD i z32).f1 > (l.getD b.toNat z32).f1)))
def bestF (l : List S32) (x : Int) : Nat → Nat → Int → Int
  | 0, _, b => b
  | d + 1, i, b => bestF l x d (i + 1) (if takesB l x b i = true then (i : Int) else b)
def best (l : List S32) (x : Int) : Int := bestF l x l.length 0 (-1)
def holds (l : List S32) (x : Int) (j : Nat) : Prop := (l.getD j z32).f0 ≤ x ∧ x < (l.getD j z32).f1
def BestAt (l : List S32) (x : Int) (i : Nat) (b : Int) : Prop :=
  (b = -1 ∧ ∀ j, j < i → ¬ holds l x j) ∨ ∃ m : Nat, m < i ∧ b = (m : Int) ∧ holds l x m ∧ ∀ j, j < i → holds l x j → (l.getD j z32).f1 ≤ (l.getD m z32).f1
theorem bestAt_step (l : List S32) (x : Int) (i : Nat) (b : Int) (h : BestAt l x i b) : BestAt l x (i + 1) (if takesB l x b i = true then (i : Int) else b) := by
  unfold takesB
  rcases h with ⟨rfl, h⟩ | ⟨m, hm, rfl, h1, h2⟩
  · by_cases hc : holds l x i
    · obtain ⟨c1, c2⟩ := hc
      rw [decide_eq_true c1, decide_eq_true c2]
      simp only [Int.reduceNeg, Int.reduceLT, decide_true, Bool.true_or, Bool.and_self, if_true]
      refine .inr ⟨i, by omega, rfl, ⟨c1, c2⟩, fun j hj hh => ?_⟩
      rcases Nat.lt_succ_iff_lt_or_eq.1 hj with hj | rfl
      · exact absurd hh (h j hj)
      · exact Int.le_refl _
    · rw [if_neg (by
        simp only [Bool.and_eq_true, decide_eq_true_eq]
        exact fun hh => hc ⟨hh.1, hh.2.1⟩)]
      refine .inl ⟨rfl, fun j hj => ?_⟩
      rcases Nat.lt_succ_iff_lt_or_eq.1 hj with hj | rfl
      · exact h j hj
      · exact hc
  · by_cases hc : holds l x i ∧ (l.getD i z32).f1 > (l.getD m z32).f1
    · obtain ⟨⟨c1, c2⟩, c3⟩ := hc
      rw [decide_eq_true c1, decide_eq_true c2, Int.toNat_natCast, decide_eq_true c3]
      simp only [Bool.or_true, Bool.and_self, if_true]
      refine .inr ⟨i, by omega, rfl, ⟨c1, c2⟩, fun j hj hh => ?_⟩
      rcases Nat.lt_succ_iff_lt_or_eq.1 hj with hj | rfl
      · have := h2 j hj hh; omega
      · exact Int.le_refl _
    · rw [if_neg (by
        simp only [Bool.and_eq_true, Bool.or_eq_true, decide_eq_true_eq, Int.toNat_natCast]
        exact fun hh => hc ⟨⟨hh.1, hh.2.1⟩, by rcases hh.2.2 with h | h <;> omega⟩)]
      refine .inr ⟨m, by omega, rfl, h1, fun j hj hh => ?_⟩
      rcases Nat.lt_succ_iff_lt_or_eq.1 hj with hj | rfl
      · exact h2 j hj hh
      · exact Int.not_lt.1 fun hc' => hc ⟨hh, hc'⟩
theorem bestF_at (l : List S32) (x : Int) : ∀ (d i : Nat) (b : Int), BestAt l x i b → BestAt l x (i + d) (bestF l x d i b)
  | 0, i, b, h => h
  | d + 1, i, b, h => by
    have := bestF_at l x d (i + 1) _ (bestAt_step l x i b h)
    rw [show i + (d + 1) = i + 1 + d by omega]
    exact this
theorem best_at (l : List S32) (x : Int) : BestAt l x l.length (best l x) := by
  have := bestF_at l x l.length 0 (-1) (.inl ⟨rfl, fun j hj => absurd hj (Nat.not_lt_zero _)⟩)
  rwa [Nat.zero_add] at this
/-- The steps of the greedy rule up to hi. -/
def cov (l : List S32) (hi : Int) : Nat → Int → List Int → List Int → List Int × List Int × Int
  | 0, _, t, a => (t, a, 0)
  | d + 1, x, t, a => if x < hi then (if best l x < 0 then ([], [], 10) else cov l hi d (l.getD (best l x).toNat z32).f1 (t ++ [best l x]) (a ++ [x])) else (t, a, 0)
theorem covered_l1 (l : List S32) (hn : l.length ≤ 1000) (t a : List Int) (x lo hi : Int) (ht : t.length < 17592186044416) (ha : a.length < 17592186044416) (r : List Int × List Int × Int) : ∀ (d i : Nat) (b : Int), l.length - i = d → i ≤ l.length → (b = -1 ∨ ∃ m : Nat, m < l.length ∧ b = (m : Int)) →
    (∀ z, bestF l x d i b = z → Ev (fun k => if z < 0 then some ([], [], 10) else span_covered.l0 k l (t ++ [z]) (a ++ [x]) (l.getD z.toNat z32).f1 lo hi) r) →
    Ev (fun k => span_covered.l1 k l t a x b l (l.length : Int) (i : Int) lo hi) r
  | 0, i, b, h, _, hb, hr => by
    have hr := hr b rfl
    refine Ev.step (fun k => ?_) hr
    simp only [span_covered.l1]
    rw [if_neg (by omega)]
    rcases hb with rfl | ⟨m, hm, rfl⟩
    · rw [if_pos (show (-1 : Int) < 0 by omega), if_pos (show (-1 : Int) < 0 by omega)]
    · rw [if_neg (show ¬ (m : Int) < 0 by omega), if_neg (show ¬ (m : Int) < 0 by omega), if_pos ht, if_pos ha, if_pos (show (0 : Int) ≤ (m : Int) by omega), if_pos (show (m : Int) < (l.length : Int) by omega), rd_nat, Int.toNat_natCast]
  | d + 1, i, b, h, hi', hb, hr => by
    have hi0 : i < l.length := by clear hb hr; omega
    have e1 : l.length - (i + 1) = d := by clear hb hr; omega
    refine Ev.step (f := fun k => span_covered.j2 k l t a x b (i : Int) l (l.length : Int) (i : Int) (takesB l x b i) lo hi) (fun k => ?_) ?_
    · simp only [span_covered.l1, takesB]
      rw [if_pos (by omega), if_pos (by omega), if_pos (by omega), rd_nat]
      by_cases c1 : (l.getD i z32).f0 ≤ x
      · rw [if_pos c1, decide_eq_true c1]
        by_cases c2 : x < (l.getD i z32).f1
        · rw [if_pos c2, decide_eq_true c2]
          rcases hb with rfl | ⟨m, hm, rfl⟩
          · rw [if_pos (by omega)]
            simp
          · rw [if_neg (by omega), if_pos (by omega), if_pos (by omega), rd_nat, Int.toNat_natCast, decide_eq_false (show ¬ ((m : Nat) : Int) < 0 by omega)]
            simp
        · rw [if_neg c2, decide_eq_false c2]
          simp
      · rw [if_neg c1, decide_eq_false c1]
        simp
    · have hb' : (if takesB l x b i = true then (i : Int) else b) = -1 ∨ ∃ m : Nat, m < l.length ∧ (if takesB l x b i = true then (i : Int) else b) = (m : Int) := by
        by_cases hc : takesB l x b i = true
        · rw [if_pos hc]; exact .inr ⟨i, hi0, rfl⟩
        · rw [if_neg hc]; exact hb
      have := covered_l1 l hn t a x lo hi ht ha r d (i + 1) _ e1 hi0 hb' hr
      refine Ev.step (fun k => ?_) this
      simp only [span_covered.j2]
      rw [wrap_succ hi0 (by omega)]
      by_cases hc : takesB l x b i = true
      · rw [if_pos hc, if_pos hc]
      · rw [if_neg hc, if_neg hc]
theorem steps_l1 (l : List S32) (hn : l.length ≤ 1000) (t a : List Int) (x lo hi : Int) (ht : t.length < 17592186044416) (ha : a.length < 17592186044416) (r : List Int × List Int × Int) : ∀ (d i : Nat) (b : Int), l.length - i = d → i ≤ l.length → (b = -1 ∨ ∃ m : Nat, m < l.length ∧ b = (m : Int)) →
    (∀ z, bestF l x d i b = z → Ev (fun k => if z < 0 then some ([], [], 10) else kimberliteref01_Steps.l0 k l (t ++ [z]) (a ++ [x]) (l.getD z.toNat z32).f1 lo hi) r) →
    Ev (fun k => kimberliteref01_Steps.l1 k l t a x b (i : Int) lo hi) r
  | 0, i, b, h, _, hb, hr => by
    have hr := hr b rfl
    refine Ev.step (fun k => ?_) hr
    simp only [kimberliteref01_Steps.l1]
    rw [if_neg (by omega)]
    rcases hb with rfl | ⟨m, hm, rfl⟩
    · rw [if_pos (show (-1 : Int) < 0 by omega), if_pos (show (-1 : Int) < 0 by omega)]
    · rw [if_neg (show ¬ (m : Int) < 0 by omega), if_neg (show ¬ (m : Int) < 0 by omega), if_pos ht, if_pos ha, if_pos (show (0 : Int) ≤ (m : Int) by omega), if_pos (show (m : Int) < (l.length : Int) by omega), rd_nat, Int.toNat_natCast]
  | d + 1, i, b, h, hi', hb, hr => by
    have hi0 : i < l.length := by clear hb hr; omega
    have e1 : l.length - (i + 1) = d := by clear hb hr; omega
    refine Ev.step (f := fun k => kimberliteref01_Steps.j2 k l t a x b (i : Int) (takesB l x b i) lo hi) (fun k => ?_) ?_
    · simp only [kimberliteref01_Steps.l1, takesB]
      rw [if_pos (by omega), if_pos (by omega), rd_nat]
      by_cases c1 : (l.getD i z32).f0 ≤ x
      · rw [if_pos c1, decide_eq_true c1]
        by_cases c2 : x < (l.getD i z32).f1
        · rw [if_pos c2, decide_eq_true c2]
          rcases hb with rfl | ⟨m, hm, rfl⟩
          · rw [if_pos (by omega)]
            simp
          · rw [if_neg (by omega), if_pos (by omega), if_pos (by omega), rd_nat, Int.toNat_natCast, decide_eq_false (show ¬ ((m : Nat) : Int) < 0 by omega)]
            simp
        · rw [if_neg c2, decide_eq_false c2]
          simp
      · rw [if_neg c1, decide_eq_false c1]
        simp
    · have hb' : (if takesB l x b i = true then (i : Int) else b) = -1 ∨ ∃ m : Nat, m < l.length ∧ (if takesB l x b i = true then (i : Int) else b) = (m : Int) := by
        by_cases hc : takesB l x b i = true
        · rw [if_pos hc]; exact .inr ⟨i, hi0, rfl⟩
        · rw [if_neg hc]; exact hb
      have := steps_l1 l hn t a x lo hi ht ha r d (i + 1) _ e1 hi0 hb' hr
      refine Ev.step (fun k => ?_) this
      simp only [kimberliteref01_Steps.j2]
      rw [wrap_succ hi0 (by omega)]
      by_cases hc : takesB l x b i = true
      · rw [if_pos hc, if_pos hc]
      · rw [if_neg hc, if_neg hc]
theorem best_pos {l : List S32} {x : Int} (h : ¬ best l x < 0) : x < (l.getD (best l x).toNat z32).f1 ∧ (best l x).toNat < l.length := by
  rcases best_at l x with ⟨e, _⟩ | ⟨m, hm, e, hh, _⟩
  · omega
  · rw [e, Int.toNat_natCast]
    exact ⟨hh.2, hm⟩
theorem good_at {l : List S32} (hg : ∀ s ∈ l, -1099511627776 ≤ s.f0 ∧ s.f0 < s.f1 ∧ s.f1 ≤ 1099511627776) {i : Nat} (hi : i < l.length) : -1099511627776 ≤ (l.getD i z32).f0 ∧ (l.getD i z32).f0 < (l.getD i z32).f1 ∧ (l.getD i z32).f1 ≤ 1099511627776 := by
  refine hg _ ?_
  rw [List.getD_eq_getElem?_getD, List.getElem?_eq_getElem hi]
  exact List.getElem_mem hi
theorem covered_l0 (l : List S32) (hn : l.length ≤ 1000) (hg : ∀ s ∈ l, -1099511627776 ≤ s.f0 ∧ s.f0 < s.f1 ∧ s.f1 ≤ 1099511627776) (lo hi : Int) (hhi : hi ≤ 1099511627776) : ∀ (d : Nat) (x : Int) (t a : List Int), (hi - x).toNat ≤ d → -1099511627776 ≤ x → x ≤ 1099511627776 → (t.length : Int) ≤ x + 1099511627776 → (a.length : Int) ≤ x + 1099511627776 →
    Ev (fun k => span_covered.l0 k l t a x lo hi) (cov l hi d x t a)
  | 0, x, t, a, h, _, _, _, _ => Ev.step (f := fun _ => some (t, a, 0)) (fun k => by simp only [span_covered.l0]; rw [if_neg (by omega)]) (Ev.now _)
  | d + 1, x, t, a, h, h1, h2, h3, h4 => by
    rw [cov]
    by_cases hx : x < hi
    · rw [if_pos hx]
      refine Ev.step (f := fun k => span_covered.l1 k l t a x (-1) l (l.length : Int) ((0 : Nat) : Int) lo hi) (fun k => by simp only [span_covered.l0]; rw [if_pos hx]; rfl) ?_
      refine covered_l1 l hn t a x lo hi (by omega) (by omega) _ _ 0 (-1) rfl (by omega) (.inl rfl) ?_
      intro z hz
      change best l x = z at hz
      subst hz
      by_cases hb : best l x < 0
      · simp only [if_pos hb]
        exact Ev.now _
      · simp only [if_neg hb]
        obtain ⟨p1, p2⟩ := best_pos hb
        have := good_at hg p2
        exact covered_l0 l hn hg lo hi hhi d _ _ _ (by omega) (by omega) (by omega) (by rw [List.length_append, List.length_singleton]; omega) (by rw [List.length_append, List.length_singleton]; omega)
    · rw [if_neg hx]
      exact Ev.step (f := fun _ => some (t, a, 0)) (fun k => by simp only [span_covered.l0]; rw [if_neg hx]) (Ev.now _)
theorem steps_l0 (l : List S32) (hn : l.length ≤ 1000) (hg : ∀ s ∈ l, -1099511627776 ≤ s.f0 ∧ s.f0 < s.f1 ∧ s.f1 ≤ 1099511627776) (lo hi : Int) (hhi : hi ≤ 1099511627776) : ∀ (d : Nat) (x : Int) (t a : List Int), (hi - x).toNat ≤ d → -1099511627776 ≤ x → x ≤ 1099511627776 → (t.length : Int) ≤ x + 1099511627776 → (a.length : Int) ≤ x + 1099511627776 →
    Ev (fun k => kimberliteref01_Steps.l0 k l t a x lo hi) (cov l hi d x t a)
  | 0, x, t, a, h, _, _, _, _ => Ev.step (f := fun _ => some (t, a, 0)) (fun k => by simp only [kimberliteref01_Steps.l0]; rw [if_neg (by omega)]) (Ev.now _)
  | d + 1, x, t, a, h, h1, h2, h3, h4 => by
    rw [cov]
    by_cases hx : x < hi
    · rw [if_pos hx]
      refine Ev.step (f := fun k => kimberliteref01_Steps.l1 k l t a x (-1) ((0 : Nat) : Int) lo hi) (fun k => by simp only [kimberliteref01_Steps.l0]; rw [if_pos hx]; rfl) ?_
      refine steps_l1 l hn t a x lo hi (by omega) (by omega) _ _ 0 (-1) rfl (by omega) (.inl rfl) ?_
      intro z hz
      change best l x = z at hz
      subst hz
      by_cases hb : best l x < 0
      · simp only [if_pos hb]
        exact Ev.now _
      · simp only [if_neg hb]
        obtain ⟨p1, p2⟩ := best_pos hb
        have := good_at hg p2
        exact steps_l0 l hn hg lo hi hhi d _ _ _ (by omega) (by omega) (by omega) (by rw [List.length_append, List.length_singleton]; omega) (by rw [List.length_append, List.length_singleton]; omega)
    · rw [if_neg hx]
      exact Ev.step (f := fun _ => some (t, a, 0)) (fun k => by simp only [kimberliteref01_Steps.l0]; rw [if_neg hx]) (Ev.now _)
def covR (g : S32) (l : List S32) : List Int × List Int × Int :=
  if goodS g = true then (if listR l = 0 then cov l g.f1 (g.f1 - g.f0).toNat g.f0 [] [] else ([], [], listR l)) else ([], [], 2)
theorem covered_ev (g : S32) (l : List S32) : Ev (fun k => span_covered.f k g.f0 g.f1 l) (covR g l) := by
  unfold span_covered.f covR
  rw [goodS_f]
  simp only [Option.bind_some]
  by_cases hg : goodS g = true
  · simp only [if_pos hg, listed_f, Option.bind_some]
    by_cases hl : listR l = 0
    · simp only [if_pos hl]
      obtain ⟨h1, h2⟩ := listR_good hl
      have hg' := (goodS_iff g).1 hg
      exact covered_l0 l (by omega) h2 _ _ hg'.2.2 _ _ _ _ (Nat.le_refl _) hg'.1 (by omega) (by simp; omega) (by simp; omega)
    · simp only [if_neg hl]
      exact Ev.now _
  · simp only [if_neg hg]
    exact Ev.now _
theorem steps_ev (g : S32) (l : List S32) : Ev (fun k => kimberliteref01_Steps.f k g.f0 g.f1 l) (covR g l) := by
  unfold kimberliteref01_Steps.f covR
  rw [refGood_f]
  simp only [Option.bind_some]
  by_cases hg : goodS g = true
  · simp only [if_pos hg]
    refine Ev.bind (refList_ev l) ?_
    by_cases hl : listR l = 0
    · simp only [if_pos hl]
      obtain ⟨h1, h2⟩ := listR_good hl
      have hg' := (goodS_iff g).1 hg
      exact steps_l0 l (by omega) h2 _ _ hg'.2.2 _ _ _ _ (Nat.le_refl _) hg'.1 (by omega) (by simp; omega) (by simp; omega)
    · simp only [if_neg hl]
      exact Ev.now _
  · simp only [if_neg hg]
    exact Ev.now _
theorem cover_ev (g : S32) (l : List S32) : Ev (fun k => span_Cover.f k g.f0 g.f1 l) ((covR g l).1, (covR g l).2.2) := by
  unfold span_Cover.f
  exact Ev.bind (covered_ev g l) (Ev.now _)
theorem apart_ev (g : S32) (l : List S32) : Ev (fun k => span_Apart.f k g.f0 g.f1 l) ((covR g l).2.1, (covR g l).2.2) := by
  unfold span_Apart.f
  exact Ev.bind (covered_ev g l) (Ev.now _)
end Go.Proofs.Ytningpmoojnomaa.Pr
end
section
namespace Go.Proofs.Ytningpmoojnomaa.Pr
open Go.RowKit Go.ChangeShapes Go.WideShapes Go.Deep Go.Joins Go.Proofs.YtningpmoojnomaaW.PrintWords Go.Proofs.YtningpmoojnomaaW.PrintLast Go.Proofs.YtningpmoojnomaaW.PrintMore
set_option linter.unusedVariables false
set_option linter.unusedSimpArgs false
section
variable {H : Type} {enc : TypeId × Value → H} {W : World}
/-- Both numbers of a span are int64s. -/
def okS (x : S32) : Prop := (Lit.int .i64 x.f0).wf = true ∧ (Lit.int .i64 x.f1).wf = true
set_option maxRecDepth 100000 in
theorem open_spans {a : Option Addr} {len cap : Nat} {d : DataW H} {p : List MemPlace} (h : DataW.Trod enc Try.prog W 0 (fun _ => true) true 22 (.slice a len cap) d p) :
    ∃ l : List S32, l.length = len ∧ l.length ≤ cap ∧ Kd.C k32 W a l.length l ∧ ∀ x ∈ l, okS x := by
  obtain ⟨fuel, hf⟩ := h
  rcases open_slice Try.underlying22 hf with ⟨hcs, _⟩ | ⟨ad, len', cap', m, n, D, Pl, hcs, _, hl, hm, hmm, _, hi⟩
  · simp [Value.cells] at hcs
    obtain ⟨rfl, rfl, rfl⟩ := hcs
    exact ⟨[], rfl, by simp, ⟨rfl, by simp, fun h => absurd h (by simp)⟩, fun x hx => absurd hx (by simp)⟩
  · simp [Value.cells] at hcs
    obtain ⟨rfl, rfl, rfl⟩ := hcs
    have hC : Try.prog.cellsOf 32 = 2 := by kernel_rfl
    have key : ∀ i, i < len → ∃ x : S32, okS x ∧ W.cell? (ad.add (i * 2)) = some (.int .i64 x.f0) ∧ W.cell? (ad.add (i * 2 + 1)) = some (.int .i64 x.f1) := by
      intro i hil
      obtain ⟨cs', hc, ht'⟩ := hi i (by rw [hmm]; simp; omega)
      rw [hC] at hc
      obtain ⟨ys, n', hn', hy, hlen, hyl, hfd⟩ := DataW.trod_struct Try.underlying32 ht'
      obtain ⟨_, hcl, hat⟩ := World.cells?_some hc
      match cs', hcl with
      | [c0, c1], _ =>
        have k3 : Try.prog.cellsOf 3 = 1 := by kernel_rfl
        obtain ⟨y0, hy0⟩ : ∃ y, ys[0]? = some y := ⟨_, List.getElem?_eq_getElem (by rw [hyl]; decide)⟩
        obtain ⟨y1, hy1⟩ : ∃ y, ys[1]? = some y := ⟨_, List.getElem?_eq_getElem (by rw [hyl]; decide)⟩
        have g0 := hfd 0 _ rfl
        have g1 := hfd 1 _ rfl
        dsimp only [List.getElem_toArray, List.getElem_cons_zero, List.getElem_cons_succ] at g0 g1
        rw [k3, hy0] at g0
        rw [k3, hy1] at g1
        simp only [List.drop_zero, List.drop_succ_cons, List.take_succ_cons, List.take_zero] at g0 g1
        obtain ⟨a0, e0, _, w0⟩ := DataW.trod_int Try.underlying3 g0
        obtain ⟨a1, e1, _, w1⟩ := DataW.trod_int Try.underlying3 g1
        simp at e0 e1
        subst e0 e1
        have h0 := hat 0 (by omega)
        have h1 := hat 1 (by omega)
        rw [Deep.add_add] at h0 h1
        exact ⟨⟨a0, a1⟩, ⟨w0, w1⟩, by simpa using h0, by simpa using h1⟩
    obtain ⟨f, hf⟩ := @choose_lt S32 ⟨z32⟩ _ _ key
    refine ⟨(List.range len).map f, by simp, by simpa using hl, ⟨by simp, by simp; simp only [maxLen] at hm; omega, fun _ => ⟨ad, rfl, fun j x hj => ?_⟩⟩, ?_⟩
    · obtain ⟨hjl, hx⟩ := List.getElem?_eq_some_iff.1 hj
      have hjl' : j < len := by simpa using hjl
      simp at hx
      subst hx
      obtain ⟨_, h0, h1⟩ := hf j hjl'
      refine ⟨_, rfl, k32_mk W (f j), fun i u hu => ?_⟩
      match i, hu with
      | 0, hu => simp at hu; subst hu; exact h0
      | 1, hu => simp at hu; subst hu; exact h1
      | i + 2, hu => simp at hu
    · intro x hx
      obtain ⟨j, hj, rfl⟩ := List.mem_map.1 hx
      exact (hf j (by simpa using hj)).1
set_option maxRecDepth 100000 in
theorem open_span {b0 : Nat} {v : Value} {d : DataW H} {p : List MemPlace} (hv : Value.okWide Try.prog W .any b0 32 v) (h : DataW.Trod enc Try.prog W 0 (fun _ => true) true 32 v d p) :
    ∃ x : S32, v = .agg #[.int .i64 x.f0, .int .i64 x.f1] ∧ okS x := by
  obtain ⟨c0, c1, y0, y1, m, rfl, rfl, rfl, hy0, hy1⟩ := open_agg2 Try.underlying32 (by kernel_rfl) (by kernel_rfl) hv h
  dsimp only at hy0 hy1
  obtain ⟨a0, e0, _, w0⟩ := DataW.trod_int Try.underlying3 hy0
  obtain ⟨a1, e1, _, w1⟩ := DataW.trod_int Try.underlying3 hy1
  simp at e0 e1
  subst e0 e1
  exact ⟨⟨a0, a1⟩, rfl, w0, w1⟩
end
end Go.Proofs.Ytningpmoojnomaa.Pr
end
section
namespace Go.Proofs.Ytningpmoojnomaa.Pr
open Go.RowKit Go.Proofs.YtningpmoojnomaaW.PrintWords Go.Proofs.YtningpmoojnomaaW.PrintLast Go.Proofs.YtningpmoojnomaaW.PrintMore
set_option linter.unusedVariables false
set_option linter.unusedSimpArgs false
set_option maxHeartbeats 8000000 in
set_option maxRecDepth 100000 in
theorem SpanCovers_walk {W : World} (x0 : S32) (w0 : okS x0) (a1 : Option Addr) (cap1 : Nat) (l1 : List S32) (c1 : l1.length ≤ cap1) (hr1 : Kd.C k32 W a1 l1.length l1) (w1 : ∀ s ∈ l1, okS s) :
    Calls Try.prog 4 #[.agg #[.int .i64 x0.f0, .int .i64 x0.f1], .slice a1 l1.length cap1] W fun e w' => e = .returned (.bool true) ∧ Below W.heap.size W w' := by
  have hu32 := Try.underlying32
  have hm : l1.length ≤ 9223372036854775807 := hr1.2.1
  have HR0 := Aside0.mk hr1
  have HC0 := Aside0.mk c1
  clear hr1 c1 w1 w0
  by_cases h140 : l1.length ≤ 140
  · have HF := Aside0.mk (show decide ((l1.length : Int) ≤ 140) = true from decide_eq_true (by omega))
    have HL := Aside0.mk h140
    obtain ⟨k1, h1⟩ := (cover_ev x0 l1).rounds
    obtain ⟨k2, h2⟩ := (apart_ev x0 l1).rounds
    obtain ⟨k3, h3⟩ := (steps_ev x0 l1).rounds
    generalize hq : covR x0 l1 = q at h1 h2 h3
    obtain ⟨q1, q2, q3⟩ := q
    have H1 := Aside0.mk h1
    have H2 := Aside0.mk h2
    have H3 := Aside0.mk h3
    clear hm h140 h1 h2 h3 hq
    go_enter Try.func4, Try.ntmps4
    go_wp2_with ((with_reducible refine gate_dst (N := 2) rfl ?_); refine box_event ?hg (N := 2) ?hd (cs := #[.int .i64 x0.f0, .int .i64 x0.f1]) (t := 32) ?hr ?_; (case hd => rfl); (case hg => rfl); (case hr => first | (go_simp; done) | (go_simp; rfl)); intro gb hg w0 hbox hb; have HB0 := Aside0.mk hb; have BK0 := Aside0.mk hbox; clear hb hbox hg)
    go_wp2_with (go_at_call 15; refine (few_at _ _ l1 _ (Kd.C_below HR0.out HB0.out) HC0.out true HF.out).mono ?_; rintro e w1 ⟨rfl, hb1⟩)
    have HB := Aside0.mk (below_then HB0.out HB0.out.size hb1.below)
    have BK1 := Aside0.mk (blk_below BK0.out hb1.below)
    clear hb1 BK0
    go_wp2_with (go_at_call 17; refine (own_full _ _ l1 _ (Kd.C_below HR0.out HB.out) HL.out).mono ?_; rintro e w2 ⟨b, c, rfl, hf2, hb2⟩; have BK2 := Aside0.mk (blk_below BK1.out hb2); have hcz2_0 : w2.cell? ⟨gb, 0, none⟩ = some (.int .i64 x0.f0) := (blk_cell BK2.out 0).trans rfl; have hcz2_1 : w2.cell? ⟨gb, 1, none⟩ = some (.int .i64 x0.f1) := (blk_cell BK2.out 1).trans rfl; have hfz2_0 := blk_frozen BK2.out 0; have hfz2_1 := blk_frozen BK2.out 1)
    have HB2 := Aside0.mk (below_then HB.out HB.out.size hb2)
    have HF2 := Aside0.mk hf2
    clear hb2 hf2 HB
    go_wp2_with (go_at_call 25; refine (span_Cover.calls k1 _ _ _ _ l1 q1 q3 _ HF2.out.reads (Nat.le_of_succ_le HF2.out.cap) H1.out).mono ?_; rintro e w3 ⟨v3, rfl, hr3, hb3⟩; obtain ⟨A3, c3, e3⟩ := Kd.R_slice hr3; subst e3; have BK3 := Aside0.mk (blk_below BK2.out hb3); have hcz3_0 : w3.cell? ⟨gb, 0, none⟩ = some (.int .i64 x0.f0) := (blk_cell BK3.out 0).trans rfl; have hcz3_1 : w3.cell? ⟨gb, 1, none⟩ = some (.int .i64 x0.f1) := (blk_cell BK3.out 1).trans rfl; have hfz3_0 := blk_frozen BK3.out 0; have hfz3_1 := blk_frozen BK3.out 1)
    have HB3 := Aside0.mk (below_then HB2.out HB2.out.size hb3)
    have HF3 := Aside0.mk (HF2.out.below hb3)
    have HR3 := Aside0.mk (Kd.R_reads' hr3).2
    clear hb3 hr3 HB2 HF2 hcz2_0 hcz2_1 hfz2_0 hfz2_1
    go_wp2_with (go_at_call 26; refine (span_Apart.calls k2 _ _ _ _ l1 q2 q3 _ HF3.out.reads (Nat.le_of_succ_le HF3.out.cap) H2.out).mono ?_; rintro e w4 ⟨v4, rfl, hr4, hb4⟩; obtain ⟨A4, c4, e4⟩ := Kd.R_slice hr4; subst e4; have BK4 := Aside0.mk (blk_below BK3.out hb4); have hcz4_0 : w4.cell? ⟨gb, 0, none⟩ = some (.int .i64 x0.f0) := (blk_cell BK4.out 0).trans rfl; have hcz4_1 : w4.cell? ⟨gb, 1, none⟩ = some (.int .i64 x0.f1) := (blk_cell BK4.out 1).trans rfl; have hfz4_0 := blk_frozen BK4.out 0; have hfz4_1 := blk_frozen BK4.out 1)
    have HB4 := Aside0.mk (below_then HB3.out HB3.out.size hb4)
    have HF4 := Aside0.mk (HF3.out.below hb4)
    have HR34 := Aside0.mk (Kd.C_below HR3.out.2 hb4)
    have HR4 := Aside0.mk (Kd.R_reads' hr4).2
    clear hb4 hr4 HB3 HF3 hcz3_0 hcz3_1 hfz3_0 hfz3_1
    go_wp2_with (go_at_call 27; refine (kimberliteref01_Steps.calls k3 _ _ _ _ l1 q1 q2 q3 _ (Kd.C_below HR0.out HB4.out) HC0.out H3.out).mono ?_; rintro e w5 ⟨v5, v6, rfl, hr5, hr6, hb5⟩; obtain ⟨A5, c5, e5⟩ := Kd.R_slice hr5; obtain ⟨A6, c6, e6⟩ := Kd.R_slice hr6; subst e5 e6)
    have HB5 := Aside0.mk (below_then HB4.out HB4.out.size hb5)
    have HF5 := Aside0.mk (HF4.out.below hb5)
    have HR35 := Aside0.mk (Kd.C_below HR34.out hb5)
    have HR45 := Aside0.mk (Kd.C_below HR4.out.2 hb5)
    have HR5 := Aside0.mk (Kd.R_reads' hr5).2
    have HR6 := Aside0.mk (Kd.R_reads' hr6).2
    clear hb5 hr5 hr6 HB4 HF4
    go_wp2_with (go_at_call 28; with_reducible refine (alike_at _ _ _ _ q1 _ HR35.out HR3.out.1 HR5.out.2 HR5.out.1).mono ?_; rintro e w6 ⟨rfl, hb6⟩)
    have HB6 := Aside0.mk hb6.below
    clear hb6
    go_wp2_with (go_at_call 28; with_reducible refine (alike_at _ _ _ _ q2 _ (Kd.C_below HR45.out HB6.out) HR4.out.1 (Kd.C_below HR6.out.2 HB6.out) HR6.out.1).mono ?_; rintro e w7 ⟨rfl, hb7⟩)
    have HB7 := Aside0.mk (below_then HB6.out HB6.out.size hb7.below)
    have HB57 := Aside0.mk (below_then HB5.out HB5.out.size HB7.out)
    clear hb7
    go_wp2_with (go_at_call 21; refine (kept_full _ _ _ _ _ l1 _ (HF5.out.below HB7.out) (Kd.C_below HR0.out HB57.out) HC0.out HL.out).mono ?_; rintro e w8 ⟨rfl, hb8⟩)
    have HB8 := Aside0.mk (below_then HB57.out HB57.out.size hb8)
    clear hb8
    go_wp2_with (go_at_call 16; refine (alive_at _).mono ?_; rintro e w9 ⟨rfl, hb9⟩)
    go_ret
    exact ⟨rfl, below_then HB8.out HB8.out.size hb9⟩
  · have HF := Aside0.mk (show decide ((l1.length : Int) ≤ 140) = false from decide_eq_false (by omega))
    clear h140
    go_enter Try.func4, Try.ntmps4
    go_wp2_with ((with_reducible refine gate_dst (N := 2) rfl ?_); refine box_event ?hg (N := 2) ?hd (cs := #[.int .i64 x0.f0, .int .i64 x0.f1]) (t := 32) ?hr ?_; (case hd => rfl); (case hg => rfl); (case hr => first | (go_simp; done) | (go_simp; rfl)); intro gb hg w0 hbox hb; have HB0 := Aside0.mk hb; have BK0 := Aside0.mk hbox; clear hb hbox hg)
    go_wp2_with (go_at_call 15; refine (few_at _ _ l1 _ (Kd.C_below HR0.out HB0.out) HC0.out false HF.out).mono ?_; rintro e w1 ⟨rfl, hb1⟩)
    go_wp2_with (go_at_call 16; refine (alive_at _).mono ?_; rintro e w2 ⟨rfl, hb2⟩)
    go_ret
    have hb01 := below_then HB0.out HB0.out.size hb1.below
    exact ⟨rfl, below_then hb01 hb01.size hb2⟩
end Go.Proofs.Ytningpmoojnomaa.Pr
end
section
namespace Go.Proofs.Ytningpmoojnomaa.spanCovers
open Go.ChangeShapes Go.WideShapes Go.ChangeAt Go.RowKit Go.Proofs.Ytningpmoojnomaa.Pr
set_option linter.unusedVariables false
theorem own : ownKnob Try.prog.godebug = none := by kernel_rfl
theorem laidOut : laidOutB Try.prog = true := by kernel_rfl
set_option maxRecDepth 100000 in
theorem lifted (os : Os) (started : os.Started) (H : Type) (enc : TypeId × Value → H) :
    ReturnsInHanded {} Try.checked os 4 .any (Rows.spanCoversSpec.pre6 enc Try.prog Try.f4 Rows.spanCoversRow.domain false) (Rows.spanCoversSpec.post enc Try.prog Try.f4 false true false false) := by
  refine returnsInHanded_of_change (C := Try.checked) own started (by kernel_rfl) Try.func4
    (ChangeSpec.witness6 (enc := enc) (C := Try.checked) false ⟨#[], #[.agg #[.int .i64 0, .int .i64 0], .slice none 0 0], []⟩ 8 (by kernel_rfl) (by kernel_rfl) (by kernel_rfl) (by kernel_rfl)) ?_
  intro W base args ds gs before hval0 hW hcnd _
  have hval : ∀ (j : Nat) t v, Try.f4.params[j]? = some t → args[j]? = some v → Value.okWide Try.prog W .any base t v := hval0
  have hW' := hW
  obtain ⟨p, q, hA0, hV, rfl, hfz, hnd⟩ := hW
  have hA : DataW.TrodAll enc Try.prog W 0 (fun _ => true) true Try.f4.params.toList args.toList ds p := hA0
  rw [Try.params4] at hA hval
  obtain ⟨v0, vs0, d0, ds0, p0, q0, hargs, rfl, rfl, h0, r0⟩ := trodAll_cons hA
  obtain ⟨v1, vs1, d1, ds1, p1, q1, rfl, rfl, rfl, h1, r1⟩ := trodAll_cons r0
  obtain ⟨rfl, rfl, rfl⟩ := trodAll_nil r1
  obtain rfl : args = #[v0, v1] := by cases args; simp_all
  obtain ⟨rfl, rfl⟩ := trodVars_none hV
  have k0 := h0
  have lt0 : ∀ x ∈ p0, x.block < W.heap.size := by obtain ⟨m, hm⟩ := k0; exact DataW.trod_lt m _ _ _ hm
  obtain ⟨x0, rfl, w0⟩ := open_span (hval 0 32 v0 rfl rfl) h0
  have k1 := h1
  have lt1 : ∀ x ∈ p1, x.block < W.heap.size := by obtain ⟨m, hm⟩ := k1; exact DataW.trod_lt m _ _ _ hm
  obtain ⟨a1, len1, cap1, rfl⟩ := okWide_slice Try.underlying22 (hval 1 22 v1 rfl rfl)
  obtain ⟨l1, rfl, c1, hr1, w1⟩ := open_spans h1
  clear hA0 hval0
  try simp only [List.append_nil] at hW'
  refine (SpanCovers_walk x0 w0 a1 cap1 l1 c1 hr1 w1).mono fun e W' ⟨he, bel⟩ => ?_
  subst he
  exact ⟨_, rfl, _, _, _, [], _, [], hW', trodAll_mk1 (shut_bool Try.underlying4 _), (trodAll_cons_mk (Below.trod laidOut (by kernel_rfl) (of_decide_eq_true (by kernel_rfl)) k0 bel lt0) (trodAll_cons_mk (Below.trod laidOut (by kernel_rfl) (of_decide_eq_true (by kernel_rfl)) k1 bel lt1) trodAll_mk0)), rfl, bel.frame _, fun h => by cases h⟩
theorem over : Rows.spanCoversRow.holds Try.pinned (OpenSpec.ofChange Rows.spanCoversSpec) :=
  OpenClaim.holds_of_wide 4 Try.f4 rfl rfl rfl rfl rfl rfl rfl ⟨rfl, rfl, rfl, rfl, rfl⟩ rfl rfl rfl rfl rfl (by kernel_rfl) Try.func4 (by kernel_rfl)
    (of_decide_eq_true (by kernel_rfl)) (by unfold Func.isWrapper; first | (rw [if_pos (by decide +kernel)]; kernel_rfl) | (rw [if_neg (by decide +kernel)]; exact ⟨rfl, rfl⟩))
    (fun os started H enc _ => lifted os started H enc)
theorem proved : Rows.SpanCoversSaid := over
end Go.Proofs.Ytningpmoojnomaa.spanCovers
namespace Go.Proofs.Ytningpmoojnomaa
/-- The row, under a short name, for the claim. -/
theorem spanCovers_holds : Rows.SpanCoversSaid := spanCovers.proved
end Go.Proofs.Ytningpmoojnomaa
end
