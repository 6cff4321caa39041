/- What the proof of the law needs, trimmed and merged by wip/pack.py out of the texts YtingjpcgehgiiaaPrx24, YtingjpcgehgiiaaCvl, YtingjpcgehgiiaaRowI, YtingjpcgehgiiaaShelf, YtingjpcgehgiiaaExtJoin, YtingjpcgehgiiaaJnp, YtingjpcgehgiiaaCon, YtingjpcgehgiiaaSam. No condition. -/
import Derived.Shelf.Sort.Plain
import Derived.Shelf.Small.Wraps
import Derived.Ground.Names2Prog
import Derived.Shelf.Slices.Clone
import Derived.Shelf.Slices.SearchI
import Derived.Shelf.Slices.In.SortNone
import Derived.Shelf.Slices.Empties
import Derived.Shelf.SlSorted.IsSorted
import Derived.Shelf.Spec.SlicesGrow
import Derived.Ground.Names8Prog
import Derived.Ground.SlsoProg
import Derived.Test.YtingjpcgehgiiaaProg
import Derived.Test.YtingjpcgehgiiaaKCurveBottoms0
import Derived.Test.YtingjpcgehgiiaaKCurveBottoms1
import Derived.Test.YtingjpcgehgiiaaKCurveBottoms2
section
namespace Go.Proofs.Ytingjpcgehgiiaa.Pr
open Go.RowKit Go.Proofs.YtingjpcgehgiiaaW.PrintWords Go.Proofs.YtingjpcgehgiiaaW.PrintLast Go.Proofs.YtingjpcgehgiiaaW.PrintMore
attribute [local go_sem] max2_int min2_int max_two min_two max_three min_three max_four min_four   -- for this text's walks alone
set_option linter.unusedVariables false
set_option linter.unusedSimpArgs false
mutual
def curve_Conj.j0 : Nat → Int → Int → Bool → Int → Int → List Int → Option (Int × Int × List Int × Int)
 | 0, _, _, _, _, _, _ => none
 | k + 1, x1, x2, x32, x505000, x505001, x505002 => if x32 = true then (some (0, 0, ([] : List Int), 2)) else (curve_Conj.l0 k x1 x2 ([] : List Int) x1 x505000 x505001 x505002)
def curve_Conj.l0 : Nat → Int → Int → List Int → Int → Int → Int → List Int → Option (Int × Int × List Int × Int)
 | 0, _, _, _, _, _, _, _ => none
 | k + 1, x1, x2, x8, x9, x505000, x505001, x505002 => if x9 ≤ x2 then ((curve_conj.f k x505000 x505001 x505002 x9).bind fun t508 => (if x8.length < 17592186044416 then (curve_Conj.l0 k x1 x2 (x8 ++ [t508]) (wrap64 (x9 + 1)) x505000 x505001 x505002) else (none))) else ((curve_through.f k x1 x8).bind fun bt512 => ((curve_made.f bt512.1 bt512.2.1 bt512.2.2).bind fun bt517 => (some (bt517.1, bt517.2.1, bt517.2.2.1, bt517.2.2.2))))
end
def curve_Conj.f (k : Nat) (a0_0 : Int) (a0_1 : Int) (l0_2 : List Int) (a1 : Int) (a2 : Int) : Option (Int × Int × List Int × Int) := (curve_Valid.f a0_0 a0_1 l0_2).bind fun t506 => (if t506 = true then ((curve_within.f a1 1048576).bind fun t507 => (if t507 = true then (if a2 < a1 then (curve_Conj.j0 k a1 a2 true a0_0 a0_1 l0_2) else (if a2 > (wrap64 (a1 + 64)) then (curve_Conj.j0 k a1 a2 true a0_0 a0_1 l0_2) else (curve_Conj.j0 k a1 a2 (decide (a2 > 1048576)) a0_0 a0_1 l0_2))) else (curve_Conj.j0 k a1 a2 true a0_0 a0_1 l0_2))) else (curve_Conj.j0 k a1 a2 true a0_0 a0_1 l0_2))
theorem curve_Conj.mono_l : ∀ k, (∀ y0 y1 y2 y3 y4 y5, LeO (curve_Conj.j0 k y0 y1 y2 y3 y4 y5) (curve_Conj.j0 (k + 1) y0 y1 y2 y3 y4 y5)) ∧ (∀ y0 y1 y2 y3 y4 y5 y6, LeO (curve_Conj.l0 k y0 y1 y2 y3 y4 y5 y6) (curve_Conj.l0 (k + 1) y0 y1 y2 y3 y4 y5 y6))
 | 0 => ⟨fun _ _ _ _ _ _ r h => by simp [curve_Conj.j0] at h, fun _ _ _ _ _ _ _ r h => by simp [curve_Conj.l0] at h⟩
 | k + 1 => by
  obtain ⟨ih0, ih1⟩ := curve_Conj.mono_l k
  refine ⟨?_, ?_⟩
  · intro y0 y1 y2 y3 y4 y5
    unfold curve_Conj.j0
    repeat' first
    | (with_reducible exact ih0 _ _ _ _ _ _)
    | (with_reducible exact ih1 _ _ _ _ _ _ _)
    | (with_reducible exact curve_conj.mono _ _ _ _ _)
    | (with_reducible exact curve_through.mono _ _ _)
    | (with_reducible exact LeO.refl _)
    | (with_reducible exact LeO.none _)
    | (with_reducible refine LeO.ite ?_ ?_)
    | (with_reducible refine LeO.bind ?_ (fun _ => ?_))
    | exact ih0 _ _ _ _ _ _
    | exact ih1 _ _ _ _ _ _ _
    | exact curve_conj.mono _ _ _ _ _
    | exact curve_through.mono _ _ _
    | exact LeO.none _
    | refine LeO.ite ?_ ?_
    | refine LeO.bind ?_ (fun _ => ?_)
  · intro y0 y1 y2 y3 y4 y5 y6
    unfold curve_Conj.l0
    repeat' first
    | (with_reducible exact ih0 _ _ _ _ _ _)
    | (with_reducible exact ih1 _ _ _ _ _ _ _)
    | (with_reducible exact curve_conj.mono _ _ _ _ _)
    | (with_reducible exact curve_through.mono _ _ _)
    | (with_reducible exact LeO.refl _)
    | (with_reducible exact LeO.none _)
    | (with_reducible refine LeO.ite ?_ ?_)
    | (with_reducible refine LeO.bind ?_ (fun _ => ?_))
    | exact ih0 _ _ _ _ _ _
    | exact ih1 _ _ _ _ _ _ _
    | exact curve_conj.mono _ _ _ _ _
    | exact curve_through.mono _ _ _
    | exact LeO.none _
    | refine LeO.ite ?_ ?_
    | refine LeO.bind ?_ (fun _ => ?_)
theorem curve_Conj.mono : ∀ a0 a1 a2 a3 a4 k, LeO (curve_Conj.f k a0 a1 a2 a3 a4) (curve_Conj.f (k + 1) a0 a1 a2 a3 a4) := by
 intro a0 a1 a2 a3 a4 k
 obtain ⟨ih0, ih1⟩ := curve_Conj.mono_l k
 unfold curve_Conj.f
 repeat' first
  | (with_reducible exact ih0 _ _ _ _ _ _)
  | (with_reducible exact ih1 _ _ _ _ _ _ _)
  | (with_reducible exact curve_conj.mono _ _ _ _ _)
  | (with_reducible exact curve_through.mono _ _ _)
  | (with_reducible exact LeO.refl _)
  | (with_reducible exact LeO.none _)
  | (with_reducible refine LeO.ite ?_ ?_)
  | (with_reducible refine LeO.bind ?_ (fun _ => ?_))
  | exact ih0 _ _ _ _ _ _
  | exact ih1 _ _ _ _ _ _ _
  | exact curve_conj.mono _ _ _ _ _
  | exact curve_through.mono _ _ _
  | exact LeO.none _
  | refine LeO.ite ?_ ?_
  | refine LeO.bind ?_ (fun _ => ?_)
set_option maxHeartbeats 8000000 in
set_option maxRecDepth 100000 in
theorem curve_Conj.calls (k : Nat) (a0_0 : Int) (a0_1 : Int) (A0_2 : Option Addr) (c0_2 : Nat) (l0_2 : List Int) (a1 : Int) (a2 : Int) (r1 : Int) (r2 : Int) (r3 : List Int) (r4 : Int) (w : World) (hr0_2 : Kd.C (Kd.int .i64) w A0_2 l0_2.length l0_2) (hc0_2 : l0_2.length ≤ c0_2) (h : curve_Conj.f k a0_0 a0_1 l0_2 a1 a2 = some (r1, r2, r3, r4)) :
 Calls Try.prog 36 #[.agg #[.int .i64 a0_0, .int .i64 a0_1, .slice A0_2 l0_2.length c0_2], .int .i64 a1, .int .i64 a2] w fun e w' => ∃ v2_ : Value, e = .returned (.tuple #[.agg #[.int .i64 r1, .int .i64 r2, v2_], .int .i64 r4]) ∧ Kd.R (Kd.int .i64) 3 w' w.heap.size (fun _ => True) v2_ r3 ∧ Below w.heap.size w w' := by
 have hu24 := Try.underlying24
 have HR0_2 := Aside0.mk hr0_2
 have HC0_2 := Aside0.mk hc0_2
 clear hr0_2 hc0_2
 have HB := Aside0.mk (Below.refl w.heap.size w)
 have H : ((curve_Valid.f a0_0 a0_1 l0_2).bind fun t506 => (if t506 = true then ((curve_within.f a1 1048576).bind fun t507 => (if t507 = true then (if a2 < a1 then (curve_Conj.j0 k a1 a2 true a0_0 a0_1 l0_2) else (if a2 > (wrap64 (a1 + 64)) then (curve_Conj.j0 k a1 a2 true a0_0 a0_1 l0_2) else (curve_Conj.j0 k a1 a2 (decide (a2 > 1048576)) a0_0 a0_1 l0_2))) else (curve_Conj.j0 k a1 a2 true a0_0 a0_1 l0_2))) else (curve_Conj.j0 k a1 a2 true a0_0 a0_1 l0_2))) = some (r1, r2, r3, r4) := h
 clear h
 have HC4 := Aside0.mk H
 clear H
 go_enter Try.func36, Try.ntmps36
 go_upto_region 1 with (first | ((with_reducible refine gate_dst (N := 3) rfl ?_); refine box_event ?hg (N := 3) ?hd (cs := #[.int .i64 a0_0, .int .i64 a0_1, .slice A0_2 l0_2.length c0_2]) (t := 24) ?hr ?_; (case hd => rfl); (case hg => rfl); (case hr => first | (go_simp; done) | (go_simp; rfl)); intro gb504 hg w5 hbox hb; have n0_ := Aside0.mk (below_step (by repeat (first | (with_reducible first | exact HB.out | apply below_alloc | apply pw_below_drewN | apply below_drew1) | exact HB.out)) hb); have n1_ := Aside0.mk (hbox); have n2_ := Aside0.mk ((by rw [hg]; exact (below_size (by repeat (first | (with_reducible first | exact HB.out | apply below_alloc | apply pw_below_drewN | apply below_drew1) | exact HB.out))) : w.heap.size ≤ gb504)); have n3_ := Aside0.mk ((by rw [hg]; exact (below_size (by repeat (first | (with_reducible first | exact HB.out | apply below_alloc | apply pw_below_drewN | apply below_drew1) | exact HB.out))) : w.heap.size ≤ gb504)); clear HB; have HB := n0_; have BK504 := n1_; have GW504 := n2_; have GE504 := n3_; clear n0_ n1_ n2_ n3_; clear hb hbox hg) | ((with_reducible refine gate_dst (N := 6) rfl ?_); refine box_event ?hg (N := 6) ?hd (cs := #[.int .i64 0, .int .i64 0, .slice none 0 0]) (t := 24) ?hr ?_; (case hd => rfl); (case hg => rfl); (case hr => first | (go_simp; done) | (go_simp; rfl)); intro gb505 hg w6 hbox hb; have n0_ := Aside0.mk (blk_below (g := gb504) (o := .cells #[.int .i64 a0_0, .int .i64 a0_1, .slice A0_2 l0_2.length c0_2] 24 (0, 0)) (by (with_reducible repeat (first | refine blk_drewN ?_ _ | refine blk_drew ?_ | refine blk_alloc ?_ _)); exact BK504.out) hb); have n1_ := Aside0.mk (below_step (by repeat (first | (with_reducible first | exact HB.out | apply below_alloc | apply pw_below_drewN | apply below_drew1 | refine below_set ?_ GE504.out) | exact HB.out)) hb); have n2_ := Aside0.mk (hbox); have n3_ := Aside0.mk ((by rw [hg]; exact (below_size (by repeat (first | (with_reducible first | exact HB.out | apply below_alloc | apply pw_below_drewN | apply below_drew1 | refine below_set ?_ GE504.out) | exact HB.out))) : w.heap.size ≤ gb505)); have n4_ := Aside0.mk ((by rw [hg]; exact (below_size (by repeat (first | (with_reducible first | exact HB.out | apply below_alloc | apply pw_below_drewN | apply below_drew1 | refine below_set ?_ GE504.out) | exact HB.out))) : w.heap.size ≤ gb505)); have n5_ := Aside0.mk ((by rw [hg]; exact Nat.ne_of_lt (blk_lt (g := gb504) (o := .cells #[.int .i64 a0_0, .int .i64 a0_1, .slice A0_2 l0_2.length c0_2] 24 (0, 0)) (by (with_reducible repeat (first | refine blk_drewN ?_ _ | refine blk_drew ?_ | refine blk_alloc ?_ _)); exact BK504.out)) : gb504 ≠ gb505)); have n6_ := Aside0.mk ((by rw [hg]; exact Nat.ne_of_gt (blk_lt (g := gb504) (o := .cells #[.int .i64 a0_0, .int .i64 a0_1, .slice A0_2 l0_2.length c0_2] 24 (0, 0)) (by (with_reducible repeat (first | refine blk_drewN ?_ _ | refine blk_drew ?_ | refine blk_alloc ?_ _)); exact BK504.out)) : gb505 ≠ gb504)); clear BK504; clear HB; have BK504 := n0_; have HB := n1_; have BK505 := n2_; have GW505 := n3_; have GE505 := n4_; have NB504_505 := n5_; have NB505_504 := n6_; clear n0_ n1_ n2_ n3_ n4_ n5_ n6_; clear hb hbox hg))
 (try simp only [Act.put, List.setIfInBounds_toArray, List.set_cons_zero, List.set_cons_succ])
 go_cut [32] (fun v32 wc => ∃ (kq : Nat) (x32_3 : Bool), v32 = .bool x32_3 ∧ Aside0 (curve_Conj.j0 kq a1 a2 x32_3 a0_0 a0_1 l0_2 = some (r1, r2, r3, r4)) ∧ Aside0 (kq ≤ k) ∧ Aside0 (wc.heap[gb504]? = some (.cells #[.int .i64 a0_0, .int .i64 a0_1, (.slice A0_2 l0_2.length c0_2)] 24 (0, 0))) ∧ Aside0 (wc.heap[gb505]? = some (.cells #[.int .i64 0, .int .i64 0, (.slice none 0 0)] 24 (0, 0))) ∧ Aside0 (Below w.heap.size w wc))
 case first =>
  have H := HC4.out
  clear HC4
  replace H := Option.bind_eq_some_iff.mp H
  obtain ⟨t506, A70, H⟩ := H
  replace H : (if t506 = true then ((curve_within.f a1 1048576).bind fun t507 => (if t507 = true then (if a2 < a1 then (curve_Conj.j0 k a1 a2 true a0_0 a0_1 l0_2) else (if a2 > (wrap64 (a1 + 64)) then (curve_Conj.j0 k a1 a2 true a0_0 a0_1 l0_2) else (curve_Conj.j0 k a1 a2 (decide (a2 > 1048576)) a0_0 a0_1 l0_2))) else (curve_Conj.j0 k a1 a2 true a0_0 a0_1 l0_2))) else (curve_Conj.j0 k a1 a2 true a0_0 a0_1 l0_2)) = some (r1, r2, r3, r4) := H
  have A7 := Aside0.mk A70
  clear A70
  by_cases c8 : t506 = true
  · subst c8
    have H1 : ((curve_within.f a1 1048576).bind fun t507 => (if t507 = true then (if a2 < a1 then (curve_Conj.j0 k a1 a2 true a0_0 a0_1 l0_2) else (if a2 > (wrap64 (a1 + 64)) then (curve_Conj.j0 k a1 a2 true a0_0 a0_1 l0_2) else (curve_Conj.j0 k a1 a2 (decide (a2 > 1048576)) a0_0 a0_1 l0_2))) else (curve_Conj.j0 k a1 a2 true a0_0 a0_1 l0_2))) = some (r1, r2, r3, r4) := by rw [if_pos rfl] at H; exact H
    clear H
    have H := H1
    clear H1
    replace H := Option.bind_eq_some_iff.mp H
    obtain ⟨t507, A90, H⟩ := H
    replace H : (if t507 = true then (if a2 < a1 then (curve_Conj.j0 k a1 a2 true a0_0 a0_1 l0_2) else (if a2 > (wrap64 (a1 + 64)) then (curve_Conj.j0 k a1 a2 true a0_0 a0_1 l0_2) else (curve_Conj.j0 k a1 a2 (decide (a2 > 1048576)) a0_0 a0_1 l0_2))) else (curve_Conj.j0 k a1 a2 true a0_0 a0_1 l0_2)) = some (r1, r2, r3, r4) := H
    have A9 := Aside0.mk A90
    clear A90
    by_cases c10 : t507 = true
    · subst c10
      have H1 : (if a2 < a1 then (curve_Conj.j0 k a1 a2 true a0_0 a0_1 l0_2) else (if a2 > (wrap64 (a1 + 64)) then (curve_Conj.j0 k a1 a2 true a0_0 a0_1 l0_2) else (curve_Conj.j0 k a1 a2 (decide (a2 > 1048576)) a0_0 a0_1 l0_2))) = some (r1, r2, r3, r4) := by rw [if_pos rfl] at H; exact H
      clear H
      have H := H1
      clear H1
      by_cases c11 : a2 < a1
      · rw [if_pos c11] at H
        have c11b0 : decide (a2 < a1) = true := decide_eq_true c11
        clear c11
        (first | rw [c11b0] | (simp only [i64_w, i32_w]; rw [c11b0]) | skip)
        have H' := Aside0.mk H
        clear H
        have hnb12 := NB504_505.out
        have hnc12 := NB505_504.out
        have hcz13_0 : w6.cell? ⟨gb504, 0, none⟩ = some (.int .i64 a0_0) := (blk_cell BK504.out 0).trans rfl
        have hcz13_1 : w6.cell? ⟨gb504, 1, none⟩ = some (.int .i64 a0_1) := (blk_cell BK504.out 1).trans rfl
        have hcz13_2 : w6.cell? ⟨gb504, 2, none⟩ = some (.slice A0_2 l0_2.length c0_2) := (blk_cell BK504.out 2).trans rfl
        have hfz13_0 := blk_frozen BK504.out 0
        have hfz13_1 := blk_frozen BK504.out 1
        have hfz13_2 := blk_frozen BK504.out 2
        go_wp2_with (first | ((with_reducible refine gate_callee (f := 16) rfl ?_); refine goesL_ (some 11) rfl rfl Try.func16 (by kernel_rfl) rfl #[.agg #[.int .i64 a0_0, .int .i64 a0_1, .slice A0_2 l0_2.length c0_2]] rfl (by (try simp only [List.map_toArray, List.map_cons, List.map_nil]); first | done | rfl | (simp only [List.length_drop, List.length_take]; rfl)) ?_; (with_reducible refine (curve_Valid.calls a0_0 a0_1 _ _ l0_2 true _ ?side1 ?side2 A7.out).mono ?_); (case side1 => repeat (first | exact (Kd.C_below HR0_2.out HB.out) | (with_reducible refine Kd.C_alloc ?_ _) | (with_reducible refine Kd.C_drewN ?_ _) | (with_reducible refine Kd.C_drew ?_))); (case side2 => exact HC0_2.out); rintro e w14 ⟨rfl, hb⟩; refine ⟨_, rfl, ?_⟩; have n0_ := Aside0.mk (blk_below (g := gb504) (o := .cells #[.int .i64 a0_0, .int .i64 a0_1, .slice A0_2 l0_2.length c0_2] 24 (0, 0)) (by (with_reducible repeat (first | refine blk_drewN ?_ _ | refine blk_drew ?_ | refine blk_alloc ?_ _)); exact BK504.out) hb); have n1_ := Aside0.mk (blk_below (g := gb505) (o := .cells #[.int .i64 0, .int .i64 0, .slice none 0 0] 24 (0, 0)) (by (with_reducible repeat (first | refine blk_drewN ?_ _ | refine blk_drew ?_ | refine blk_alloc ?_ _)); exact BK505.out) hb); have n2_ := Aside0.mk (below_step (by repeat (first | (with_reducible first | exact HB.out | apply below_alloc | apply pw_below_drewN | apply below_drew1 | refine below_set ?_ GE504.out | refine below_set ?_ GE505.out) | exact HB.out)) hb); clear BK504; clear BK505; clear HB; have BK504 := n0_; have BK505 := n1_; have HB := n2_; clear n0_ n1_ n2_; (try clear hb); (try clear hb2); (try clear hk); (try clear hi)) | (go_at_call 52; (with_reducible refine (curve_within.calls a1 1048576 true _ A9.out).mono ?_); rintro e w' ⟨rfl, ⟨nd, rfl⟩⟩))
        go_meet
        case rel => exact ⟨_, (true), (by first | rfl | (simp; done) | (simp [*]; done)), H', ⟨by first | omega | exact Nat.le_refl _⟩, ⟨by (with_reducible repeat (first | refine blk_drewN ?_ _ | refine blk_drew ?_ | refine blk_alloc ?_ _)); exact BK504.out⟩, ⟨by (with_reducible repeat (first | refine blk_drewN ?_ _ | refine blk_drew ?_ | refine blk_alloc ?_ _)); exact BK505.out⟩, ⟨by repeat (first | (with_reducible first | exact HB.out | apply below_alloc | apply pw_below_drewN | apply below_drew1 | refine below_set ?_ GE504.out | refine below_set ?_ GE505.out) | exact HB.out)⟩⟩
      · rw [if_neg c11] at H
        have c11b0 : decide (a2 < a1) = false := decide_eq_false c11
        clear c11
        (first | rw [c11b0] | (simp only [i64_w, i32_w]; rw [c11b0]) | skip)
        by_cases c15 : a2 > (wrap64 (a1 + 64))
        · rw [if_pos c15] at H
          have c15b0 : decide ((wrap64 (a1 + 64)) < a2) = true := decide_eq_true c15
          clear c15
          have H' := Aside0.mk H
          clear H
          have hnb16 := NB504_505.out
          have hnc16 := NB505_504.out
          have hcz17_0 : w6.cell? ⟨gb504, 0, none⟩ = some (.int .i64 a0_0) := (blk_cell BK504.out 0).trans rfl
          have hcz17_1 : w6.cell? ⟨gb504, 1, none⟩ = some (.int .i64 a0_1) := (blk_cell BK504.out 1).trans rfl
          have hcz17_2 : w6.cell? ⟨gb504, 2, none⟩ = some (.slice A0_2 l0_2.length c0_2) := (blk_cell BK504.out 2).trans rfl
          have hfz17_0 := blk_frozen BK504.out 0
          have hfz17_1 := blk_frozen BK504.out 1
          have hfz17_2 := blk_frozen BK504.out 2
          go_wp2_with (first | ((with_reducible refine gate_callee (f := 16) rfl ?_); refine goesL_ (some 11) rfl rfl Try.func16 (by kernel_rfl) rfl #[.agg #[.int .i64 a0_0, .int .i64 a0_1, .slice A0_2 l0_2.length c0_2]] rfl (by (try simp only [List.map_toArray, List.map_cons, List.map_nil]); first | done | rfl | (simp only [List.length_drop, List.length_take]; rfl)) ?_; (with_reducible refine (curve_Valid.calls a0_0 a0_1 _ _ l0_2 true _ ?side1 ?side2 A7.out).mono ?_); (case side1 => repeat (first | exact (Kd.C_below HR0_2.out HB.out) | (with_reducible refine Kd.C_alloc ?_ _) | (with_reducible refine Kd.C_drewN ?_ _) | (with_reducible refine Kd.C_drew ?_))); (case side2 => exact HC0_2.out); rintro e w18 ⟨rfl, hb⟩; refine ⟨_, rfl, ?_⟩; have n0_ := Aside0.mk (blk_below (g := gb504) (o := .cells #[.int .i64 a0_0, .int .i64 a0_1, .slice A0_2 l0_2.length c0_2] 24 (0, 0)) (by (with_reducible repeat (first | refine blk_drewN ?_ _ | refine blk_drew ?_ | refine blk_alloc ?_ _)); exact BK504.out) hb); have n1_ := Aside0.mk (blk_below (g := gb505) (o := .cells #[.int .i64 0, .int .i64 0, .slice none 0 0] 24 (0, 0)) (by (with_reducible repeat (first | refine blk_drewN ?_ _ | refine blk_drew ?_ | refine blk_alloc ?_ _)); exact BK505.out) hb); have n2_ := Aside0.mk (below_step (by repeat (first | (with_reducible first | exact HB.out | apply below_alloc | apply pw_below_drewN | apply below_drew1 | refine below_set ?_ GE504.out | refine below_set ?_ GE505.out) | exact HB.out)) hb); clear BK504; clear BK505; clear HB; have BK504 := n0_; have BK505 := n1_; have HB := n2_; clear n0_ n1_ n2_; (try clear hb); (try clear hb2); (try clear hk); (try clear hi)) | (go_at_call 52; (with_reducible refine (curve_within.calls a1 1048576 true _ A9.out).mono ?_); rintro e w' ⟨rfl, ⟨nd, rfl⟩⟩))
          go_meet
          case rel => exact ⟨_, (true), (by first | rfl | (simp; done) | (simp [*]; done)), H', ⟨by first | omega | exact Nat.le_refl _⟩, ⟨by (with_reducible repeat (first | refine blk_drewN ?_ _ | refine blk_drew ?_ | refine blk_alloc ?_ _)); exact BK504.out⟩, ⟨by (with_reducible repeat (first | refine blk_drewN ?_ _ | refine blk_drew ?_ | refine blk_alloc ?_ _)); exact BK505.out⟩, ⟨by repeat (first | (with_reducible first | exact HB.out | apply below_alloc | apply pw_below_drewN | apply below_drew1 | refine below_set ?_ GE504.out | refine below_set ?_ GE505.out) | exact HB.out)⟩⟩
        · rw [if_neg c15] at H
          have c15b0 : decide ((wrap64 (a1 + 64)) < a2) = false := decide_eq_false c15
          clear c15
          have H' := Aside0.mk H
          clear H
          have hnb19 := NB504_505.out
          have hnc19 := NB505_504.out
          have hcz20_0 : w6.cell? ⟨gb504, 0, none⟩ = some (.int .i64 a0_0) := (blk_cell BK504.out 0).trans rfl
          have hcz20_1 : w6.cell? ⟨gb504, 1, none⟩ = some (.int .i64 a0_1) := (blk_cell BK504.out 1).trans rfl
          have hcz20_2 : w6.cell? ⟨gb504, 2, none⟩ = some (.slice A0_2 l0_2.length c0_2) := (blk_cell BK504.out 2).trans rfl
          have hfz20_0 := blk_frozen BK504.out 0
          have hfz20_1 := blk_frozen BK504.out 1
          have hfz20_2 := blk_frozen BK504.out 2
          go_wp2_with (first | ((with_reducible refine gate_callee (f := 16) rfl ?_); refine goesL_ (some 11) rfl rfl Try.func16 (by kernel_rfl) rfl #[.agg #[.int .i64 a0_0, .int .i64 a0_1, .slice A0_2 l0_2.length c0_2]] rfl (by (try simp only [List.map_toArray, List.map_cons, List.map_nil]); first | done | rfl | (simp only [List.length_drop, List.length_take]; rfl)) ?_; (with_reducible refine (curve_Valid.calls a0_0 a0_1 _ _ l0_2 true _ ?side1 ?side2 A7.out).mono ?_); (case side1 => repeat (first | exact (Kd.C_below HR0_2.out HB.out) | (with_reducible refine Kd.C_alloc ?_ _) | (with_reducible refine Kd.C_drewN ?_ _) | (with_reducible refine Kd.C_drew ?_))); (case side2 => exact HC0_2.out); rintro e w21 ⟨rfl, hb⟩; refine ⟨_, rfl, ?_⟩; have n0_ := Aside0.mk (blk_below (g := gb504) (o := .cells #[.int .i64 a0_0, .int .i64 a0_1, .slice A0_2 l0_2.length c0_2] 24 (0, 0)) (by (with_reducible repeat (first | refine blk_drewN ?_ _ | refine blk_drew ?_ | refine blk_alloc ?_ _)); exact BK504.out) hb); have n1_ := Aside0.mk (blk_below (g := gb505) (o := .cells #[.int .i64 0, .int .i64 0, .slice none 0 0] 24 (0, 0)) (by (with_reducible repeat (first | refine blk_drewN ?_ _ | refine blk_drew ?_ | refine blk_alloc ?_ _)); exact BK505.out) hb); have n2_ := Aside0.mk (below_step (by repeat (first | (with_reducible first | exact HB.out | apply below_alloc | apply pw_below_drewN | apply below_drew1 | refine below_set ?_ GE504.out | refine below_set ?_ GE505.out) | exact HB.out)) hb); clear BK504; clear BK505; clear HB; have BK504 := n0_; have BK505 := n1_; have HB := n2_; clear n0_ n1_ n2_; (try clear hb); (try clear hb2); (try clear hk); (try clear hi)) | (go_at_call 52; (with_reducible refine (curve_within.calls a1 1048576 true _ A9.out).mono ?_); rintro e w' ⟨rfl, ⟨nd, rfl⟩⟩))
          go_meet
          case rel => exact ⟨_, (decide (a2 > 1048576)), (by first | rfl | (simp; done) | (simp [*]; done)), H', ⟨by first | omega | exact Nat.le_refl _⟩, ⟨by (with_reducible repeat (first | refine blk_drewN ?_ _ | refine blk_drew ?_ | refine blk_alloc ?_ _)); exact BK504.out⟩, ⟨by (with_reducible repeat (first | refine blk_drewN ?_ _ | refine blk_drew ?_ | refine blk_alloc ?_ _)); exact BK505.out⟩, ⟨by repeat (first | (with_reducible first | exact HB.out | apply below_alloc | apply pw_below_drewN | apply below_drew1 | refine below_set ?_ GE504.out | refine below_set ?_ GE505.out) | exact HB.out)⟩⟩
    · replace c10 := Bool.eq_false_iff.mpr c10
      subst c10
      have H1 : (curve_Conj.j0 k a1 a2 true a0_0 a0_1 l0_2) = some (r1, r2, r3, r4) := by rw [if_neg (show ¬ (false = true) by decide)] at H; exact H
      clear H
      have H := H1
      clear H1
      have H' := Aside0.mk H
      clear H
      have hnb22 := NB504_505.out
      have hnc22 := NB505_504.out
      have hcz23_0 : w6.cell? ⟨gb504, 0, none⟩ = some (.int .i64 a0_0) := (blk_cell BK504.out 0).trans rfl
      have hcz23_1 : w6.cell? ⟨gb504, 1, none⟩ = some (.int .i64 a0_1) := (blk_cell BK504.out 1).trans rfl
      have hcz23_2 : w6.cell? ⟨gb504, 2, none⟩ = some (.slice A0_2 l0_2.length c0_2) := (blk_cell BK504.out 2).trans rfl
      have hfz23_0 := blk_frozen BK504.out 0
      have hfz23_1 := blk_frozen BK504.out 1
      have hfz23_2 := blk_frozen BK504.out 2
      go_wp2_with (first | ((with_reducible refine gate_callee (f := 16) rfl ?_); refine goesL_ (some 11) rfl rfl Try.func16 (by kernel_rfl) rfl #[.agg #[.int .i64 a0_0, .int .i64 a0_1, .slice A0_2 l0_2.length c0_2]] rfl (by (try simp only [List.map_toArray, List.map_cons, List.map_nil]); first | done | rfl | (simp only [List.length_drop, List.length_take]; rfl)) ?_; (with_reducible refine (curve_Valid.calls a0_0 a0_1 _ _ l0_2 true _ ?side1 ?side2 A7.out).mono ?_); (case side1 => repeat (first | exact (Kd.C_below HR0_2.out HB.out) | (with_reducible refine Kd.C_alloc ?_ _) | (with_reducible refine Kd.C_drewN ?_ _) | (with_reducible refine Kd.C_drew ?_))); (case side2 => exact HC0_2.out); rintro e w24 ⟨rfl, hb⟩; refine ⟨_, rfl, ?_⟩; have n0_ := Aside0.mk (blk_below (g := gb504) (o := .cells #[.int .i64 a0_0, .int .i64 a0_1, .slice A0_2 l0_2.length c0_2] 24 (0, 0)) (by (with_reducible repeat (first | refine blk_drewN ?_ _ | refine blk_drew ?_ | refine blk_alloc ?_ _)); exact BK504.out) hb); have n1_ := Aside0.mk (blk_below (g := gb505) (o := .cells #[.int .i64 0, .int .i64 0, .slice none 0 0] 24 (0, 0)) (by (with_reducible repeat (first | refine blk_drewN ?_ _ | refine blk_drew ?_ | refine blk_alloc ?_ _)); exact BK505.out) hb); have n2_ := Aside0.mk (below_step (by repeat (first | (with_reducible first | exact HB.out | apply below_alloc | apply pw_below_drewN | apply below_drew1 | refine below_set ?_ GE504.out | refine below_set ?_ GE505.out) | exact HB.out)) hb); clear BK504; clear BK505; clear HB; have BK504 := n0_; have BK505 := n1_; have HB := n2_; clear n0_ n1_ n2_; (try clear hb); (try clear hb2); (try clear hk); (try clear hi)) | (go_at_call 52; (with_reducible refine (curve_within.calls a1 1048576 false _ A9.out).mono ?_); rintro e w' ⟨rfl, ⟨nd, rfl⟩⟩))
      go_meet
      case rel => exact ⟨_, (true), (by first | rfl | (simp; done) | (simp [*]; done)), H', ⟨by first | omega | exact Nat.le_refl _⟩, ⟨by (with_reducible repeat (first | refine blk_drewN ?_ _ | refine blk_drew ?_ | refine blk_alloc ?_ _)); exact BK504.out⟩, ⟨by (with_reducible repeat (first | refine blk_drewN ?_ _ | refine blk_drew ?_ | refine blk_alloc ?_ _)); exact BK505.out⟩, ⟨by repeat (first | (with_reducible first | exact HB.out | apply below_alloc | apply pw_below_drewN | apply below_drew1 | refine below_set ?_ GE504.out | refine below_set ?_ GE505.out) | exact HB.out)⟩⟩
  · replace c8 := Bool.eq_false_iff.mpr c8
    subst c8
    have H1 : (curve_Conj.j0 k a1 a2 true a0_0 a0_1 l0_2) = some (r1, r2, r3, r4) := by rw [if_neg (show ¬ (false = true) by decide)] at H; exact H
    clear H
    have H := H1
    clear H1
    have H' := Aside0.mk H
    clear H
    have hnb25 := NB504_505.out
    have hnc25 := NB505_504.out
    have hcz26_0 : w6.cell? ⟨gb504, 0, none⟩ = some (.int .i64 a0_0) := (blk_cell BK504.out 0).trans rfl
    have hcz26_1 : w6.cell? ⟨gb504, 1, none⟩ = some (.int .i64 a0_1) := (blk_cell BK504.out 1).trans rfl
    have hcz26_2 : w6.cell? ⟨gb504, 2, none⟩ = some (.slice A0_2 l0_2.length c0_2) := (blk_cell BK504.out 2).trans rfl
    have hfz26_0 := blk_frozen BK504.out 0
    have hfz26_1 := blk_frozen BK504.out 1
    have hfz26_2 := blk_frozen BK504.out 2
    go_wp2_with (first | ((with_reducible refine gate_callee (f := 16) rfl ?_); refine goesL_ (some 11) rfl rfl Try.func16 (by kernel_rfl) rfl #[.agg #[.int .i64 a0_0, .int .i64 a0_1, .slice A0_2 l0_2.length c0_2]] rfl (by (try simp only [List.map_toArray, List.map_cons, List.map_nil]); first | done | rfl | (simp only [List.length_drop, List.length_take]; rfl)) ?_; (with_reducible refine (curve_Valid.calls a0_0 a0_1 _ _ l0_2 false _ ?side1 ?side2 A7.out).mono ?_); (case side1 => repeat (first | exact (Kd.C_below HR0_2.out HB.out) | (with_reducible refine Kd.C_alloc ?_ _) | (with_reducible refine Kd.C_drewN ?_ _) | (with_reducible refine Kd.C_drew ?_))); (case side2 => exact HC0_2.out); rintro e w27 ⟨rfl, hb⟩; refine ⟨_, rfl, ?_⟩; have n0_ := Aside0.mk (blk_below (g := gb504) (o := .cells #[.int .i64 a0_0, .int .i64 a0_1, .slice A0_2 l0_2.length c0_2] 24 (0, 0)) (by (with_reducible repeat (first | refine blk_drewN ?_ _ | refine blk_drew ?_ | refine blk_alloc ?_ _)); exact BK504.out) hb); have n1_ := Aside0.mk (blk_below (g := gb505) (o := .cells #[.int .i64 0, .int .i64 0, .slice none 0 0] 24 (0, 0)) (by (with_reducible repeat (first | refine blk_drewN ?_ _ | refine blk_drew ?_ | refine blk_alloc ?_ _)); exact BK505.out) hb); have n2_ := Aside0.mk (below_step (by repeat (first | (with_reducible first | exact HB.out | apply below_alloc | apply pw_below_drewN | apply below_drew1 | refine below_set ?_ GE504.out | refine below_set ?_ GE505.out) | exact HB.out)) hb); clear BK504; clear BK505; clear HB; have BK504 := n0_; have BK505 := n1_; have HB := n2_; clear n0_ n1_ n2_; (try clear hb); (try clear hb2); (try clear hk); (try clear hi)))
    go_meet
    case rel => exact ⟨_, (true), (by first | rfl | (simp; done) | (simp [*]; done)), H', ⟨by first | omega | exact Nat.le_refl _⟩, ⟨by (with_reducible repeat (first | refine blk_drewN ?_ _ | refine blk_drew ?_ | refine blk_alloc ?_ _)); exact BK504.out⟩, ⟨by (with_reducible repeat (first | refine blk_drewN ?_ _ | refine blk_drew ?_ | refine blk_alloc ?_ _)); exact BK505.out⟩, ⟨by repeat (first | (with_reducible first | exact HB.out | apply below_alloc | apply pw_below_drewN | apply below_drew1 | refine below_set ?_ GE504.out | refine below_set ?_ GE505.out) | exact HB.out)⟩⟩
 case rest =>
  clear HC4
  try clear c1
  try clear c2
  try clear p2
  try clear c3
  try clear p6
  try clear c8
  try clear c10
  try clear c11
  try clear c11b0
  try clear c12
  try clear c15
  try clear c15b0
  try clear c16
  try clear c19
  try clear c22
  try clear c25
  try clear hcz13_0
  try clear hcz13_1
  try clear hcz13_2
  try clear hcz17_0
  try clear hcz17_1
  try clear hcz17_2
  try clear hcz20_0
  try clear hcz20_1
  try clear hcz20_2
  try clear hcz23_0
  try clear hcz23_1
  try clear hcz23_2
  try clear hcz26_0
  try clear hcz26_1
  try clear hcz26_2
  try clear hfz13_0
  try clear hfz13_1
  try clear hfz13_2
  try clear hfz17_0
  try clear hfz17_1
  try clear hfz17_2
  try clear hfz20_0
  try clear hfz20_1
  try clear hfz20_2
  try clear hfz23_0
  try clear hfz23_1
  try clear hfz23_2
  try clear hfz26_0
  try clear hfz26_1
  try clear hfz26_2
  obtain ⟨kq, x32_3, rfl, HA, HJ3, BK504, BK505, HB⟩ := hcut
  cases kq with
  | zero => exact absurd HA.out (by simp [curve_Conj.j0])
  | succ kj3 =>
   have H := HA.out
   clear HA
   simp only [curve_Conj.j0] at H
   by_cases c28 : x32_3 = true
   · subst c28
     have H1 : (some (0, 0, ([] : List Int), 2)) = some (r1, r2, r3, r4) := by rw [if_pos rfl] at H; exact H
     clear H
     have H := H1
     clear H1
     simp only [Option.some.injEq, Prod.mk.injEq] at H
     obtain ⟨rfl, rfl, rfl, rfl⟩ := H
     have hnb29 := NB505_504.out
     have hnc29 := NB504_505.out
     have hcz30_0 : wc.cell? ⟨gb505, 0, none⟩ = some (.int .i64 0) := (blk_cell BK505.out 0).trans rfl
     have hcz30_1 : wc.cell? ⟨gb505, 1, none⟩ = some (.int .i64 0) := (blk_cell BK505.out 1).trans rfl
     have hcz30_2 : wc.cell? ⟨gb505, 2, none⟩ = some (.slice none 0 0) := (blk_cell BK505.out 2).trans rfl
     have hfz30_0 := blk_frozen BK505.out 0
     have hfz30_1 := blk_frozen BK505.out 1
     have hfz30_2 := blk_frozen BK505.out 2
     go_wp2
     refine bodyPost_ret (results_ct rfl _ _ gb505 24 #[.int .i64 0, .int .i64 0, .slice none 0 0] (0, 0) _ rfl (by (with_reducible repeat (first | refine blk_drewN ?_ _ | refine blk_drew ?_ | refine blk_alloc ?_ _)); refine blk_put (cs := #[.int .i64 0, .int .i64 0, .slice none 0 0]) ?_ 2 _ rfl; (with_reducible repeat (first | refine blk_drewN ?_ _ | refine blk_drew ?_ | refine blk_alloc ?_ _)); refine blk_put (cs := #[.int .i64 0, .int .i64 0, .slice none 0 0]) ?_ 1 _ rfl; (with_reducible repeat (first | refine blk_drewN ?_ _ | refine blk_drew ?_ | refine blk_alloc ?_ _)); refine blk_put (cs := #[.int .i64 0, .int .i64 0, .slice none 0 0]) ?_ 0 _ rfl; (with_reducible repeat (first | refine blk_drewN ?_ _ | refine blk_drew ?_ | refine blk_alloc ?_ _)); exact BK505.out) Try.underlying24 rfl (by kernel_rfl)) rfl ?_
     exact ⟨_, by first | rfl | (simp [errW_none, errW_some] <;> rfl) | (simp [*, errW_none, errW_some] <;> rfl), by first | exact Kd.R_nil _ _ _ _ _ | exact Kd.N_nil _ _ _ _ _ | exact Kd.V_nil _ _ _ _ _ | exact Kd.Q_nil _ _ _ _ _ | exact Kd.S_nil _ _ _ _ _, by repeat (first | (with_reducible first | exact HB.out | apply below_alloc | apply pw_below_drewN | apply below_drew1 | refine below_set ?_ GE504.out | refine below_set ?_ GE505.out) | exact HB.out)⟩
   · replace c28 := Bool.eq_false_iff.mpr c28
     subst c28
     have H1 : (curve_Conj.l0 kj3 a1 a2 ([] : List Int) a1 a0_0 a0_1 l0_2) = some (r1, r2, r3, r4) := by rw [if_neg (show ¬ (false = true) by decide)] at H; exact H
     clear H
     have H := H1
     clear H1
     have H' := Aside0.mk H
     clear H
     go_wp2
     go_loopg [8, 9] kj3 (fun kq v8 v9 w' => ∃ (x8_2 : List Int) (x9_2 : Int), v9 = .int .i64 x9_2 ∧ Aside0 (curve_Conj.l0 kq a1 a2 x8_2 x9_2 a0_0 a0_1 l0_2 = some (r1, r2, r3, r4)) ∧ Aside0 (kq ≤ kj3) ∧ Aside0 (Kd.R (Kd.int .i64) 3 w' w.heap.size (fun _ => True) v8 x8_2) ∧ Aside0 (w'.heap[gb504]? = some (.cells #[.int .i64 a0_0, .int .i64 a0_1, (.slice A0_2 l0_2.length c0_2)] 24 (0, 0))) ∧ Aside0 (w'.heap[gb505]? = some (.cells #[.int .i64 0, .int .i64 0, (.slice none 0 0)] 24 (0, 0))) ∧ Aside0 (Below w.heap.size w w'))
     case atStart => exact ⟨(([] : List Int)), (a1), (by first | rfl | (simp; done) | (simp [*]; done)), H', ⟨Nat.le_refl _⟩, ⟨by first | exact Kd.R_nil _ _ _ _ _ | exact Kd.N_nil _ _ _ _ _ | exact Kd.V_nil _ _ _ _ _ | exact Kd.Q_nil _ _ _ _ _ | exact Kd.S_nil _ _ _ _ _⟩, ⟨by (with_reducible repeat (first | refine blk_drewN ?_ _ | refine blk_drew ?_ | refine blk_alloc ?_ _)); exact BK504.out⟩, ⟨by (with_reducible repeat (first | refine blk_drewN ?_ _ | refine blk_drew ?_ | refine blk_alloc ?_ _)); exact BK505.out⟩, ⟨by repeat (first | (with_reducible first | exact HB.out | apply below_alloc | apply pw_below_drewN | apply below_drew1 | refine below_set ?_ GE504.out | refine below_set ?_ GE505.out) | exact HB.out)⟩⟩
     case round =>
      clear H'
      try clear c1
      try clear c2
      try clear p2
      try clear c3
      try clear p6
      try clear c8
      try clear c10
      try clear c11
      try clear c11b0
      try clear c12
      try clear c15
      try clear c15b0
      try clear c16
      try clear c19
      try clear c22
      try clear c25
      try clear c28
      try clear c29
      try clear hcz13_0
      try clear hcz13_1
      try clear hcz13_2
      try clear hcz17_0
      try clear hcz17_1
      try clear hcz17_2
      try clear hcz20_0
      try clear hcz20_1
      try clear hcz20_2
      try clear hcz23_0
      try clear hcz23_1
      try clear hcz23_2
      try clear hcz26_0
      try clear hcz26_1
      try clear hcz26_2
      try clear hcz30_0
      try clear hcz30_1
      try clear hcz30_2
      try clear hfz13_0
      try clear hfz13_1
      try clear hfz13_2
      try clear hfz17_0
      try clear hfz17_1
      try clear hfz17_2
      try clear hfz20_0
      try clear hfz20_1
      try clear hfz20_2
      try clear hfz23_0
      try clear hfz23_1
      try clear hfz23_2
      try clear hfz26_0
      try clear hfz26_1
      try clear hfz26_2
      try clear hfz30_0
      try clear hfz30_1
      try clear hfz30_2
      try clear p2
      try clear p6
      obtain ⟨x8_2, x9_2, rfl, HA, HK2, HO_8, BK504, BK505, HB⟩ := hrel
      cases gk with
      | zero => exact absurd HA.out (by simp [curve_Conj.l0])
      | succ k2 =>
       have H := HA.out
       clear HA
       simp only [curve_Conj.l0] at H
       by_cases c31 : x9_2 ≤ a2
       · rw [if_pos c31] at H
         have c31b0 : decide (x9_2 ≤ a2) = true := decide_eq_true c31
         clear c31
         replace H := Option.bind_eq_some_iff.mp H
         obtain ⟨t508, A320, H⟩ := H
         replace H : (if x8_2.length < 17592186044416 then (curve_Conj.l0 k2 a1 a2 (x8_2 ++ [t508]) (wrap64 (x9_2 + 1)) a0_0 a0_1 l0_2) else (none)) = some (r1, r2, r3, r4) := H
         have A32 := Aside0.mk A320
         clear A320
         by_cases c33 : x8_2.length < 17592186044416
         · rw [if_pos c33] at H
           have LMc33 := Aside0.mk c33
           clear c33
           obtain ⟨y509, hy509⟩ : ∃ y_ : List Int, y_ = (x8_2 ++ [t508]) := ⟨_, rfl⟩
           replace H : (curve_Conj.l0 k2 a1 a2 y509 (wrap64 (x9_2 + 1)) a0_0 a0_1 l0_2) = some (r1, r2, r3, r4) := by first | (rw [hy509]; with_reducible exact H) | (have H2_ := (Option.bind_some _ _).symm.trans H; rw [hy509]; with_reducible exact H2_) | (have H2_ := (Option.bind_some _ _).symm.trans H; with_reducible exact H2_) | with_reducible exact H | (rw [hy509]; exact H) | exact H
           have Ny509 := Aside0.mk hy509
           clear hy509
           have H' := Aside0.mk H
           clear H
           have hnb34 := NB504_505.out
           have hnc34 := NB505_504.out
           have hcz35_0 : wr.cell? ⟨gb504, 0, none⟩ = some (.int .i64 a0_0) := (blk_cell BK504.out 0).trans rfl
           have hcz35_1 : wr.cell? ⟨gb504, 1, none⟩ = some (.int .i64 a0_1) := (blk_cell BK504.out 1).trans rfl
           have hcz35_2 : wr.cell? ⟨gb504, 2, none⟩ = some (.slice A0_2 l0_2.length c0_2) := (blk_cell BK504.out 2).trans rfl
           have hfz35_0 := blk_frozen BK504.out 0
           have hfz35_1 := blk_frozen BK504.out 1
           have hfz35_2 := blk_frozen BK504.out 2
           go_wp2_with (first | ((with_reducible refine gate_callee (f := 75) rfl ?_); refine goesL_ (some 43) rfl rfl Try.func75 (by kernel_rfl) rfl #[.agg #[.int .i64 a0_0, .int .i64 a0_1, .slice A0_2 l0_2.length c0_2], .int .i64 x9_2] rfl (by (try simp only [List.map_toArray, List.map_cons, List.map_nil]); first | done | rfl | (simp only [List.length_drop, List.length_take]; rfl)) ?_; (with_reducible refine (curve_conj.calls k2 a0_0 a0_1 _ _ l0_2 x9_2 t508 _ ?side1 ?side2 A32.out).mono ?_); (case side1 => repeat (first | exact (Kd.C_below HR0_2.out HB.out) | (with_reducible refine Kd.C_alloc ?_ _) | (with_reducible refine Kd.C_drewN ?_ _) | (with_reducible refine Kd.C_drew ?_))); (case side2 => exact HC0_2.out); rintro e w36 ⟨rfl, hb⟩; refine ⟨_, rfl, ?_⟩; have n0_ := Aside0.mk (Kd.R_below (by (with_reducible repeat (first | apply Kd.R_alloc | apply Kd.R_drewN | apply Kd.R_drew)); exact HO_8.out) hb); have n1_ := Aside0.mk (blk_below (g := gb504) (o := .cells #[.int .i64 a0_0, .int .i64 a0_1, .slice A0_2 l0_2.length c0_2] 24 (0, 0)) (by (with_reducible repeat (first | refine blk_drewN ?_ _ | refine blk_drew ?_ | refine blk_alloc ?_ _)); exact BK504.out) hb); have n2_ := Aside0.mk (blk_below (g := gb505) (o := .cells #[.int .i64 0, .int .i64 0, .slice none 0 0] 24 (0, 0)) (by (with_reducible repeat (first | refine blk_drewN ?_ _ | refine blk_drew ?_ | refine blk_alloc ?_ _)); exact BK505.out) hb); have n3_ := Aside0.mk (below_step (by repeat (first | (with_reducible first | exact HB.out | apply below_alloc | apply pw_below_drewN | apply below_drew1 | refine below_set ?_ GE504.out | refine below_set ?_ GE505.out) | exact HB.out)) hb); clear HO_8; clear BK504; clear BK505; clear HB; have HO_8 := n0_; have BK504 := n1_; have BK505 := n2_; have HB := n3_; clear n0_ n1_ n2_ n3_; (try clear hb); (try clear hb2); (try clear hk); (try clear hi)) | ((with_reducible refine gate_builtin (b := .append) (xs := #[.tmp 40, .tmp 44]) rfl ?_); at_builtin; refine Kd.R_append (Kd.int .i64) (w0 := w) w.heap.size rfl (.tmp 40) (.tmp 44) 22 3 (.int .i64 0) 8 rfl Try.underlying22 info3 rfl (by decide) (by omega) u8 x8_2 t508 [.int .i64 t508] (fun _ => True) (fun _ => False) rfl rfl ?aP (fun _ hk => hk.elim) ?aF ?aO ?aB ?aS ?aL ?_; (case aP => exact rfl); (case aB => exact (by repeat (first | (with_reducible first | exact HB.out | apply below_alloc | apply pw_below_drewN | apply below_drew1 | refine below_set ?_ GE504.out | refine below_set ?_ GE505.out) | exact HB.out))); (case aF => exact (fun _ _ => trivial)); (case aO => exact (by (with_reducible repeat (first | apply Kd.R_alloc | apply Kd.R_drewN | apply Kd.R_drew)); exact HO_8.out)); (case aS => exact (below_size (by repeat (first | (with_reducible first | exact HB.out | apply below_alloc | apply pw_below_drewN | apply below_drew1 | refine below_set ?_ GE504.out | refine below_set ?_ GE505.out) | exact HB.out)))); (case aL => have := LMc33.out; omega); intro v510 w37 ho hb hg hat; rw [← Ny509.out] at ho; have n0_ := Aside0.mk (blk_grown (g := gb504) (o := .cells #[.int .i64 a0_0, .int .i64 a0_1, .slice A0_2 l0_2.length c0_2] 24 (0, 0)) (by (with_reducible repeat (first | refine blk_drewN ?_ _ | refine blk_drew ?_ | refine blk_alloc ?_ _)); exact BK504.out) hg (Kd.R_ne HO_8.out BK504.out (by decide))); have n1_ := Aside0.mk (blk_grown (g := gb505) (o := .cells #[.int .i64 0, .int .i64 0, .slice none 0 0] 24 (0, 0)) (by (with_reducible repeat (first | refine blk_drewN ?_ _ | refine blk_drew ?_ | refine blk_alloc ?_ _)); exact BK505.out) hg (Kd.R_ne HO_8.out BK505.out (by decide))); have n2_ := Aside0.mk (hb); have n3_ := Aside0.mk (ho); clear BK504; clear BK505; clear HB; clear HO_8; have BK504 := n0_; have BK505 := n1_; have HB := n2_; have HO511 := n3_; clear n0_ n1_ n2_ n3_; clear ho hb hg hat))
           go_roundg k2
           case measure => have := HJ3.out; have := HK2.out; omega
           case rel => exact ⟨(y509), (wrap64 (x9_2 + 1)), (by first | rfl | (simp; done) | (simp [*]; done)), H', ⟨by have := HJ3.out; have := HK2.out; omega⟩, ⟨by (with_reducible repeat (first | apply Kd.R_alloc | apply Kd.R_drewN | apply Kd.R_drew)); exact HO511.out⟩, ⟨by (with_reducible repeat (first | refine blk_drewN ?_ _ | refine blk_drew ?_ | refine blk_alloc ?_ _)); exact BK504.out⟩, ⟨by (with_reducible repeat (first | refine blk_drewN ?_ _ | refine blk_drew ?_ | refine blk_alloc ?_ _)); exact BK505.out⟩, ⟨by repeat (first | (with_reducible first | exact HB.out | apply below_alloc | apply pw_below_drewN | apply below_drew1 | refine below_set ?_ GE504.out | refine below_set ?_ GE505.out) | exact HB.out)⟩⟩
         · rw [if_neg c33] at H
           exact absurd H (by simp)
       · rw [if_neg c31] at H
         have c31b0 : decide (x9_2 ≤ a2) = false := decide_eq_false c31
         clear c31
         replace H := Option.bind_eq_some_iff.mp H
         obtain ⟨⟨t512, t513, t514⟩, A380, H⟩ := H
         replace H : ((curve_made.f t512 t513 t514).bind fun bt517 => (some (bt517.1, bt517.2.1, bt517.2.2.1, bt517.2.2.2))) = some (r1, r2, r3, r4) := H
         have A38 := Aside0.mk A380
         clear A380
         replace H := Option.bind_eq_some_iff.mp H
         obtain ⟨⟨t517, t518, t519, t522⟩, A390, H⟩ := H
         replace H : (some (t517, t518, t519, t522)) = some (r1, r2, r3, r4) := H
         have A39 := Aside0.mk A390
         clear A390
         simp only [Option.some.injEq, Prod.mk.injEq] at H
         obtain ⟨rfl, rfl, rfl, rfl⟩ := H
         obtain ⟨Ao40, co40, eo40⟩ := Kd.R_slice HO_8.out
         subst eo40
         go_wp2_with (first | ((with_reducible refine gate_callee (f := 71) rfl ?_); refine goesL_ (some 48) rfl rfl Try.func71 (by kernel_rfl) rfl #[.int .i64 a1, .slice Ao40 x8_2.length co40] rfl (by (try simp only [List.map_toArray, List.map_cons, List.map_nil]); first | done | rfl | (simp only [List.length_drop, List.length_take]; rfl)) ?_; (with_reducible refine (curve_through.calls k2 a1 _ _ x8_2 t512 t513 t514 _ ?side1 ?side2 A38.out).mono ?_); (case side1 => repeat (first | exact (Kd.R_reads' HO_8.out).2.2 | (with_reducible refine Kd.C_alloc ?_ _) | (with_reducible refine Kd.C_drewN ?_ _) | (with_reducible refine Kd.C_drew ?_))); (case side2 => exact (Kd.R_reads' HO_8.out).2.1); rintro e w41 ⟨v515, rfl, ho0, hb⟩; refine ⟨_, rfl, ?_⟩; have n0_ := Aside0.mk (Kd.R_elder' (by (with_reducible repeat (first | apply Kd.R_alloc | apply Kd.R_drewN | apply Kd.R_drew)); exact HO_8.out) (Kd.R_base ho0) hb); have n1_ := Aside0.mk (Kd.R_lower (Kd.R_new' ho0 (Kd.R_lt (by (with_reducible repeat (first | apply Kd.R_alloc | apply Kd.R_drewN | apply Kd.R_drew)); exact HO_8.out))) (below_size (by repeat (first | (with_reducible first | exact HB.out | apply below_alloc | apply pw_below_drewN | apply below_drew1 | refine below_set ?_ GE504.out | refine below_set ?_ GE505.out) | exact HB.out)))); have n2_ := Aside0.mk (blk_below (g := gb504) (o := .cells #[.int .i64 a0_0, .int .i64 a0_1, .slice A0_2 l0_2.length c0_2] 24 (0, 0)) (by (with_reducible repeat (first | refine blk_drewN ?_ _ | refine blk_drew ?_ | refine blk_alloc ?_ _)); exact BK504.out) hb); have n3_ := Aside0.mk (blk_below (g := gb505) (o := .cells #[.int .i64 0, .int .i64 0, .slice none 0 0] 24 (0, 0)) (by (with_reducible repeat (first | refine blk_drewN ?_ _ | refine blk_drew ?_ | refine blk_alloc ?_ _)); exact BK505.out) hb); have n4_ := Aside0.mk (below_step (by repeat (first | (with_reducible first | exact HB.out | apply below_alloc | apply pw_below_drewN | apply below_drew1 | refine below_set ?_ GE504.out | refine below_set ?_ GE505.out) | exact HB.out)) hb); clear HO_8; clear BK504; clear BK505; clear HB; have HO_8 := n0_; have HO516 := n1_; have BK504 := n2_; have BK505 := n3_; have HB := n4_; clear n0_ n1_ n2_ n3_ n4_; (try clear hb); (try clear hb2); (try clear hk); (try clear hi); (try clear ho0); obtain ⟨Ao42, co42, eo42⟩ := Kd.R_slice HO516.out; subst eo42) | ((with_reducible refine gate_callee (f := 51) rfl ?_); refine goesL_ (some 49) rfl rfl Try.func51 (by kernel_rfl) rfl #[.agg #[.int .i64 t512, .int .i64 t513, .slice Ao42 t514.length co42]] rfl (by (try simp only [List.map_toArray, List.map_cons, List.map_nil]); first | done | rfl | (simp only [List.length_drop, List.length_take]; rfl)) ?_; (with_reducible refine (curve_made.calls t512 t513 (fun k_ => some k_ = (.slice Ao42 t514.length co42 : Value).ownBlock) (.slice Ao42 t514.length co42) t514 t517 t518 t519 t522 w _ ?side1 ?side2 A39.out).mono ?_); (case side1 => repeat (first | (with_reducible first | exact HB.out | apply below_alloc | apply pw_below_drewN | apply below_drew1 | refine below_set ?_ GE504.out | refine below_set ?_ GE505.out) | exact HB.out)); (case side2 => exact Kd.R_tight rfl HO516.out); rintro e w43 ⟨v520, rfl, ho0, hb, hkp⟩; refine ⟨_, rfl, ?_⟩; have n0_ := Aside0.mk (Kd.R_mono (ok' := fun k_ => some k_ ≠ (v520 : Value).ownBlock) (Kd.R_keptB (HO_8.out) hkp (fun k_ hk_ hs_ => (hk_.2) hs_)) (fun k_ hk_ => fun e_ => Or.elim (ho0.1 k_ e_.symm) (fun hs_ => hk_.2.1 hs_) (fun hn_ => Nat.not_le.2 hk_.2.2 hn_))); have n1_ := Aside0.mk (blk_kept (by (with_reducible repeat (first | refine blk_drewN ?_ _ | refine blk_drew ?_ | refine blk_alloc ?_ _)); exact BK504.out) hkp (fun hs_ => (fun e_ => (Kd.R_ne HO516.out BK504.out (by decide)) e_) hs_)); have n2_ := Aside0.mk (blk_kept (by (with_reducible repeat (first | refine blk_drewN ?_ _ | refine blk_drew ?_ | refine blk_alloc ?_ _)); exact BK505.out) hkp (fun hs_ => (fun e_ => (Kd.R_ne HO516.out BK505.out (by decide)) e_) hs_)); have n3_ := Aside0.mk (Kd.R_mono (ok' := fun k_ => some k_ ≠ (.slice Ao40 x8_2.length co40 : Value).ownBlock) ho0 (fun k_ hk_ => Or.elim hk_ (fun hs_ => fun e_ => (((HO_8.out).1 k_ e_.symm).2) hs_) (fun hn_ => (Kd.fresh' (Kd.R_lt (by (with_reducible repeat (first | apply Kd.R_alloc | apply Kd.R_drewN | apply Kd.R_drew)); exact HO_8.out)) k_ hn_)))); have n4_ := Aside0.mk (hb); clear HO_8; clear BK504; clear BK505; clear HB; clear HO516; have HO_8 := n0_; have BK504 := n1_; have BK505 := n2_; have HO521 := n3_; have HB := n4_; clear n0_ n1_ n2_ n3_ n4_; (try clear hb); (try clear hkp); (try clear ho0); have hnb44 := NB505_504.out; have hnc44 := NB504_505.out; have hcz45_0 : w43.cell? ⟨gb505, 0, none⟩ = some (.int .i64 0) := (blk_cell BK505.out 0).trans rfl; have hcz45_1 : w43.cell? ⟨gb505, 1, none⟩ = some (.int .i64 0) := (blk_cell BK505.out 1).trans rfl; have hcz45_2 : w43.cell? ⟨gb505, 2, none⟩ = some (.slice none 0 0) := (blk_cell BK505.out 2).trans rfl; have hfz45_0 := blk_frozen BK505.out 0; have hfz45_1 := blk_frozen BK505.out 1; have hfz45_2 := blk_frozen BK505.out 2; obtain ⟨Ao46, co46, eo46⟩ := Kd.R_slice HO521.out; subst eo46))
         refine bodyPost_ret (results_ct rfl _ _ gb505 24 #[.int .i64 t517, .int .i64 t518, .slice Ao46 t519.length co46] (0, 0) _ rfl (by (with_reducible repeat (first | refine blk_drewN ?_ _ | refine blk_drew ?_ | refine blk_alloc ?_ _)); refine blk_put (cs := #[.int .i64 t517, .int .i64 t518, .slice none 0 0]) ?_ 2 _ rfl; (with_reducible repeat (first | refine blk_drewN ?_ _ | refine blk_drew ?_ | refine blk_alloc ?_ _)); refine blk_put (cs := #[.int .i64 t517, .int .i64 0, .slice none 0 0]) ?_ 1 _ rfl; (with_reducible repeat (first | refine blk_drewN ?_ _ | refine blk_drew ?_ | refine blk_alloc ?_ _)); refine blk_put (cs := #[.int .i64 0, .int .i64 0, .slice none 0 0]) ?_ 0 _ rfl; (with_reducible repeat (first | refine blk_drewN ?_ _ | refine blk_drew ?_ | refine blk_alloc ?_ _)); exact BK505.out) Try.underlying24 rfl (by kernel_rfl)) rfl ?_
         exact ⟨_, by first | rfl | (simp [errW_none, errW_some] <;> rfl) | (simp [*, errW_none, errW_some] <;> rfl), by (with_reducible repeat (first | apply Kd.R_alloc | apply Kd.R_drewN | apply Kd.R_drew)); exact Kd.R_mono (Kd.R_far (p := ⟨gb505, 2, none⟩) (Kd.R_far (p := ⟨gb505, 1, none⟩) (Kd.R_far (p := ⟨gb505, 0, none⟩) (Kd.R_types HO521.out BK505.out (by decide)) (fun _ hk => hk.2) (.int .i64 t517)) (fun _ hk => hk.2) (.int .i64 t518)) (fun _ hk => hk.2) (.slice Ao46 t519.length co46)) (fun _ hk => trivial), by repeat (first | (with_reducible first | exact HB.out | apply below_alloc | apply pw_below_drewN | apply below_drew1 | refine below_set ?_ GE504.out | refine below_set ?_ GE505.out) | exact HB.out)⟩
end Go.Proofs.Ytingjpcgehgiiaa.Pr
end
section
namespace Go.Proofs.Ytingjpcgehgiiaa.Pr
open Go.RowKit Go.Proofs.YtingjpcgehgiiaaW.PrintWords Go.Proofs.YtingjpcgehgiiaaW.PrintLast Go.Proofs.YtingjpcgehgiiaaW.PrintMore
set_option linter.unusedVariables false
set_option linter.unusedSimpArgs false
theorem mx_eq (a b : Int) : mx a b = max a b := by unfold mx; omega
theorem valid_f (c : S24) : curve_Valid.f c.f0 c.f1 c.f2 = some (decide (Vc c)) := by
  unfold curve_Valid.f
  by_cases h : Vc c
  · rw [decide_eq_true h]
    exact congrArg some h
  · rw [decide_eq_false h]
    exact congrArg some (Bool.eq_false_iff.2 h)
/-- The values, written out. -/
def outL (c : S24) (n : Nat) : List Int := (List.range n).map fun i : Nat => valC c (c.f0 + (i : Int))
theorem outL_len (c : S24) (n : Nat) : (outL c n).length = n := by unfold outL; rw [List.length_map, List.length_range]
theorem outL_rd (c : S24) (n i : Nat) (h : i < n) : rd (outL c n) (i : Int) = valC c (c.f0 + (i : Int)) := by
  rw [rd_nat _ _ (by rw [outL_len]; exact h)]
  unfold outL
  rw [List.getElem_map, List.getElem_range]
theorem outL_succ (c : S24) (n : Nat) : outL c (n + 1) = outL c n ++ [valC c (c.f0 + (n : Int))] := by
  unfold outL
  rw [List.range_succ, List.map_append]
  rfl
theorem tot_take_succ (l : List Int) (i : Nat) (h : i < l.length) : tot (l.take (i + 1)) = tot (l.take i) + rd l (i : Int) := by
  rw [List.take_add_one, List.getElem?_eq_getElem h, tot_append, rd_nat l i h]
  simp [tot]
theorem val_succ (c : S24) (i : Nat) (h : i < c.f2.length) : valC c (c.f0 + ((i + 1 : Nat) : Int)) = valC c (c.f0 + (i : Int)) + rd c.f2 (i : Int) := by
  unfold valC
  have e1 : (c.f0 + ((i + 1 : Nat) : Int) - c.f0).toNat = i + 1 := by omega
  have e2 : (c.f0 + (i : Int) - c.f0).toNat = i := by omega
  rw [e1, e2, tot_take_succ _ _ h]
  omega
theorem val_first (c : S24) : valC c c.f0 = c.f1 := by
  unfold valC
  have e : (c.f0 - c.f0).toNat = 0 := by omega
  rw [e]
  simp [tot]
theorem out_loop {c : S24} (h : Vc c) : ∀ n i : Nat, i + n = c.f2.length → Ev (fun k => kimberliteref03_Out.l0 k (i : Int) c.f0 c.f1 c.f2 c.f0 (outL c (i + 1))) (c.f0, outL c (c.f2.length + 1))
  | 0, i, hi => by
    have e : i = c.f2.length := by omega
    rw [← e]
    refine Ev.step (f := fun _ => some (c.f0, outL c (i + 1))) (fun k => ?_) (Ev.now _)
    simp only [kimberliteref03_Out.l0]
    rw [if_neg (by omega)]
  | n + 1, i, hi => by
    obtain ⟨h1, h2, h3, h4, h5, _, h7⟩ := vc_parts h
    have ih := out_loop h n (i + 1) (by omega)
    have ew : wrap64 ((i : Int) + 1) = ((i + 1 : Nat) : Int) := by unfold wrap64; omega
    have b := val_bound h (c.f0 + ((i + 1 : Nat) : Int))
    have hv := val_succ c i (by omega)
    have ev : wrap64 (rd (outL c (i + 1)) (i : Int) + rd c.f2 (i : Int)) = valC c (c.f0 + ((i + 1 : Nat) : Int)) := by
      rw [outL_rd c (i + 1) i (by omega), ← hv]
      unfold wrap64
      omega
    refine Ev.step (fun k => ?_) ih
    simp only [kimberliteref03_Out.l0]
    have hl := outL_len c (i + 1)
    rw [if_pos (by omega), if_pos (by omega), if_pos (by omega), if_pos (by omega), ew, ev, outL_succ c (i + 1)]
theorem out_ev {c : S24} (h : Vc c) : Ev (fun k => kimberliteref03_Out.f k c.f0 c.f1 c.f2) (c.f0, outL c (c.f2.length + 1)) := by
  have h1 := out_loop h c.f2.length 0 (by omega)
  have e : outL c (0 + 1) = [c.f1] := by
    unfold outL
    have : valC c (c.f0 + ((0 : Nat) : Int)) = c.f1 := by rw [show c.f0 + ((0 : Nat) : Int) = c.f0 by omega, val_first]
    simpa [List.range_succ] using this
  rw [e] at h1
  exact h1
theorem row_value {c : S24} (h : Vc c) {x : Int} (hx : inC c x) : kimberliteref03_Row_Value.f c.f0 (outL c (c.f2.length + 1)) x = some (valC c x) := by
  obtain ⟨h1, h2, h3, h4, h5, _, h7⟩ := vc_parts h
  obtain ⟨x1, x2⟩ := hx
  obtain ⟨k, hk⟩ := Int.eq_ofNat_of_zero_le (show 0 ≤ x - c.f0 by omega)
  have e : wrap64 (x - c.f0) = (k : Int) := by unfold wrap64; omega
  unfold kimberliteref03_Row_Value.f
  have hl := outL_len c (c.f2.length + 1)
  rw [e, if_pos (by omega), if_pos (by omega), outL_rd _ _ _ (by omega), ← hk]
  congr 2
  omega
theorem row_to {c : S24} (h : Vc c) : kimberliteref03_Row_To.f c.f0 (outL c (c.f2.length + 1)) = some (c.f0 + (c.f2.length : Int)) := by
  obtain ⟨h1, h2, h3, h4, h5, _, h7⟩ := vc_parts h
  unfold kimberliteref03_Row_To.f
  rw [outL_len]
  congr 1
  unfold wrap64
  omega
theorem mul_bound {p x P X : Int} (hp : -P ≤ p ∧ p ≤ P) (hx : -X ≤ x ∧ x ≤ X) : -(P * X) ≤ p * x ∧ p * x ≤ P * X := by
  have hP : 0 ≤ P := by omega
  have hX : 0 ≤ X := by omega
  have h1 : (p * x).natAbs ≤ (P * X).natAbs := by
    rw [Int.natAbs_mul, Int.natAbs_mul]
    exact Nat.mul_le_mul (by omega) (by omega)
  have h2 : 0 ≤ P * X := Int.mul_nonneg hP hX
  omega
theorem px_bound {p x : Int} (hp : -1073741824 ≤ p ∧ p ≤ 1073741824) (hx : -2097152 ≤ x ∧ x ≤ 2097152) : -2251799813685248 ≤ p * x ∧ p * x ≤ 2251799813685248 := mul_bound (P := 1073741824) (X := 2097152) hp hx
theorem in_bound {c : S24} (h : Vc c) {x : Int} (hx : inC c x) : -2097152 ≤ x ∧ x ≤ 2097152 := by
  obtain ⟨h1, h2, h3, h4, h5, _, h7⟩ := vc_parts h
  obtain ⟨x1, x2⟩ := hx
  omega
theorem term_w {c : S24} (h : Vc c) {x p : Int} (hx : inC c x) (hp : -1073741824 ≤ p ∧ p ≤ 1073741824) : wrap64 (wrap64 (p * x) - valC c x) = p * x - valC c x := by
  have h1 := px_bound hp (in_bound h hx)
  have h2 := val_bound h x
  unfold wrap64
  omega
theorem gC_bound {c : S24} (h : Vc c) {p : Int} (hp : -1073741824 ≤ p ∧ p ≤ 1073741824) : -2252899392421888 - 1 ≤ gC c p ∧ gC c p ≤ 2252899392421888 + 1 := by
  obtain ⟨x, hx, e⟩ := gC_at h p
  have h1 := px_bound hp (in_bound h hx)
  have h2 := val_bound h x
  omega
theorem greatest_loop {c : S24} (h : Vc c) {p : Int} (hp : -1073741824 ≤ p ∧ p ≤ 1073741824) : ∀ (n : Nat) (x b : Int), c.f0 ≤ x → x + (n : Int) = c.f0 + (c.f2.length : Int) + 1 → b ≤ gC c p → (b = gC c p ∨ ∃ y, x ≤ y ∧ inC c y ∧ p * y - valC c y = gC c p) →
    Ev (fun k => kimberliteref03_Greatest.l0 k p b x c.f0 (outL c (c.f2.length + 1))) (gC c p)
  | 0, x, b, hx, hn, hb, hor => by
    have e : b = gC c p := by
      rcases hor with e | ⟨y, y1, ⟨_, y2⟩, _⟩
      · exact e
      · omega
    refine Ev.step (f := fun _ => some b) (fun k => ?_) (by rw [e]; exact Ev.now _)
    simp only [kimberliteref03_Greatest.l0]
    rw [row_to h, Option.bind_some, if_neg (by omega)]
  | n + 1, x, b, hx, hn, hb, hor => by
    have hin : inC c x := ⟨hx, by omega⟩
    obtain ⟨h1, h2, h3, h4, h5, _, h7⟩ := vc_parts h
    have ew : wrap64 (x + 1) = x + 1 := by unfold wrap64; omega
    have et := term_w h hin hp
    have hy := young p hin
    refine Ev.step (fun k => ?_) (greatest_loop h hp n (x + 1) (mx b (p * x - valC c x)) (by omega) (by omega) (by rw [mx_eq]; omega) ?_)
    · simp only [kimberliteref03_Greatest.l0]
      rw [row_to h, Option.bind_some, if_pos (by omega), row_value h hin, Option.bind_some, et, ew]
    · rw [mx_eq]
      rcases hor with e | ⟨y, y1, y2, y3⟩
      · left; omega
      · by_cases hxy : y = x
        · subst hxy; left; omega
        · exact .inr ⟨y, by omega, y2, y3⟩
end Go.Proofs.Ytingjpcgehgiiaa.Pr
end
section
namespace Go.Proofs.Ytingjpcgehgiiaa.Pr
open Go.RowKit Go.Sort Go.Shelf Go.Proofs.YtingjpcgehgiiaaW.PrintWords Go.Proofs.YtingjpcgehgiiaaW.PrintLast Go.Proofs.YtingjpcgehgiiaaW.PrintMore
set_option linter.unusedVariables false
set_option linter.unusedSimpArgs false
theorem heap_put {w : World} {g m : Nat} {e : TypeId} {cur : Array Value} {F : Array Value} (os : Array Obj) (hb : w.heap[g]? = some (.cells cur e (0, 0))) :
    (grow (putRow id (Sort.ahead w m) g 0 F) os).heap[g]? = some (.cells (putCells id 0 F cur) e (0, 0)) := by
  have hg : g < w.heap.size := (Array.getElem?_eq_some_iff.1 hb).1
  have h1 : (putRow id (Sort.ahead w m) g 0 F).heap[g]? = some (.cells (putCells id 0 F cur) e (0, 0)) := by
    simp only [putRow, mapBlock, Sort.ahead, Array.getElem?_modify, if_true, hb, Option.map_some, onCells]
  unfold grow
  simp only
  rw [Array.getElem?_append_left (by simpa [putRow, mapBlock, Sort.ahead] using hg)]
  exact h1
theorem grownBy_put {w : World} {g m : Nat} {os : Array Obj} (F : Array Value) : w.grownBy (grow (putRow id (Sort.ahead w m) g 0 F) os) (some g) := by
  refine ⟨rfl, rfl, rfl, by simp [grow, putRow, mapBlock, Sort.ahead], fun k hk hne => ?_⟩
  have : g ≠ k := fun e => hne (by rw [e])
  unfold grow
  simp only
  rw [Array.getElem?_append_left (by simpa [putRow, mapBlock, Sort.ahead] using hk)]
  simp [putRow, mapBlock, Sort.ahead, Array.getElem?_modify, this]
theorem take_put (cur : Array Value) (ts : List Value) (h : ts.length ≤ cur.size) : (putCells id 0 ts.toArray cur).toList.take ts.length = ts := by
  apply List.ext_getElem
  · simp [putCells]
    omega
  · intro i h1 h2
    simp only [putCells, List.getElem_take, Array.getElem_toList, Array.getElem_mapIdx]
    rw [if_pos ⟨by omega, by simpa using h2⟩]
    simp only [id, Nat.sub_zero]
    rw [getElem!_pos _ i (by simpa using h2)]
    simp
theorem own_put {w : World} {base g cap n k m : Nat} {e : TypeId} {os : Array Obj} {cur : Array Value} {ts : List Value} (hbase : base ≤ g) (hb : w.heap[g]? = some (.cells cur e (0, 0)))
    (h1 : n ≤ cap) (h2 : cap ≤ maxLen) (h3 : cur.size = cap * k) (hl : ts.length = n * k) :
    (grow (putRow id (Sort.ahead w m) g 0 ts.toArray) os).ownsRow base e k (.slice (some ⟨g, 0, none⟩) n cap) n ts := by
  refine ⟨hl, .inr ⟨g, cap, _, rfl, hbase, heap_put os hb, h1, h2, by simp [putCells, h3], ?_⟩⟩
  rw [← hl]
  exact take_put cur ts (by rw [hl, h3]; exact Nat.mul_le_mul_right _ h1)
def RowI (w : World) (base : Nat) (v : Value) (l : List Int) : Prop := w.ownsRow base 3 1 v l.length (l.map (Value.int .i64))
theorem row_some {w : World} {base : Nat} {v : Value} {l : List Int} (h : RowI w base v l) (hne : l ≠ []) : ∃ g c cur, v = .slice (some ⟨g, 0, none⟩) l.length c ∧ base ≤ g ∧ w.heap[g]? = some (.cells cur 3 (0, 0)) ∧ l.length ≤ c ∧ c ≤ maxLen ∧ cur.size = c ∧ cur.toList.take l.length = l.map (Value.int .i64) := by
  rcases h.2 with ⟨rfl, h0⟩ | ⟨g, cap, cur, rfl, h1, h2, h3, h4, h5, h6⟩
  · exact absurd (List.eq_nil_of_length_eq_zero h0) hne
  · exact ⟨g, cap, cur, rfl, h1, h2, h3, h4, by omega, by simpa using h6⟩
theorem cur_at {cur : Array Value} {l : List Int} (h : cur.toList.take l.length = l.map (Value.int .i64)) (j : Nat) (hj : j < l.length) : cur[j]? = some (.int .i64 l[j]) := by
  have := congrArg (fun z => z[j]?) h
  simp only [List.getElem?_take, if_pos hj, List.getElem?_map, List.getElem?_eq_getElem hj, Option.map_some] at this
  simpa using this
theorem row_holds {w : World} {g : Nat} {cur : Array Value} {l : List Int} (hb : w.heap[g]? = some (.cells cur 3 (0, 0))) (h : cur.toList.take l.length = l.map (Value.int .i64)) : Holds (Value.int .i64) w g 0 l.toArray := by
  intro j hj
  have hj' : j < l.length := by simpa using hj
  refine ⟨?_, blk_frozen hb _⟩
  rw [blk_cell hb, Nat.zero_add, cur_at h j hj', getElem!_pos l.toArray j hj]
  simp
theorem putRow_id (w : World) (g : Nat) (d : List Int) : putRow (Value.int .i64) w g 0 d.toArray = putRow id w g 0 (d.map (Value.int .i64)).toArray := by
  unfold putRow
  congr 1
  funext c
  unfold putCells
  congr 1
  funext k x
  simp only [Nat.zero_le, true_and, Nat.zero_add, Nat.sub_zero, List.size_toArray, List.length_map, id]
  by_cases hk : k < d.length
  · rw [if_pos hk, if_pos hk, getElem!_pos d.toArray k (by simpa using hk), getElem!_pos (d.map (Value.int .i64)).toArray k (by simpa using hk)]
    simp
  · rw [if_neg hk, if_neg hk]
/-- Laid anew it is owned again; its first m numbers are owned by the slice cut to m. -/
theorem row_put {w : World} {base g c : Nat} {cur : Array Value} {d : List Int} {n : Nat} (m : Nat) (os : Array Obj) (h1 : base ≤ g) (h2 : w.heap[g]? = some (.cells cur 3 (0, 0))) (h3 : n ≤ c) (h4 : c ≤ maxLen) (h5 : cur.size = c) (hd : d.length = n) (q : Nat) (hq : q ≤ n) :
    RowI (grow (putRow (Value.int .i64) (Sort.ahead w m) g 0 d.toArray) os) base (.slice (some ⟨g, 0, none⟩) q c) (d.take q) ∧ w.grownBy (grow (putRow (Value.int .i64) (Sort.ahead w m) g 0 d.toArray) os) (some g) := by
  rw [putRow_id]
  refine ⟨?_, grownBy_put _⟩
  have := own_put (w := w) (base := base) (g := g) (cap := c) (n := n) (k := 1) (m := m) (e := 3) (os := os) (cur := cur) (ts := d.map (Value.int .i64)) h1 h2 h3 h4 (by omega) (by simp [hd])
  rcases this with ⟨_, ⟨e, _⟩ | ⟨g', cap', cur', e, a1, a2, a3, a4, a5, a6⟩⟩
  · cases e
  · injection e with e1 _ e3
    injection e1 with e1
    injection e1 with e1
    subst e1 e3
    have hlen : (d.take q).length = q := by rw [List.length_take]; omega
    refine ⟨by simp, .inr ⟨g, c, cur', by rw [hlen], a1, a2, by omega, a4, a5, ?_⟩⟩
    rw [hlen, Nat.mul_one, List.map_take, ← a6, List.take_take]
    congr 1
    omega
end Go.Proofs.Ytingjpcgehgiiaa.Pr
end
section
namespace Go.Proofs
open Go.Shelf
def Try.lays189_ren : Go.Shelf.Ren := ⟨fun | 189 => 50 | 125 => 81 | 257 => 80 | 128 => 96 | 129 => 97 | 294 => 88 | 295 => 89 | 296 => 90 | 297 => 91 | 298 => 92 | 299 => 93 | 216 => 82 | 300 => 94 | 301 => 95 | 328 => 100 | 329 => 101 | 330 => 102 | 331 => 103 | 332 => 104 | 215 => 98 | 343 => 105 | n => n, fun | 28 => 22 | 3 => 3 | 46 => 98 | 0 => 0 | 51 => 112 | 53 => 114 | 4 => 4 | 183 => 106 | 182 => 105 | 131 => 31 | 5 => 5 | 9 => 9 | 218 => 115 | 222 => 119 | 228 => 121 | 229 => 74 | n => n, fun | n => n⟩
theorem Try.lays189 : Go.Proofs.Lays.n189 Try.prog Try.lays189_ren := {
  mixed := by kernel_rfl
  f125 := Try.func81.trans (congrArg some (by kernel_rfl))
  f128 := Try.func96.trans (congrArg some (by kernel_rfl))
  f129 := Try.func97.trans (congrArg some (by kernel_rfl))
  f189 := Try.func50.trans (congrArg some (by kernel_rfl))
  f215 := Try.func98.trans (congrArg some (by kernel_rfl))
  f216 := Try.func82.trans (congrArg some (by kernel_rfl))
  f257 := Try.func80.trans (congrArg some (by kernel_rfl))
  f294 := Try.func88.trans (congrArg some (by kernel_rfl))
  f295 := Try.func89.trans (congrArg some (by kernel_rfl))
  f296 := Try.func90.trans (congrArg some (by kernel_rfl))
  f297 := Try.func91.trans (congrArg some (by kernel_rfl))
  f298 := Try.func92.trans (congrArg some (by kernel_rfl))
  f299 := Try.func93.trans (congrArg some (by kernel_rfl))
  f300 := Try.func94.trans (congrArg some (by kernel_rfl))
  f301 := Try.func95.trans (congrArg some (by kernel_rfl))
  f328 := Try.func100.trans (congrArg some (by kernel_rfl))
  f329 := Try.func101.trans (congrArg some (by kernel_rfl))
  f330 := Try.func102.trans (congrArg some (by kernel_rfl))
  f331 := Try.func103.trans (congrArg some (by kernel_rfl))
  f332 := Try.func104.trans (congrArg some (by kernel_rfl))
  f343 := Try.func105.trans (congrArg some (by kernel_rfl))
  t0 := Try.underlying0
  a0 := Try.isAgg0
  z0 := Try.sizeOf0
  v0 := Try.zeroValue0
  t3 := Try.underlying3
  a3 := Try.isAgg3
  z3 := Try.sizeOf3
  v3 := Try.zeroValue3
  t4 := Try.underlying4
  a4 := Try.isAgg4
  z4 := Try.sizeOf4
  v4 := Try.zeroValue4
  t5 := Try.underlying5
  a5 := Try.isAgg5
  z5 := Try.sizeOf5
  v5 := Try.zeroValue5
  t9 := Try.underlying9
  a9 := Try.isAgg9
  z9 := Try.sizeOf9
  v9 := Try.zeroValue9
  t28 := Try.underlying22
  a28 := Try.isAgg22
  z28 := Try.sizeOf22
  v28 := Try.zeroValue22
  t46 := Try.underlying98
  a46 := Try.isAgg98
  z46 := Try.sizeOf98
  v46 := Try.zeroValue98
  t51 := Try.underlying112
  a51 := Try.isAgg112
  z51 := Try.sizeOf112
  v51 := Try.zeroValue112
  t53 := Try.underlying114
  a53 := Try.isAgg114
  z53 := Try.sizeOf114
  v53 := Try.zeroValue114
  t131 := Try.underlying31
  a131 := Try.isAgg31
  z131 := Try.sizeOf31
  v131 := Try.zeroValue31
  t182 := Try.underlying105
  a182 := Try.isAgg105
  z182 := Try.sizeOf105
  v182 := Try.zeroValue105
  t183 := Try.underlying106
  a183 := Try.isAgg106
  z183 := Try.sizeOf106
  v183 := Try.zeroValue106
  t218 := Try.underlying115
  a218 := Try.isAgg115
  z218 := Try.sizeOf115
  v218 := Try.zeroValue115
  t222 := Try.underlying119
  a222 := Try.isAgg119
  z222 := Try.sizeOf119
  v222 := Try.zeroValue119
  t228 := Try.underlying121
  a228 := Try.isAgg121
  z228 := Try.sizeOf121
  v228 := Try.zeroValue121
  t229 := Try.underlying74
  a229 := Try.isAgg74
  z229 := Try.sizeOf74
  v229 := Try.zeroValue74 }
open Go.Sort Go.RowKit in
theorem Try.slices_Sort_int (blk off cap : Nat) (zs : List Int) (w : World) (hH : Holds (Value.int .i64) w blk off zs.toArray) (hblk : blk < w.heap.size) (hsz : zs.length < 4611686018427387904) :
    Calls Try.prog 50 #[.slice (some ⟨blk, off, none⟩) zs.length cap] w fun e w' =>
      e = .returned (.tuple #[]) ∧ ∃ n os, w' = grow (putRow (Value.int .i64) (Sort.ahead w n) blk off (zs.mergeSort fun x y => decide (x ≤ y)).toArray) os := Any.slices_Sort_int Try.lays189 blk off cap zs w hH hblk hsz
open Go.RowKit Go.Sort in
/-- .. and plain. (LAID: no walk: one application.) -/
theorem Try.slices_Sort_int_none (p : Option Addr) (cap : Nat) (w : World) :
    Calls Try.prog 50 #[.slice p 0 cap] w fun e w' => e = .returned (.tuple #[]) ∧ w' = w := Any.slices_Sort_int_none Try.lays189 p cap w
def Try.grow79_ren : Go.Shelf.Ren := ⟨fun | 4 => 79 | n => n, fun | 22 => 22 | 25 => 3 | 3 => 3 | 4 => 4 | 9 => 9 | 20 => 20 | 0 => 0 | n => n, fun | n => n⟩
theorem Try.grow79 : Go.Proofs.Lays8.n4 Try.prog Try.grow79_ren := {
  mixed := by kernel_rfl
  f4 := ⟨Try.f79.name, by decide, Try.func79.trans (congrArg some (by kernel_rfl))⟩
  t0 := Try.underlying0
  a0 := Try.isAgg0
  z0 := Try.sizeOf0
  v0 := Try.zeroValue0
  t3 := Try.underlying3
  a3 := Try.isAgg3
  z3 := Try.sizeOf3
  v3 := Try.zeroValue3
  t4 := Try.underlying4
  a4 := Try.isAgg4
  z4 := Try.sizeOf4
  v4 := Try.zeroValue4
  t9 := Try.underlying9
  a9 := Try.isAgg9
  z9 := Try.sizeOf9
  v9 := Try.zeroValue9
  t20 := Try.underlying20
  a20 := Try.isAgg20
  z20 := Try.sizeOf20
  v20 := Try.zeroValue20
  t22 := Try.underlying22
  a22 := Try.isAgg22
  z22 := Try.sizeOf22
  v22 := Try.zeroValue22 }
open Go.RowKit Go.Lib in
/-- slices.Grow where there is room. -/
theorem Try.slices_Grow_room (base : Option Addr) (l c n : Nat) (w : World) (hlc : l ≤ c) (hc63 : c ≤ 9223372036854775807) (hn63 : n ≤ 9223372036854775807) (hroom : l + n ≤ c) :
    Calls Try.prog 79 #[.slice base l c, .int .i64 n] w fun e w' => e = .returned (.slice base l c) ∧ w' = w := Any8.slices_Grow_room Try.grow79 base l c n w hlc hc63 hn63 hroom
open Go.RowKit Go.Lib in
/-- slices.Grow of nil. -/
theorem Try.slices_Grow_nil (i0 : TypeInfo) (z : Value) (hi0 : Try.prog.info? 3 = some i0) (hz0 : i0.zero = some z) (hs0 : 0 < i0.size) (n : Nat) (w : World) (hroom : 0 < 0 + n) (hbig : (0 + n) * i0.bytes ≤ 140737488355328) (h63 : 0 + n ≤ 4611686018427387904) :
    Calls Try.prog 79 #[.slice none 0 0, .int .i64 n] w fun e w' =>
      e = .returned (.slice (some ⟨w.heap.size, 0, none⟩) 0 (grownCap w (0 + n) 0 3)) ∧
      w' = w.drew.alloc (.cells (([] : List Value).toArray ++ Builtin.zeroCells z.cells (0 + n - 0) ++ Builtin.zeroCells z.cells (grownCap w (0 + n) 0 3 - (0 + n))) 3) := Any8.slices_Grow_grow Try.grow79 i0 z hi0 hz0 hs0 none 0 0 n [] w (Nat.le_refl _) hroom hbig h63 (by simp) (fun _ => rfl) (fun a h => by cases h)
end Go.Proofs
end
section
namespace Go.Proofs.Ytingjpcgehgiiaa.Pr
open Go.RowKit Go.Shelf Go.Proofs.YtingjpcgehgiiaaW.PrintWords Go.Proofs.YtingjpcgehgiiaaW.PrintLast Go.Proofs.YtingjpcgehgiiaaW.PrintMore
set_option linter.unusedVariables false
set_option linter.unusedSimpArgs false
/-- A slice of a call's own with no numbers, and room for n. -/
theorem grow_nil (n : Nat) (w : World) (hn : n ≤ 1000000) : Calls Try.prog 79 #[.slice none 0 0, .int .i64 n] w fun e w' => ∃ v, e = .returned v ∧ Kd.R (Kd.int .i64) 3 w' w.heap.size (fun _ => True) v [] ∧ Below w.heap.size w w' := by
  rcases Nat.eq_zero_or_pos n with rfl | h0
  · refine (Try.slices_Grow_room none 0 0 0 w (by omega) (by omega) (by omega) (by omega)).mono ?_
    rintro e w' ⟨rfl, rfl⟩
    exact ⟨_, rfl, Kd.R_nil _ _ _ _ _, Below.refl _ _⟩
  · obtain ⟨i0, hi, hz, hs, hb⟩ := info_parts info3
    refine (Try.slices_Grow_nil i0 (.int .i64 0) hi hz (by omega) n w (by omega) (by rw [hb]; omega) (by omega)).mono ?_
    rintro e w' ⟨rfl, rfl⟩
    have hge := grownCap_ge w (0 + n) 0 3
    have hle := grownCap_le_maxLen w (0 + n) 0 3 (by unfold maxLen; omega)
    generalize grownCap w (0 + n) 0 3 = G at hge hle ⊢
    refine ⟨_, rfl, ⟨fun _ _ => trivial, [], ⟨rfl, .inr ⟨w.heap.size, G, _, rfl, Nat.le_refl _, blk_new w.drew _, Nat.zero_le _, hle, ?_, rfl⟩⟩, Reps.none _ _⟩, ?_⟩
    · simp [size_zeroCells, Value.cells]
      change n + (G - n) = G * 1
      omega
    · exact below_alloc (below_drew1 (Below.refl _ _)) _
set_option maxHeartbeats 4000000 in
set_option maxRecDepth 100000 in
/-- slices.Concat of two lists. -/
theorem concat_two (gb : Nat) (A1 A2 : Option Addr) (c1 c2 : Nat) (l m : List Int) (w : World) (hg : w.heap[gb]? = some (.cells #[.slice A1 l.length c1, .slice A2 m.length c2] 22 (0, 0))) (hr1 : Kd.C (Kd.int .i64) w A1 l.length l) (hr2 : Kd.C (Kd.int .i64) w A2 m.length m) (hl : l.length ≤ 1000) (hm : m.length ≤ 1000) :
    Calls Try.prog 49 #[.slice (some ⟨gb, 0, none⟩) 2 2] w fun e w' => ∃ v, e = .returned v ∧ Kd.R (Kd.int .i64) 3 w' w.heap.size (fun _ => True) v (l ++ m) ∧ Below w.heap.size w w' := by
  have HR1 := Aside0.mk hr1
  have HR2 := Aside0.mk hr2
  have HG := Aside0.mk hg
  have hz0 : w.cell? ⟨gb, 0, none⟩ = some (.slice A1 l.length c1) := (blk_cell hg 0).trans rfl
  have hz1 : w.cell? ⟨gb, 1, none⟩ = some (.slice A2 m.length c2) := (blk_cell hg 1).trans rfl
  have ZZ0 := Aside0.mk hz0
  have ZZ1 := Aside0.mk hz1
  clear hr1 hr2 hg
  go_enter Try.func49, Try.ntmps49
  go_wp2
  go_loopg [3, 11] 2 (fun gg v3 v11 wr => ∃ kk : Nat, kk ≤ 2 ∧ 2 - kk ≤ gg ∧ v3 = .int .i64 (if kk = 0 then 0 else if kk = 1 then (l.length : Int) else ((l.length + m.length : Nat) : Int)) ∧ v11 = .int .i64 kk ∧ w = wr)
  case atStart => exact ⟨0, by omega, by omega, rfl, rfl, rfl⟩
  case round =>
    obtain ⟨kk, hkk, hg, rfl, rfl, rfl⟩ := hrel
    rcases (by omega : kk = 0 ∨ kk = 1 ∨ kk = 2) with rfl | rfl | rfl
    · go_wp2
      go_roundg 1
      case measure => omega
      case rel => exact ⟨1, by omega, by omega, rfl, rfl, rfl⟩
    · have hw : IntKind.i64.wrap ((l.length : Int) + (m.length : Int)) = (l.length : Int) + (m.length : Int) := by rw [i64_w]; unfold wrap64; omega
      have hn : ¬ (l.length : Int) + (m.length : Int) < 0 := by omega
      go_wp2
      go_roundg 0
      case measure => omega
      case rel => exact ⟨2, by omega, by omega, by first | rfl | simp, rfl, rfl⟩
    · have hG := Aside0.mk (grow_nil (l.length + m.length) w (by omega))
      go_wp2_with (go_at_call 79; refine hG.out.mono ?_; rintro e w1 ⟨v1, rfl, ho1, hb1⟩; obtain ⟨A3, c3, e3⟩ := Kd.R_slice ho1; subst e3; have hy0 := (hb1.cell (p := ⟨gb, 0, none⟩) (World.block_lt_of_cell? _ _ hz0)).trans hz0; have hy1 := (hb1.cell (p := ⟨gb, 1, none⟩) (World.block_lt_of_cell? _ _ hz1)).trans hz1; clear hz0 hz1)
      have HO1 := Aside0.mk ho1
      have HB1 := Aside0.mk hb1
      clear ho1 hb1 hg hkk
      clear hy0 hy1
      go_loopg [6, 27] 2 (fun gg v6 v27 wr => ∃ kk : Nat, kk ≤ 2 ∧ 2 - kk ≤ gg ∧ v27 = .int .i64 kk ∧ Aside0 (Kd.R (Kd.int .i64) 3 wr w.heap.size (fun _ => True) v6 (if kk = 0 then [] else if kk = 1 then l else l ++ m)) ∧ Aside0 (Below w.heap.size w wr))
      case atStart => exact ⟨0, by omega, by omega, rfl, HO1, HB1⟩
      case round =>
        obtain ⟨kk, hkk, hg, rfl, HO, HB⟩ := hrel
        have hy0 := (HB.out.cell (p := ⟨gb, 0, none⟩) (World.block_lt_of_cell? _ _ ZZ0.out)).trans ZZ0.out
        have hy1 := (HB.out.cell (p := ⟨gb, 1, none⟩) (World.block_lt_of_cell? _ _ ZZ1.out)).trans ZZ1.out
        rcases (by omega : kk = 0 ∨ kk = 1 ∨ kk = 2) with rfl | rfl | rfl
        · obtain ⟨A5, c5, e5⟩ := Kd.R_slice HO.out
          subst e5
          go_wp2_with (at_builtin; refine Kd.R_append_rows (Kd.int .i64) (Rr := (Kd.int .i64).K w) (w0 := w) w.heap.size rfl (.tmp 31) (.tmp 32) 22 3 (.int .i64 0) 8 rfl Try.underlying22 info3 rfl (by decide) (by omega) _ ([]) l A1 l.length c1 (fun _ => True) (fun _ => False) rfl rfl HO.out ?aR ?aK (fun _ hk => hk.elim) (fun _ _ => trivial) HB.out HB.out.size ?aL ?_; (case aR => exact (Kd.C_below HR1.out HB.out)); (case aK => (intro x cs hx; exact hx)); (case aL => (first | omega | (simp; omega))); intro v2 w2 ho2 hb2 hg2 hn2; clear hg2 hn2; obtain ⟨A4, c4, e4⟩ := Kd.R_slice ho2; subst e4)
          go_roundg 1
          case measure => omega
          case rel => exact ⟨1, by omega, by omega, rfl, ⟨ho2⟩, ⟨hb2⟩⟩
        · obtain ⟨A5, c5, e5⟩ := Kd.R_slice HO.out
          subst e5
          go_wp2_with (at_builtin; refine Kd.R_append_rows (Kd.int .i64) (Rr := (Kd.int .i64).K w) (w0 := w) w.heap.size rfl (.tmp 31) (.tmp 32) 22 3 (.int .i64 0) 8 rfl Try.underlying22 info3 rfl (by decide) (by omega) _ (l) m A2 m.length c2 (fun _ => True) (fun _ => False) rfl rfl HO.out ?aR ?aK (fun _ hk => hk.elim) (fun _ _ => trivial) HB.out HB.out.size ?aL ?_; (case aR => exact (Kd.C_below HR2.out HB.out)); (case aK => (intro x cs hx; exact hx)); (case aL => (first | omega | (simp; omega))); intro v2 w2 ho2 hb2 hg2 hn2; clear hg2 hn2; obtain ⟨A4, c4, e4⟩ := Kd.R_slice ho2; subst e4)
          go_roundg 0
          case measure => omega
          case rel => exact ⟨2, by omega, by omega, rfl, ⟨by have h := ho2; rw [List.length_append] at h; exact h⟩, ⟨hb2⟩⟩
        · obtain ⟨A5, c5, e5⟩ := Kd.R_slice HO.out
          subst e5
          go_wp2
          go_ret
          exact ⟨_, rfl, HO.out, HB.out⟩
def sortL (l : List Int) : List Int := l.mergeSort fun x y => decide (x ≤ y)
theorem sortL_len (l : List Int) : (sortL l).length = l.length := List.length_mergeSort _
/-- slices.Sort of a row of the call's own. -/
theorem sort_own (v : Value) (l : List Int) (base : Nat) (w : World) (h : Kd.R (Kd.int .i64) 3 w base (fun _ => True) v l) (hl : l.length ≤ 1000000) :
    Calls Try.prog 50 #[v] w fun e w' => e = .returned (.tuple #[]) ∧ Kd.R (Kd.int .i64) 3 w' base (fun _ => True) v (sortL l) ∧ w.grownBy w' v.ownBlock := by
  have hr : RowI w base v l := Kd.own_of_R h
  rcases l with _ | ⟨x, t⟩
  · obtain ⟨A, c, rfl⟩ := Kd.R_slice h
    refine (Try.slices_Sort_int_none A c w).mono ?_
    rintro e w' ⟨rfl, rfl⟩
    have e0 : sortL [] = [] := by simp [sortL]
    rw [e0]
    exact ⟨rfl, h, grown_of_below (Below.refl _ _) _⟩
  · obtain ⟨g, c, cur, rfl, g1, g2, g3, g4, g5, g6⟩ := row_some hr (by simp)
    have glt := (Array.getElem?_eq_some_iff.1 g2).1
    refine (Try.slices_Sort_int g 0 c (x :: t) w (row_holds g2 g6) glt (by omega)).mono ?_
    rintro e w' ⟨rfl, m, os, rfl⟩
    obtain ⟨r1, r2⟩ := row_put m os g1 g2 g3 g4 g5 (sortL_len (x :: t)) (x :: t).length (Nat.le_refl _)
    rw [List.take_of_length_le (by rw [sortL_len]; exact Nat.le_refl _)] at r1
    exact ⟨rfl, Kd.R_of_own r1 (fun _ _ => trivial), r2⟩
/-- A curve is stored into a result's block of its own. -/
theorem store_curve {w W : World} {g : Nat} {a b c v : Value} {x y : Int} {l : List Int} (HB : Below w.heap.size w W) (GE : w.heap.size ≤ g) (BK : W.heap[g]? = some (.cells #[a, b, c] 24 (0, 0))) (hR : Kd.R (Kd.int .i64) 3 W w.heap.size (fun k => k ≠ g) v l) :
    (((W.setCell ⟨g, 0, none⟩ (.int .i64 x)).setCell ⟨g, 1, none⟩ (.int .i64 y)).setCell ⟨g, 2, none⟩ v).heap[g]? = some (.cells #[.int .i64 x, .int .i64 y, v] 24 (0, 0)) ∧
    Kd.R (Kd.int .i64) 3 (((W.setCell ⟨g, 0, none⟩ (.int .i64 x)).setCell ⟨g, 1, none⟩ (.int .i64 y)).setCell ⟨g, 2, none⟩ v) w.heap.size (fun _ => True) v l ∧
    Below w.heap.size w (((W.setCell ⟨g, 0, none⟩ (.int .i64 x)).setCell ⟨g, 1, none⟩ (.int .i64 y)).setCell ⟨g, 2, none⟩ v) :=
  ⟨blk_put (blk_put (blk_put BK 0 _ rfl) 1 _ rfl) 2 _ rfl,
   Kd.R_mono (Kd.R_far (p := ⟨g, 2, none⟩) (Kd.R_far (p := ⟨g, 1, none⟩) (Kd.R_far (p := ⟨g, 0, none⟩) hR (fun _ hk => hk) _) (fun _ hk => hk) _) (fun _ hk => hk) _) (fun _ _ => trivial),
   below_set (below_set (below_set HB GE) GE) GE⟩
theorem blk_sort {w w' : World} {g : Nat} {cs : Array Value} {base : Nat} {v : Value} {l : List Int} (BK : w.heap[g]? = some (.cells cs 24 (0, 0))) (hR : Kd.R (Kd.int .i64) 3 w base (fun _ => True) v l) (hg : w.grownBy w' v.ownBlock) : w'.heap[g]? = some (.cells cs 24 (0, 0)) := by
  refine (hg.block g (Array.getElem?_eq_some_iff.1 BK).1 (fun e => ?_)).trans BK
  obtain ⟨cells, hc⟩ := own_typed hR.2.choose_spec.1 g e.symm
  rw [BK] at hc
  cases hc
def joinR (a0 a1 : Int) (l : List Int) (b0 b1 : Int) (m : List Int) : Int × Int × List Int × Int :=
  if (validC a0 a1 l && validC b0 b1 m) = true then
    (if validC (wrap64 (a0 + b0)) (wrap64 (a1 + b1)) (sortL (l ++ m)) = true then (wrap64 (a0 + b0), wrap64 (a1 + b1), sortL (l ++ m), 0) else (0, 0, [], 4))
  else (0, 0, [], 2)
def curve_Join.f (a0_0 a0_1 : Int) (l0_2 : List Int) (a1_0 a1_1 : Int) (l1_2 : List Int) : Option (Int × Int × List Int × Int) := some (joinR a0_0 a0_1 l0_2 a1_0 a1_1 l1_2)
theorem validC_len {a0 a1 : Int} {l : List Int} (h : validC a0 a1 l = true) : l.length ≤ 64 := by
  unfold validC at h
  simp only [Bool.and_eq_true, decide_eq_true_eq] at h
  exact h.2.2.1
set_option maxHeartbeats 8000000 in
set_option maxRecDepth 100000 in
theorem curve_Join.calls (a0_0 a0_1 : Int) (A0_2 : Option Addr) (c0_2 : Nat) (l0_2 : List Int) (a1_0 a1_1 : Int) (A1_2 : Option Addr) (c1_2 : Nat) (l1_2 : List Int) (r1 r2 : Int) (r3 : List Int) (r4 : Int) (w : World) (hr0_2 : Kd.C (Kd.int .i64) w A0_2 l0_2.length l0_2) (hc0_2 : l0_2.length ≤ c0_2) (hr1_2 : Kd.C (Kd.int .i64) w A1_2 l1_2.length l1_2) (hc1_2 : l1_2.length ≤ c1_2) (h : curve_Join.f a0_0 a0_1 l0_2 a1_0 a1_1 l1_2 = some (r1, r2, r3, r4)) :
    Calls Try.prog 14 #[.agg #[.int .i64 a0_0, .int .i64 a0_1, .slice A0_2 l0_2.length c0_2], .agg #[.int .i64 a1_0, .int .i64 a1_1, .slice A1_2 l1_2.length c1_2]] w fun e w' => ∃ v_ : Value, e = .returned (.tuple #[.agg #[.int .i64 r1, .int .i64 r2, v_], .int .i64 r4]) ∧ Kd.R (Kd.int .i64) 3 w' w.heap.size (fun _ => True) v_ r3 ∧ Below w.heap.size w w' := by
  have hj : joinR a0_0 a0_1 l0_2 a1_0 a1_1 l1_2 = (r1, r2, r3, r4) := Option.some.inj h
  have HR0 := Aside0.mk hr0_2
  have HR1 := Aside0.mk hr1_2
  have HC0 := Aside0.mk hc0_2
  have HC1 := Aside0.mk hc1_2
  unfold joinR at hj
  have V0 := Aside0.mk (show curve_Valid.f a0_0 a0_1 l0_2 = some (validC a0_0 a0_1 l0_2) from rfl)
  have V1 := Aside0.mk (show curve_Valid.f a1_0 a1_1 l1_2 = some (validC a1_0 a1_1 l1_2) from rfl)
  have L0 := Aside0.mk (fun h => @validC_len a0_0 a0_1 l0_2 h)
  have L1 := Aside0.mk (fun h => @validC_len a1_0 a1_1 l1_2 h)
  obtain ⟨ll, hll⟩ : ∃ ll, ll = l0_2 ++ l1_2 := ⟨_, rfl⟩
  rw [← hll] at hj
  have HLL := Aside0.mk hll
  have HJ := Aside0.mk hj
  clear hll
  clear h hj hr0_2 hr1_2 hc0_2 hc1_2
  generalize validC a0_0 a0_1 l0_2 = b0 at V0 L0 HJ
  generalize validC a1_0 a1_1 l1_2 = b1 at V1 L1 HJ
  go_enter Try.func14, Try.ntmps14
  go_wp2_with (first | ((with_reducible refine gate_dst (N := 2) rfl ?_); refine box_event ?hg (N := 2) ?hd (cs := #[.int .i64 a0_0, .int .i64 a0_1, .slice A0_2 l0_2.length c0_2]) (t := 24) ?hr ?_; (case hd => rfl); (case hg => rfl); (case hr => first | (go_simp; done) | (go_simp; rfl)); intro g2 hg w1 hbox hb; have HB1 := Aside0.mk hb; have BKa1 := Aside0.mk hbox; clear hb hg hbox) | ((with_reducible refine gate_dst (N := 3) rfl ?_); refine box_event ?hg (N := 3) ?hd (cs := #[.int .i64 a1_0, .int .i64 a1_1, .slice A1_2 l1_2.length c1_2]) (t := 24) ?hr ?_; (case hd => rfl); (case hg => rfl); (case hr => first | (go_simp; done) | (go_simp; rfl)); intro g3 hg w2 hbox hb; have HB2 := Aside0.mk (below_then HB1.out HB1.out.size hb); have BKa2 := Aside0.mk (blk_below BKa1.out hb); have BKb2 := Aside0.mk hbox; clear hb hg hbox HB1 BKa1) | ((with_reducible refine gate_dst (N := 4) rfl ?_); refine box_event ?hg (N := 4) ?hd (cs := #[.int .i64 0, .int .i64 0, .slice none 0 0]) (t := 24) ?hr ?_; (case hd => rfl); (case hg => rfl); (case hr => first | (go_simp; done) | (go_simp; rfl)); intro g4 hg w3 hbox hb; have HB3 := Aside0.mk (below_then HB2.out HB2.out.size hb); have BKa3 := Aside0.mk (blk_below BKa2.out hb); have BKb3 := Aside0.mk (blk_below BKb2.out hb); have BKc3 := Aside0.mk hbox; have GE := Aside0.mk (show w.heap.size ≤ g4 by rw [hg]; exact HB2.out.size); clear hb hg hbox HB2 BKa2 BKb2; have hx0 : w3.cell? ⟨g2, 0, none⟩ = some (.int .i64 a0_0) := (blk_cell BKa3.out 0).trans rfl; have hx1 : w3.cell? ⟨g2, 1, none⟩ = some (.int .i64 a0_1) := (blk_cell BKa3.out 1).trans rfl; have hx2 : w3.cell? ⟨g2, 2, none⟩ = some (.slice A0_2 l0_2.length c0_2) := (blk_cell BKa3.out 2).trans rfl))
  go_wp2_with (go_at_call 16; (with_reducible refine (curve_Valid.calls a0_0 a0_1 _ _ l0_2 _ _ (Kd.C_below HR0.out HB3.out) HC0.out V0.out).mono ?_); rintro e w4 ⟨rfl, hb4⟩; have HB4 := Aside0.mk (below_then HB3.out HB3.out.size hb4); have BKa4 := Aside0.mk (blk_below BKa3.out hb4); have BKb4 := Aside0.mk (blk_below BKb3.out hb4); have BKc4 := Aside0.mk (blk_below BKc3.out hb4); clear hb4 HB3 BKa3 BKb3 BKc3 hx0 hx1 hx2; have hy0 : w4.cell? ⟨g3, 0, none⟩ = some (.int .i64 a1_0) := (blk_cell BKb4.out 0).trans rfl; have hy1 : w4.cell? ⟨g3, 1, none⟩ = some (.int .i64 a1_1) := (blk_cell BKb4.out 1).trans rfl; have hy2 : w4.cell? ⟨g3, 2, none⟩ = some (.slice A1_2 l1_2.length c1_2) := (blk_cell BKb4.out 2).trans rfl; have hz0 : w4.cell? ⟨g4, 0, none⟩ = some (.int .i64 0) := (blk_cell BKc4.out 0).trans rfl; have hf0 := blk_frozen BKc4.out 0; have hz1 : w4.cell? ⟨g4, 1, none⟩ = some (.int .i64 0) := (blk_cell BKc4.out 1).trans rfl; have hf1 := blk_frozen BKc4.out 1; have hz2 : w4.cell? ⟨g4, 2, none⟩ = some (.slice none 0 0) := (blk_cell BKc4.out 2).trans rfl; have hf2 := blk_frozen BKc4.out 2; cases b0)
  · go_wp2
    obtain ⟨e1, e2, e3⟩ := store_curve (x := 0) (y := 0) (v := .slice none 0 0) HB4.out GE.out BKc4.out (Kd.R_nil _ _ _ _ _)
    obtain ⟨rfl, rfl, rfl, rfl⟩ : 0 = r1 ∧ 0 = r2 ∧ [] = r3 ∧ 2 = r4 := by have h := HJ.out; simpa using h
    refine bodyPost_ret (results_ct rfl _ _ g4 24 _ (0, 0) _ rfl e1 Try.underlying24 rfl (by kernel_rfl)) rfl ?_
    exact ⟨_, rfl, e2, e3⟩
  · go_wp2_with (go_at_call 16; (with_reducible refine (curve_Valid.calls a1_0 a1_1 _ _ l1_2 _ _ (Kd.C_below HR1.out HB4.out) HC1.out V1.out).mono ?_); rintro e w5 ⟨rfl, hb5⟩; have HB5 := Aside0.mk (below_then HB4.out HB4.out.size hb5); have BKa5 := Aside0.mk (blk_below BKa4.out hb5); have BKb5 := Aside0.mk (blk_below BKb4.out hb5); have BKc5 := Aside0.mk (blk_below BKc4.out hb5); clear hb5 HB4 BKa4 BKb4 BKc4 hy0 hy1 hy2 hz0 hz1 hz2 hf0 hf1 hf2; have hx0 : w5.cell? ⟨g2, 0, none⟩ = some (.int .i64 a0_0) := (blk_cell BKa5.out 0).trans rfl; have hx1 : w5.cell? ⟨g2, 1, none⟩ = some (.int .i64 a0_1) := (blk_cell BKa5.out 1).trans rfl; have hx2 : w5.cell? ⟨g2, 2, none⟩ = some (.slice A0_2 l0_2.length c0_2) := (blk_cell BKa5.out 2).trans rfl; have hy0 : w5.cell? ⟨g3, 0, none⟩ = some (.int .i64 a1_0) := (blk_cell BKb5.out 0).trans rfl; have hy1 : w5.cell? ⟨g3, 1, none⟩ = some (.int .i64 a1_1) := (blk_cell BKb5.out 1).trans rfl; have hy2 : w5.cell? ⟨g3, 2, none⟩ = some (.slice A1_2 l1_2.length c1_2) := (blk_cell BKb5.out 2).trans rfl; have hz0 : w5.cell? ⟨g4, 0, none⟩ = some (.int .i64 0) := (blk_cell BKc5.out 0).trans rfl; have hf0 := blk_frozen BKc5.out 0; have hz1 : w5.cell? ⟨g4, 1, none⟩ = some (.int .i64 0) := (blk_cell BKc5.out 1).trans rfl; have hf1 := blk_frozen BKc5.out 1; have hz2 : w5.cell? ⟨g4, 2, none⟩ = some (.slice none 0 0) := (blk_cell BKc5.out 2).trans rfl; have hf2 := blk_frozen BKc5.out 2; cases b1)
    · go_wp2
      obtain ⟨e1, e2, e3⟩ := store_curve (x := 0) (y := 0) (v := .slice none 0 0) HB5.out GE.out BKc5.out (Kd.R_nil _ _ _ _ _)
      obtain ⟨rfl, rfl, rfl, rfl⟩ : 0 = r1 ∧ 0 = r2 ∧ [] = r3 ∧ 2 = r4 := by have h := HJ.out; simpa using h
      refine bodyPost_ret (results_ct rfl _ _ g4 24 _ (0, 0) _ rfl e1 Try.underlying24 rfl (by kernel_rfl)) rfl ?_
      exact ⟨_, rfl, e2, e3⟩
    · have hl0 := L0.out (by first | trivial | rfl)
      have hl1 := L1.out (by first | trivial | rfl)
      have HL := Aside0.mk (And.intro hl0 hl1)
      clear hl0 hl1
      go_wp2_with (go_at_call 49; (with_reducible refine (concat_two w5.heap.size A0_2 A1_2 c0_2 c1_2 l0_2 l1_2 _ (blk_new _ _) (Kd.C_below HR0.out (below_alloc HB5.out _)) (Kd.C_below HR1.out (below_alloc HB5.out _)) (by have := HL.out; omega) (by have := HL.out; omega)).mono ?_); rintro e w6 ⟨v6, rfl, ho6, hb6⟩; rw [← HLL.out] at ho6; have hb56 := below_then (below_alloc (Below.refl w5.heap.size w5) (.cells #[.slice A0_2 l0_2.length c0_2, .slice A1_2 l1_2.length c1_2] 22)) (below_alloc (Below.refl w5.heap.size w5) _).size hb6; have HO6 := Aside0.mk (Kd.R_lower ho6 (Nat.le_trans HB5.out.size (below_alloc (Below.refl w5.heap.size w5) _).size)); have HB6 := Aside0.mk (below_then HB5.out HB5.out.size hb56); have BKa6 := Aside0.mk (blk_below BKa5.out hb56); have BKb6 := Aside0.mk (blk_below BKb5.out hb56); have BKc6 := Aside0.mk (blk_below BKc5.out hb56); clear ho6 hb6 hb56 HB5 BKa5 BKb5 BKc5 hx0 hx1 hx2 hy0 hy1 hy2 hz0 hz1 hz2 hf0 hf1 hf2; obtain ⟨A6, c6, e6⟩ := Kd.R_slice HO6.out; subst e6)
      have hsort := sort_own _ ll w.heap.size w6 HO6.out (by have := HL.out; rw [HLL.out, List.length_append]; omega)
      have HS := Aside0.mk hsort
      clear hsort
      go_wp2_with (go_at_call 50; (with_reducible refine HS.out.mono ?_); rintro e w7 ⟨rfl, ho7, hg7⟩; have HO7 := Aside0.mk ho7; have HB7 := Aside0.mk (HB6.out.grown hg7 HB6.out.size (fun k hk => Kd.R_base HO6.out k hk)); have BKa7 := Aside0.mk (blk_sort BKa6.out HO6.out hg7); have BKb7 := Aside0.mk (blk_sort BKb6.out HO6.out hg7); have BKc7 := Aside0.mk (blk_sort BKc6.out HO6.out hg7); clear ho7 hg7 HB6 BKa6 BKb6 BKc6 HS; have hx0 : w7.cell? ⟨g2, 0, none⟩ = some (.int .i64 a0_0) := (blk_cell BKa7.out 0).trans rfl; have hx1 : w7.cell? ⟨g2, 1, none⟩ = some (.int .i64 a0_1) := (blk_cell BKa7.out 1).trans rfl; have hx2 : w7.cell? ⟨g2, 2, none⟩ = some (.slice A0_2 l0_2.length c0_2) := (blk_cell BKa7.out 2).trans rfl; have hy0 : w7.cell? ⟨g3, 0, none⟩ = some (.int .i64 a1_0) := (blk_cell BKb7.out 0).trans rfl; have hy1 : w7.cell? ⟨g3, 1, none⟩ = some (.int .i64 a1_1) := (blk_cell BKb7.out 1).trans rfl; have hy2 : w7.cell? ⟨g3, 2, none⟩ = some (.slice A1_2 l1_2.length c1_2) := (blk_cell BKb7.out 2).trans rfl)
      have HM := Aside0.mk (show curve_made.f (wrap64 (a0_0 + a1_0)) (wrap64 (a0_1 + a1_1)) (sortL ll) = some (r1, r2, r3, r4) by
        have h := HJ.out
        rw [if_pos (by first | trivial | rfl)] at h
        unfold curve_made.f curve_Valid.f
        rw [Option.bind_some, ← h]
        cases validC (wrap64 (a0_0 + a1_0)) (wrap64 (a0_1 + a1_1)) (sortL ll) <;> rfl)
      have hlt4 := (Array.getElem?_eq_some_iff.1 BKc7.out).1
      have HLT := Aside0.mk hlt4
      clear hlt4
      go_wp2_with (go_at_call 51; (with_reducible refine (curve_made.calls _ _ (fun k_ => True ∧ k_ ≠ g4) _ (sortL ll) r1 r2 r3 r4 w w7 HB7.out (Kd.R_types HO7.out BKc7.out (by decide)) HM.out).mono ?_); rintro e w8 ⟨v8, rfl, ho8, hb8, hk8⟩; obtain ⟨A8, c8, e8⟩ := Kd.R_slice ho8; subst e8; have BKc8 := Aside0.mk ((hk8.2 g4 HLT.out (fun h => h.2 rfl)).trans BKc7.out); have HB8 := Aside0.mk hb8; have HR8 := Aside0.mk (Kd.R_mono (ok' := fun k_ => k_ ≠ g4) ho8 (fun k hk => by rcases hk with hk | hk; exact hk.2; have := HLT.out; omega)); clear ho8 hb8 hk8 hx0 hx1 hx2 hy0 hy1 hy2; have hz0 : w8.cell? ⟨g4, 0, none⟩ = some (.int .i64 0) := (blk_cell BKc8.out 0).trans rfl; have hf0 := blk_frozen BKc8.out 0; have hz1 : w8.cell? ⟨g4, 1, none⟩ = some (.int .i64 0) := (blk_cell BKc8.out 1).trans rfl; have hf1 := blk_frozen BKc8.out 1; have hz2 : w8.cell? ⟨g4, 2, none⟩ = some (.slice none 0 0) := (blk_cell BKc8.out 2).trans rfl; have hf2 := blk_frozen BKc8.out 2)
      obtain ⟨e1, e2, e3⟩ := store_curve (x := r1) (y := r2) HB8.out GE.out BKc8.out HR8.out
      refine bodyPost_ret (results_ct rfl _ _ g4 24 _ (0, 0) _ rfl e1 Try.underlying24 rfl (by kernel_rfl)) rfl ?_
      exact ⟨_, rfl, e2, e3⟩
end Go.Proofs.Ytingjpcgehgiiaa.Pr
end
section
namespace Go.Proofs.Ytingjpcgehgiiaa.Pr
open Go.RowKit Go.Proofs.YtingjpcgehgiiaaW.PrintWords Go.Proofs.YtingjpcgehgiiaaW.PrintLast Go.Proofs.YtingjpcgehgiiaaW.PrintMore
set_option linter.unusedVariables false
set_option linter.unusedSimpArgs false
/-- How many are below. -/
def cnt (p : Int) (l : List Int) : Nat := l.countP fun s => decide (s < p)
theorem cnt_none {p : Int} {l : List Int} (h : ∀ s ∈ l, p ≤ s) : cnt p l = 0 := by
  unfold cnt
  rw [List.countP_eq_zero]
  intro s hs
  have := h s hs
  simp only [decide_eq_true_eq]
  omega
theorem cnt_all {p : Int} {l : List Int} (h : ∀ s ∈ l, s < p) : cnt p l = l.length := by
  unfold cnt
  rw [List.countP_eq_length]
  intro s hs
  simpa using h s hs
theorem cnt_le (p : Int) (l : List Int) : cnt p l ≤ l.length := List.countP_le_length
theorem cnt_split (p : Int) (l : List Int) (k : Nat) : cnt p l = cnt p (l.take k) + cnt p (l.drop k) := by
  unfold cnt
  rw [← List.countP_append, List.take_append_drop]
/-- In an ordered list the counts part it. -/
theorem cnt_parts {l : List Int} (h : sortedI l = true) (p : Int) : (∀ s ∈ l.take (cnt p l), s < p) ∧ (∀ s ∈ l.drop (cnt p l), p ≤ s) := by
  obtain ⟨k, h1, h2, h3⟩ := parts_at h p
  have e : cnt p l = k := by
    rw [cnt_split p l k, cnt_all h2, cnt_none h3, List.length_take]
    omega
  rw [e]
  exact ⟨h2, h3⟩
end Go.Proofs.Ytingjpcgehgiiaa.Pr
end
section
namespace Go.Proofs.Ytingjpcgehgiiaa.Pr
open Go.RowKit Go.Proofs.YtingjpcgehgiiaaW.PrintWords Go.Proofs.YtingjpcgehgiiaaW.PrintLast Go.Proofs.YtingjpcgehgiiaaW.PrintMore
set_option linter.unusedVariables false
set_option linter.unusedSimpArgs false
theorem mid_w (i j : Nat) (h : i + j ≤ 4611686018427387904) : wrap64 (IntKind.u64.wrap (wrap64 ((i : Int) + (j : Int))) / 2) = (((i + j) / 2 : Nat) : Int) := by
  have e1 : wrap64 ((i : Int) + (j : Int)) = ((i + j : Nat) : Int) := by unfold wrap64; omega
  have e2 : IntKind.u64.wrap ((i + j : Nat) : Int) = ((i + j : Nat) : Int) := by
    rw [IntKind.wrap_u64]
    omega
  rw [e1, e2]
  unfold wrap64
  omega
theorem search_end {l : List Int} (p : Int) (i j : Nat) (hij : ¬i < j) (h1 : i ≤ cnt p l) (h2 : cnt p l ≤ j) (h3 : j ≤ l.length) : ∃ b, Ev (fun k => slices_BinarySearch_int_int.l0 k l p (l.length : Int) (i : Int) (j : Int)) ((cnt p l : Int), b) := by
  have e : i = cnt p l := by omega
  subst e
  by_cases hx : cnt p l < l.length
  · by_cases he : rd l ((cnt p l : Nat) : Int) = p
    · refine ⟨true, Ev.step (f := fun _ => some (((cnt p l : Nat) : Int), true)) (fun k => ?_) (Ev.now _)⟩
      simp only [slices_BinarySearch_int_int.l0]
      rw [if_neg (by omega), if_pos (by omega), if_pos (by omega), if_pos (by omega), if_pos he]
    · refine ⟨false, Ev.step (f := fun _ => some (((cnt p l : Nat) : Int), false)) (fun k => ?_) (Ev.now _)⟩
      simp only [slices_BinarySearch_int_int.l0]
      rw [if_neg (by omega), if_pos (by omega), if_pos (by omega), if_pos (by omega), if_neg he]
      unfold slices_isNaN_int.f
      simp
  · refine ⟨false, Ev.step (f := fun _ => some (((cnt p l : Nat) : Int), false)) (fun k => ?_) (Ev.now _)⟩
    simp only [slices_BinarySearch_int_int.l0]
    rw [if_neg (by omega), if_neg (by omega)]
theorem search_loop {l : List Int} (hs : sortedI l = true) (hl : l.length ≤ 1000000) (p : Int) : ∀ (n i j : Nat), j - i ≤ n → i ≤ cnt p l → cnt p l ≤ j → j ≤ l.length → ∃ b, Ev (fun k => slices_BinarySearch_int_int.l0 k l p (l.length : Int) (i : Int) (j : Int)) ((cnt p l : Int), b)
  | 0, i, j, hn, h1, h2, h3 => search_end p i j (by omega) h1 h2 h3
  | n + 1, i, j, hn, h1, h2, h3 => by
    obtain ⟨c1, c2⟩ := cnt_parts hs p
    by_cases hij : i < j
    · have hm := mid_w i j (by omega)
      obtain ⟨m, hmid⟩ : ∃ m, m = (i + j) / 2 := ⟨_, rfl⟩
      rw [← hmid] at hm
      have m1 : i ≤ m := by omega
      have m2 : m < j := by omega
      have e1 : wrap64 ((m : Int) + 1) = ((m + 1 : Nat) : Int) := by clear hm; unfold wrap64; omega
      have m3 : m < l.length := by omega
      have key : ∀ k, slices_BinarySearch_int_int.l0 (k + 1) l p (l.length : Int) (i : Int) (j : Int) = if rd l (m : Int) < p then slices_BinarySearch_int_int.l0 k l p (l.length : Int) ((m + 1 : Nat) : Int) (j : Int) else slices_BinarySearch_int_int.l0 k l p (l.length : Int) (i : Int) (m : Int) := fun k => by
        simp only [slices_BinarySearch_int_int.l0]
        have q1 : (i : Int) < (j : Int) := by clear hm e1; omega
        have q2 : 0 ≤ (m : Int) := by clear hm e1; omega
        have q3 : (m : Int) < (l.length : Int) := by clear hm e1; omega
        rw [hm, if_pos q1, if_pos q2, if_pos q3, less_f, Option.bind_some, e1]
        by_cases hc : rd l (m : Int) < p
        · rw [if_pos hc, if_pos (decide_eq_true hc)]
        · rw [if_neg hc, decide_eq_false hc, if_neg (by simp)]
      by_cases hc : rd l (m : Int) < p
      · have hcm : m + 1 ≤ cnt p l := by
          apply Classical.byContradiction
          intro hh
          have := c2 _ (rd_mem_drop (l := l) (k := cnt p l) (i := m) (by clear hm e1; omega) m3)
          clear hm e1
          omega
        obtain ⟨b, hb⟩ := search_loop hs hl p n (m + 1) j (by clear hm e1; omega) hcm h2 h3
        exact ⟨b, Ev.step (fun k => (key k).trans (if_pos hc)) hb⟩
      · have hcm : cnt p l ≤ m := by
          apply Classical.byContradiction
          intro hh
          have := c1 _ (rd_mem_take (l := l) (k := cnt p l) (i := m) (by clear hm e1; omega) m3)
          clear hm e1
          omega
        obtain ⟨b, hb⟩ := search_loop hs hl p n i m (by clear hm e1; omega) h1 hcm (by clear hm e1; omega)
        exact ⟨b, Ev.step (fun k => (key k).trans (if_neg hc)) hb⟩
    · exact search_end p i j hij h1 h2 h3
theorem below_ev {c : S24} (h : Vc c) (p : Int) : Ev (fun k => curve_walker_below.f k c.f0 c.f1 c.f2 p) (c.f0 + (cnt p c.f2 : Int)) := by
  obtain ⟨h1, h2, h3, h4, h5, hs, h7⟩ := vc_parts h
  have hc := cnt_le p c.f2
  obtain ⟨b, hb⟩ := search_loop hs (by omega) p c.f2.length 0 c.f2.length (by omega) (by omega) hc (Nat.le_refl _)
  have e : wrap64 (c.f0 + (cnt p c.f2 : Int)) = c.f0 + (cnt p c.f2 : Int) := by clear hb; unfold wrap64; omega
  unfold curve_walker_below.f slices_BinarySearch_int_int.f
  refine Ev.bind hb ?_
  rw [e]
  exact Ev.now _
theorem cnt_in {c : S24} (p : Int) : inC c (c.f0 + (cnt p c.f2 : Int)) := by
  have hc := cnt_le p c.f2
  exact ⟨by omega, by omega⟩
theorem cnt_tight {c : S24} (h : Vc c) (p : Int) : p * (c.f0 + (cnt p c.f2 : Int)) - valC c (c.f0 + (cnt p c.f2 : Int)) = gC c p := by
  obtain ⟨h1, h2, h3, h4, h5, hs, h7⟩ := vc_parts h
  obtain ⟨c1, c2⟩ := cnt_parts hs p
  have e : (c.f0 + (cnt p c.f2 : Int) - c.f0).toNat = cnt p c.f2 := by omega
  exact young_eq (cnt_in p) (by rw [e]; exact fun s hs => by have := c1 s hs; omega) (by rw [e]; exact c2)
theorem conj_ev {c : S24} (h : Vc c) {p : Int} (hp : -1073741824 ≤ p ∧ p ≤ 1073741824) : Ev (fun k => curve_conj.f k c.f0 c.f1 c.f2 p) (gC c p) := by
  unfold curve_conj.f
  refine Ev.bind (below_ev h p) ?_
  rw [at_val h (cnt_in p), Option.bind_some, term_w h (cnt_in p) hp, cnt_tight h p]
  exact Ev.now _
def difL (vs : List Int) (n : Nat) : List Int := (List.range n).map fun i : Nat => rd vs ((i + 1 : Nat) : Int) - rd vs (i : Int)
theorem difL_len (vs : List Int) (n : Nat) : (difL vs n).length = n := by unfold difL; rw [List.length_map, List.length_range]
theorem difL_succ (vs : List Int) (n : Nat) : difL vs (n + 1) = difL vs n ++ [rd vs ((n + 1 : Nat) : Int) - rd vs (n : Int)] := by
  unfold difL
  rw [List.range_succ, List.map_append]
  rfl
theorem through_step (from_ : Int) (vs : List Int) {i : Nat} (h1 : i + 1 < vs.length) (hl : vs.length ≤ 1000) (hb : -4611686018427387904 ≤ rd vs ((i + 1 : Nat) : Int) - rd vs (i : Int) ∧ rd vs ((i + 1 : Nat) : Int) - rd vs (i : Int) ≤ 4611686018427387904) (k : Nat) :
    curve_through.l0 (k + 1) vs ((i + 1 : Nat) : Int) from_ (rd vs 0) (difL vs i) = curve_through.l0 k vs ((i + 2 : Nat) : Int) from_ (rd vs 0) (difL vs (i + 1)) := by
  have e1 : wrap64 (((i + 1 : Nat) : Int) - 1) = (i : Int) := by clear hb; unfold wrap64; omega
  have e2 : wrap64 (((i + 1 : Nat) : Int) + 1) = ((i + 2 : Nat) : Int) := by clear hb e1; unfold wrap64; omega
  have e3 : wrap64 (rd vs ((i + 1 : Nat) : Int) - rd vs (i : Int)) = rd vs ((i + 1 : Nat) : Int) - rd vs (i : Int) := by clear e1 e2; unfold wrap64; omega
  have q1 : ((i + 1 : Nat) : Int) < (vs.length : Int) := by clear e1 e2 e3 hb; omega
  have q2 : (0 : Int) ≤ ((i + 1 : Nat) : Int) := by clear e1 e2 e3 hb; omega
  have q3 : (0 : Int) ≤ (i : Int) := by clear e1 e2 e3 hb; omega
  have q4 : (i : Int) < (vs.length : Int) := by clear e1 e2 e3 hb; omega
  have q5 : (difL vs i).length < 17592186044416 := by rw [difL_len]; clear e1 e2 e3 hb; omega
  simp only [curve_through.l0]
  rw [e1, if_pos q1, if_pos q2, if_pos q3, if_pos q4, if_pos q5, e2, e3, difL_succ]
theorem through_loop (from_ : Int) (vs : List Int) (hl : vs.length ≤ 1000) (hb : ∀ i : Nat, i + 1 < vs.length → -4611686018427387904 ≤ rd vs ((i + 1 : Nat) : Int) - rd vs (i : Int) ∧ rd vs ((i + 1 : Nat) : Int) - rd vs (i : Int) ≤ 4611686018427387904) :
    ∀ n i : Nat, i + 1 + n = vs.length → Ev (fun k => curve_through.l0 k vs ((i + 1 : Nat) : Int) from_ (rd vs 0) (difL vs i)) (from_, rd vs 0, difL vs (vs.length - 1))
  | 0, i, h => by
    have e : i = vs.length - 1 := by omega
    refine Ev.step (f := fun _ => some (from_, rd vs 0, difL vs (vs.length - 1))) (fun k => ?_) (Ev.now _)
    simp only [curve_through.l0]
    rw [if_neg (by omega), ← e]
  | n + 1, i, h => Ev.step (through_step from_ vs (by omega) hl (hb i (by omega))) (through_loop from_ vs hl hb n (i + 1) (by omega))
theorem through_ev (from_ : Int) (vs : List Int) (h0 : 0 < vs.length) (hl : vs.length ≤ 1000) (hb : ∀ i : Nat, i + 1 < vs.length → -4611686018427387904 ≤ rd vs ((i + 1 : Nat) : Int) - rd vs (i : Int) ∧ rd vs ((i + 1 : Nat) : Int) - rd vs (i : Int) ≤ 4611686018427387904) :
    Ev (fun k => curve_through.f k from_ vs) (from_, rd vs 0, difL vs (vs.length - 1)) := by
  unfold curve_through.f
  have h := through_loop from_ vs hl hb (vs.length - 1) 0 (by omega)
  have e : difL vs 0 = [] := rfl
  rw [e] at h
  exact Ev.congr (fun k => if_pos (by omega)) h
def conV (c : S24) (lo : Int) (n : Nat) : List Int := (List.range n).map fun i : Nat => gC c (lo + (i : Int))
theorem conV_len (c : S24) (lo : Int) (n : Nat) : (conV c lo n).length = n := by unfold conV; rw [List.length_map, List.length_range]
theorem conV_rd (c : S24) (lo : Int) (n i : Nat) (h : i < n) : rd (conV c lo n) (i : Int) = gC c (lo + (i : Int)) := by
  rw [rd_nat _ _ (by rw [conV_len]; exact h)]
  unfold conV
  rw [List.getElem_map, List.getElem_range]
theorem conV_succ (c : S24) (lo : Int) (n : Nat) : conV c lo (n + 1) = conV c lo n ++ [gC c (lo + (n : Int))] := by
  unfold conV
  rw [List.range_succ, List.map_append]
  rfl
/-- The conjugate asx a curve: from lo, with n slopes. -/
def conC (c : S24) (lo : Int) (n : Nat) : S24 := ⟨lo, gC c lo, difL (conV c lo (n + 1)) n⟩
theorem made_f (c : S24) : curve_made.f c.f0 c.f1 c.f2 = some (if Vc c then (c.f0, c.f1, c.f2, 0) else (0, 0, [], 4)) := by
  unfold curve_made.f
  rw [valid_f c, Option.bind_some]
  by_cases h : Vc c
  · rw [if_pos (decide_eq_true h), if_pos h]
  · rw [decide_eq_false h, if_neg (by simp), if_neg h]
theorem conj_loop {c : S24} (h : Vc c) {lo hi : Int} (hlo : -1048576 ≤ lo) (hhi : hi ≤ 1048576) (hn : hi ≤ lo + 64) (hle : lo ≤ hi) : ∀ n i : Nat, lo + (i : Int) + (n : Int) = hi + 1 →
    Ev (fun k => curve_Conj.l0 k lo hi (conV c lo i) (lo + (i : Int)) c.f0 c.f1 c.f2) (if Vc (conC c lo (hi - lo).toNat) then ((conC c lo (hi - lo).toNat).f0, (conC c lo (hi - lo).toNat).f1, (conC c lo (hi - lo).toNat).f2, 0) else (0, 0, [], 4))
  | 0, i, hi' => by
    have ei : i = (hi - lo).toNat + 1 := by omega
    have gb : ∀ j : Nat, j < i → -2252899392421889 ≤ rd (conV c lo i) (j : Int) ∧ rd (conV c lo i) (j : Int) ≤ 2252899392421889 := fun j hj => by
      rw [conV_rd c lo i j hj]
      exact gC_bound h (by omega)
    have ht := through_ev lo (conV c lo i) (by rw [conV_len]; omega) (by rw [conV_len]; omega) (fun j hj => by
      rw [conV_len] at hj
      have a1 := gb j (by omega)
      have a2 := gb (j + 1) (by omega)
      omega)
    have e0 : rd (conV c lo i) 0 = gC c lo := by
      have z := conV_rd c lo i 0 (by omega)
      rw [show lo + ((0 : Nat) : Int) = lo by omega] at z
      exact z
    rw [conV_len, e0] at ht
    have em := made_f (conC c lo (hi - lo).toNat)
    have ec : conC c lo (hi - lo).toNat = ⟨lo, gC c lo, difL (conV c lo i) (i - 1)⟩ := by
      unfold conC
      rw [← ei, show i - 1 = (hi - lo).toNat by omega]
    rw [ec] at em ⊢
    refine Ev.step (f := fun k => (curve_through.f k lo (conV c lo i)).bind fun bt512 => (curve_made.f bt512.1 bt512.2.1 bt512.2.2).bind fun bt517 => some (bt517.1, bt517.2.1, bt517.2.2.1, bt517.2.2.2)) (fun k => ?_) (Ev.bind ht ?_)
    · simp only [curve_Conj.l0]
      rw [if_neg (by omega)]
    · simp only at em ⊢
      rw [em, Option.bind_some]
      exact Ev.now _
  | n + 1, i, hi' => by
    have ih := conj_loop h hlo hhi hn hle n (i + 1) (by omega)
    have ew : wrap64 (lo + (i : Int) + 1) = lo + ((i + 1 : Nat) : Int) := by clear ih; unfold wrap64; omega
    rw [conV_succ] at ih
    refine Ev.step (f := fun k => (curve_conj.f k c.f0 c.f1 c.f2 (lo + (i : Int))).bind fun t508 => curve_Conj.l0 k lo hi (conV c lo i ++ [t508]) (lo + ((i + 1 : Nat) : Int)) c.f0 c.f1 c.f2) (fun k => ?_) (Ev.bind (conj_ev h (by clear ih ew; omega)) ih)
    simp only [curve_Conj.l0]
    have q : (conV c lo i).length < 17592186044416 := by rw [conV_len]; clear ih ew; omega
    rw [if_pos (by clear ih ew; omega), ew]
    simp only [if_pos q]
/-- What Conj returns. -/
def conOk (c : S24) (lo hi : Int) : Prop := Vc c ∧ -1048576 ≤ lo ∧ lo ≤ hi ∧ hi ≤ lo + 64 ∧ hi ≤ 1048576
instance (c : S24) (lo hi : Int) : Decidable (conOk c lo hi) := inferInstanceAs (Decidable (_ ∧ _))
def conR (c : S24) (lo hi : Int) : Int × Int × List Int × Int :=
  if conOk c lo hi then (if Vc (conC c lo (hi - lo).toNat) then ((conC c lo (hi - lo).toNat).f0, (conC c lo (hi - lo).toNat).f1, (conC c lo (hi - lo).toNat).f2, 0) else (0, 0, [], 4)) else (0, 0, [], 2)
theorem Conj_ev (c : S24) (lo hi : Int) : Ev (fun k => curve_Conj.f k c.f0 c.f1 c.f2 lo hi) (conR c lo hi) := by
  have bad : ¬conOk c lo hi → Ev (fun k => curve_Conj.j0 k lo hi true c.f0 c.f1 c.f2) (conR c lo hi) := fun hn => by
    unfold conR
    rw [if_neg hn]
    exact Ev.step (f := fun _ => some (0, 0, [], 2)) (fun k => by simp only [curve_Conj.j0]; rw [if_pos trivial]) (Ev.now _)
  unfold curve_Conj.f
  rw [valid_f c]
  by_cases h : Vc c
  · refine Ev.congr (fun k => (Option.bind_some _ _).trans (if_pos (decide_eq_true h))) ?_
    rw [within_f lo 1048576 (by decide) (by decide)]
    by_cases hw : inB lo 1048576 = true
    · have hw2 : -1048576 ≤ lo ∧ lo ≤ 1048576 := by
        unfold inB at hw
        simpa using hw
      refine Ev.congr (fun k => (Option.bind_some _ _).trans (if_pos hw)) ?_
      have ew : wrap64 (lo + 64) = lo + 64 := by unfold wrap64; omega
      rw [ew]
      by_cases h1 : hi < lo
      · exact Ev.congr (fun k => if_pos h1) (bad (fun e => by have := e.2.2.1; omega))
      · refine Ev.congr (fun k => if_neg h1) ?_
        by_cases h2 : hi > lo + 64
        · exact Ev.congr (fun k => if_pos h2) (bad (fun e => by have := e.2.2.2.1; omega))
        · refine Ev.congr (fun k => if_neg h2) ?_
          by_cases h3 : hi > 1048576
          · rw [decide_eq_true h3]
            exact bad (fun e => by have := e.2.2.2.2; omega)
          · rw [decide_eq_false h3]
            have ok : conOk c lo hi := ⟨h, hw2.1, by omega, by omega, by omega⟩
            have hl := conj_loop h (lo := lo) (hi := hi) hw2.1 (by omega) (by omega) (by omega) (hi - lo + 1).toNat 0 (by omega)
            unfold conR
            rw [if_pos ok]
            refine Ev.step (fun k => ?_) hl
            simp only [curve_Conj.j0]
            rw [if_neg (by simp), show lo + ((0 : Nat) : Int) = lo by omega]
            rfl
    · refine Ev.congr (fun k => (Option.bind_some _ _).trans (if_neg hw)) (bad (fun e => hw ?_))
      unfold inB
      have := e.2.1
      have := e.2.2.1
      have := e.2.2.2.2
      simp only [Bool.and_eq_true, decide_eq_true_eq]
      omega
  · exact Ev.congr (fun k => (Option.bind_some _ _).trans (if_neg (by rw [decide_eq_true_eq]; exact h))) (bad (fun e => h e.1))
end Go.Proofs.Ytingjpcgehgiiaa.Pr
end
section
namespace Go.Proofs.Ytingjpcgehgiiaa.Pr
open Go.RowKit Go.Proofs.YtingjpcgehgiiaaW.PrintWords Go.Proofs.YtingjpcgehgiiaaW.PrintLast Go.Proofs.YtingjpcgehgiiaaW.PrintMore
set_option linter.unusedVariables false
set_option linter.unusedSimpArgs false
theorem succ_w64 {i : Nat} (h : i ≤ 9223372036854775806) : wrap64 ((i : Int) + 1) = ((i + 1 : Nat) : Int) := by unfold wrap64; omega
theorem pred_w64 {i : Nat} (h : i ≤ 9223372036854775806) : wrap64 (((i + 1 : Nat) : Int) - 1) = (i : Int) := by unfold wrap64; omega
theorem same_loop (l : List Int) (hn : l.length ≤ 9223372036854775807) : ∀ (d i : Nat), l.length - i = d → Ev (fun k => kimberlitelaw03_same.l0 k l l (i : Int)) true
  | 0, i, h => Ev.step (f := fun _ => some true) (fun k => by simp only [kimberlitelaw03_same.l0]; rw [if_neg (by omega)]) (Ev.now _)
  | d + 1, i, h => by
    have ew : wrap64 ((i : Int) + 1) = ((i + 1 : Nat) : Int) := by unfold wrap64; omega
    refine Ev.step (fun k => ?_) (same_loop l hn d (i + 1) (by omega))
    simp only [kimberlitelaw03_same.l0]
    rw [if_pos (show (i : Int) < (l.length : Int) by omega), if_pos (show 0 ≤ (i : Int) by omega), if_pos (show (i : Int) < (l.length : Int) by omega), if_pos trivial, ew]
theorem same_ev (l : List Int) (hn : l.length ≤ 9223372036854775807) : Ev (fun k => kimberlitelaw03_same.f k l l) true := by
  unfold kimberlitelaw03_same.f
  exact Ev.congr (fun k => if_pos rfl) (same_loop l hn _ 0 rfl)
theorem alike_ev (a0 a1 : Int) (l : List Int) (hn : l.length ≤ 9223372036854775807) : Ev (fun k => kimberlitelaw03_alike.f k a0 a1 l a0 a1 l) true := by
  unfold kimberlitelaw03_alike.f
  exact Ev.congr (fun k => if_pos rfl) (Ev.congr (fun k => if_pos rfl) (Ev.bind (same_ev l hn) (Ev.now _)))
theorem Ev.two {α : Type} {g f : Nat → Option α} {r : α} (h : ∀ k, g (k + 2) = f k) (k : Ev f r) : Ev g r := by
  obtain ⟨K, hK⟩ := k
  refine ⟨K + 2, fun n hn => ?_⟩
  obtain ⟨m, rfl⟩ : ∃ m, n = m + 2 := ⟨n - 2, by omega⟩
  rw [h]
  exact hK m (by omega)
end Go.Proofs.Ytingjpcgehgiiaa.Pr
end
