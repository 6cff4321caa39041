/- What the proof of the law needs, trimmed and merged by wip/pack.py out of the texts YtingjpcgehgiiaaPrx24, YtingjpcgehgiiaaCvl, YtingjpcgehgiiaaRowI, YtingjpcgehgiiaaShelf, YtingjpcgehgiiaaExtJoin, YtingjpcgehgiiaaJnp, YtingjpcgehgiiaaExtSplit, YtingjpcgehgiiaaBes, YtingjpcgehgiiaaChp, YtingjpcgehgiiaaArgs, YtingjpcgehgiiaaLit. No condition. -/
import Derived.Shelf.Sort.Plain
import Derived.Shelf.Small.Wraps
import Derived.Ground.Names2Prog
import Derived.Shelf.Slices.Clone
import Derived.Shelf.Slices.SearchI
import Derived.Shelf.Slices.In.SortNone
import Derived.Shelf.Slices.Empties
import Derived.Shelf.SlSorted.IsSorted
import Derived.Shelf.Spec.SlicesGrow
import Derived.Ground.Names8Prog
import Derived.Ground.SlsoProg
import Derived.Test.YtingjpcgehgiiaaProg
import Derived.Deep.Slices
import Derived.Deep.Fields
import Derived.ChangeSame
import Derived.Lib.SmallJoins
import Derived.OpenShut
import Derived.Test.YtingjpcgehgiiaaKCurveChain0
import Derived.Test.YtingjpcgehgiiaaKCurveChain1
section
namespace Go.Proofs.Ytingjpcgehgiiaa.Pr
open Go.RowKit Go.Proofs.YtingjpcgehgiiaaW.PrintWords Go.Proofs.YtingjpcgehgiiaaW.PrintLast Go.Proofs.YtingjpcgehgiiaaW.PrintMore
attribute [local go_sem] max2_int min2_int max_two min_two max_three min_three max_four min_four   -- for this text's walks alone
set_option linter.unusedVariables false
set_option linter.unusedSimpArgs false
def curve_At.f (a0_0 : Int) (a0_1 : Int) (l0_2 : List Int) (a1 : Int) : Option (Int × Int) := (curve_Valid.f a0_0 a0_1 l0_2).bind fun t498 => (if t498 = true then ((curve_has.f a0_0 a0_1 l0_2 a1).bind fun t499 => (if t499 = true then ((curve_at.f a0_0 a0_1 l0_2 a1).bind fun t500 => (some (t500, 0))) else (some (0, 6)))) else (some (0, 2)))
set_option maxHeartbeats 8000000 in
set_option maxRecDepth 100000 in
theorem curve_At.calls (a0_0 : Int) (a0_1 : Int) (A0_2 : Option Addr) (c0_2 : Nat) (l0_2 : List Int) (a1 : Int) (r1 : Int) (r2 : Int) (w : World) (hr0_2 : Kd.C (Kd.int .i64) w A0_2 l0_2.length l0_2) (hc0_2 : l0_2.length ≤ c0_2) (h : curve_At.f a0_0 a0_1 l0_2 a1 = some (r1, r2)) :
 Calls Try.prog 28 #[.agg #[.int .i64 a0_0, .int .i64 a0_1, .slice A0_2 l0_2.length c0_2], .int .i64 a1] w fun e w' => e = .returned (.tuple #[.int .i64 r1, .int .i64 r2]) ∧ Below w.heap.size w w' := by
 have hu24 := Try.underlying24
 have HR0_2 := Aside0.mk hr0_2
 have HC0_2 := Aside0.mk hc0_2
 clear hr0_2 hc0_2
 have HB := Aside0.mk (Below.refl w.heap.size w)
 have H : ((curve_Valid.f a0_0 a0_1 l0_2).bind fun t498 => (if t498 = true then ((curve_has.f a0_0 a0_1 l0_2 a1).bind fun t499 => (if t499 = true then ((curve_at.f a0_0 a0_1 l0_2 a1).bind fun t500 => (some (t500, 0))) else (some (0, 6)))) else (some (0, 2)))) = some (r1, r2) := h
 clear h
 replace H := Option.bind_eq_some_iff.mp H
 obtain ⟨t498, A30, H⟩ := H
 replace H : (if t498 = true then ((curve_has.f a0_0 a0_1 l0_2 a1).bind fun t499 => (if t499 = true then ((curve_at.f a0_0 a0_1 l0_2 a1).bind fun t500 => (some (t500, 0))) else (some (0, 6)))) else (some (0, 2))) = some (r1, r2) := H
 have A3 := Aside0.mk A30
 clear A30
 by_cases c4 : t498 = true
 · subst c4
   have H1 : ((curve_has.f a0_0 a0_1 l0_2 a1).bind fun t499 => (if t499 = true then ((curve_at.f a0_0 a0_1 l0_2 a1).bind fun t500 => (some (t500, 0))) else (some (0, 6)))) = some (r1, r2) := by rw [if_pos rfl] at H; exact H
   clear H
   have H := H1
   clear H1
   replace H := Option.bind_eq_some_iff.mp H
   obtain ⟨t499, A50, H⟩ := H
   replace H : (if t499 = true then ((curve_at.f a0_0 a0_1 l0_2 a1).bind fun t500 => (some (t500, 0))) else (some (0, 6))) = some (r1, r2) := H
   have A5 := Aside0.mk A50
   clear A50
   by_cases c6 : t499 = true
   · subst c6
     have H1 : ((curve_at.f a0_0 a0_1 l0_2 a1).bind fun t500 => (some (t500, 0))) = some (r1, r2) := by rw [if_pos rfl] at H; exact H
     clear H
     have H := H1
     clear H1
     replace H := Option.bind_eq_some_iff.mp H
     obtain ⟨t500, A70, H⟩ := H
     replace H : (some (t500, 0)) = some (r1, r2) := H
     have A7 := Aside0.mk A70
     clear A70
     simp only [Option.some.injEq, Prod.mk.injEq] at H
     obtain ⟨rfl, rfl⟩ := H
     go_enter Try.func28, Try.ntmps28
     go_wp2_with (first | ((with_reducible refine gate_dst (N := 2) rfl ?_); refine box_event ?hg (N := 2) ?hd (cs := #[.int .i64 a0_0, .int .i64 a0_1, .slice A0_2 l0_2.length c0_2]) (t := 24) ?hr ?_; (case hd => rfl); (case hg => rfl); (case hr => first | (go_simp; done) | (go_simp; rfl)); intro gb497 hg w8 hbox hb; have n0_ := Aside0.mk (below_step (by repeat (first | (with_reducible first | exact HB.out | apply below_alloc | apply pw_below_drewN | apply below_drew1) | exact HB.out)) hb); have n1_ := Aside0.mk (hbox); have n2_ := Aside0.mk ((by rw [hg]; exact (below_size (by repeat (first | (with_reducible first | exact HB.out | apply below_alloc | apply pw_below_drewN | apply below_drew1) | exact HB.out))) : w.heap.size ≤ gb497)); have n3_ := Aside0.mk ((by rw [hg]; exact (below_size (by repeat (first | (with_reducible first | exact HB.out | apply below_alloc | apply pw_below_drewN | apply below_drew1) | exact HB.out))) : w.heap.size ≤ gb497)); clear HB; have HB := n0_; have BK497 := n1_; have GW497 := n2_; have GE497 := n3_; clear n0_ n1_ n2_ n3_; clear hb hbox hg; have hcz9_0 : w8.cell? ⟨gb497, 0, none⟩ = some (.int .i64 a0_0) := (blk_cell BK497.out 0).trans rfl; have hcz9_1 : w8.cell? ⟨gb497, 1, none⟩ = some (.int .i64 a0_1) := (blk_cell BK497.out 1).trans rfl; have hcz9_2 : w8.cell? ⟨gb497, 2, none⟩ = some (.slice A0_2 l0_2.length c0_2) := (blk_cell BK497.out 2).trans rfl; have hfz9_0 := blk_frozen BK497.out 0; have hfz9_1 := blk_frozen BK497.out 1; have hfz9_2 := blk_frozen BK497.out 2) | ((with_reducible refine gate_callee (f := 16) rfl ?_); refine goesL_ (some 8) rfl rfl Try.func16 (by kernel_rfl) rfl #[.agg #[.int .i64 a0_0, .int .i64 a0_1, .slice A0_2 l0_2.length c0_2]] rfl (by (try simp only [List.map_toArray, List.map_cons, List.map_nil]); first | done | rfl | (simp only [List.length_drop, List.length_take]; rfl)) ?_; (with_reducible refine (curve_Valid.calls a0_0 a0_1 _ _ l0_2 true _ ?side1 ?side2 A3.out).mono ?_); (case side1 => repeat (first | exact (Kd.C_below HR0_2.out HB.out) | (with_reducible refine Kd.C_alloc ?_ _) | (with_reducible refine Kd.C_drewN ?_ _) | (with_reducible refine Kd.C_drew ?_))); (case side2 => exact HC0_2.out); rintro e w10 ⟨rfl, hb⟩; refine ⟨_, rfl, ?_⟩; have n0_ := Aside0.mk (blk_below (g := gb497) (o := .cells #[.int .i64 a0_0, .int .i64 a0_1, .slice A0_2 l0_2.length c0_2] 24 (0, 0)) (by (with_reducible repeat (first | refine blk_drewN ?_ _ | refine blk_drew ?_ | refine blk_alloc ?_ _)); exact BK497.out) hb); have n1_ := Aside0.mk (below_step (by repeat (first | (with_reducible first | exact HB.out | apply below_alloc | apply pw_below_drewN | apply below_drew1 | refine below_set ?_ GE497.out) | exact HB.out)) hb); clear BK497; clear HB; have BK497 := n0_; have HB := n1_; clear n0_ n1_; (try clear hb); (try clear hb2); (try clear hk); (try clear hi); have hcz11_0 : w10.cell? ⟨gb497, 0, none⟩ = some (.int .i64 a0_0) := (blk_cell BK497.out 0).trans rfl; have hcz11_1 : w10.cell? ⟨gb497, 1, none⟩ = some (.int .i64 a0_1) := (blk_cell BK497.out 1).trans rfl; have hcz11_2 : w10.cell? ⟨gb497, 2, none⟩ = some (.slice A0_2 l0_2.length c0_2) := (blk_cell BK497.out 2).trans rfl; have hfz11_0 := blk_frozen BK497.out 0; have hfz11_1 := blk_frozen BK497.out 1; have hfz11_2 := blk_frozen BK497.out 2) | ((with_reducible refine gate_callee (f := 69) rfl ?_); refine goesL_ (some 13) rfl rfl Try.func69 (by kernel_rfl) rfl #[.agg #[.int .i64 a0_0, .int .i64 a0_1, .slice A0_2 l0_2.length c0_2], .int .i64 a1] rfl (by (try simp only [List.map_toArray, List.map_cons, List.map_nil]); first | done | rfl | (simp only [List.length_drop, List.length_take]; rfl)) ?_; (with_reducible refine (curve_has.calls a0_0 a0_1 _ _ l0_2 a1 true _ ?side1 ?side2 A5.out).mono ?_); (case side1 => repeat (first | exact (Kd.C_below HR0_2.out HB.out) | (with_reducible refine Kd.C_alloc ?_ _) | (with_reducible refine Kd.C_drewN ?_ _) | (with_reducible refine Kd.C_drew ?_))); (case side2 => exact HC0_2.out); rintro e w12 ⟨rfl, hb⟩; refine ⟨_, rfl, ?_⟩; have n0_ := Aside0.mk (blk_below (g := gb497) (o := .cells #[.int .i64 a0_0, .int .i64 a0_1, .slice A0_2 l0_2.length c0_2] 24 (0, 0)) (by (with_reducible repeat (first | refine blk_drewN ?_ _ | refine blk_drew ?_ | refine blk_alloc ?_ _)); exact BK497.out) hb); have n1_ := Aside0.mk (below_step (by repeat (first | (with_reducible first | exact HB.out | apply below_alloc | apply pw_below_drewN | apply below_drew1 | refine below_set ?_ GE497.out) | exact HB.out)) hb); clear BK497; clear HB; have BK497 := n0_; have HB := n1_; clear n0_ n1_; (try clear hb); (try clear hb2); (try clear hk); (try clear hi); have hcz13_0 : w12.cell? ⟨gb497, 0, none⟩ = some (.int .i64 a0_0) := (blk_cell BK497.out 0).trans rfl; have hcz13_1 : w12.cell? ⟨gb497, 1, none⟩ = some (.int .i64 a0_1) := (blk_cell BK497.out 1).trans rfl; have hcz13_2 : w12.cell? ⟨gb497, 2, none⟩ = some (.slice A0_2 l0_2.length c0_2) := (blk_cell BK497.out 2).trans rfl; have hfz13_0 := blk_frozen BK497.out 0; have hfz13_1 := blk_frozen BK497.out 1; have hfz13_2 := blk_frozen BK497.out 2) | ((with_reducible refine gate_callee (f := 61) rfl ?_); refine goesL_ (some 17) rfl rfl Try.func61 (by kernel_rfl) rfl #[.agg #[.int .i64 a0_0, .int .i64 a0_1, .slice A0_2 l0_2.length c0_2], .int .i64 a1] rfl (by (try simp only [List.map_toArray, List.map_cons, List.map_nil]); first | done | rfl | (simp only [List.length_drop, List.length_take]; rfl)) ?_; (with_reducible refine (curve_at.calls a0_0 a0_1 _ _ l0_2 a1 t500 _ ?side1 ?side2 A7.out).mono ?_); (case side1 => repeat (first | exact (Kd.C_below HR0_2.out HB.out) | (with_reducible refine Kd.C_alloc ?_ _) | (with_reducible refine Kd.C_drewN ?_ _) | (with_reducible refine Kd.C_drew ?_))); (case side2 => exact HC0_2.out); rintro e w14 ⟨rfl, hb⟩; refine ⟨_, rfl, ?_⟩; have n0_ := Aside0.mk (blk_below (g := gb497) (o := .cells #[.int .i64 a0_0, .int .i64 a0_1, .slice A0_2 l0_2.length c0_2] 24 (0, 0)) (by (with_reducible repeat (first | refine blk_drewN ?_ _ | refine blk_drew ?_ | refine blk_alloc ?_ _)); exact BK497.out) hb); have n1_ := Aside0.mk (below_step (by repeat (first | (with_reducible first | exact HB.out | apply below_alloc | apply pw_below_drewN | apply below_drew1 | refine below_set ?_ GE497.out) | exact HB.out)) hb); clear BK497; clear HB; have BK497 := n0_; have HB := n1_; clear n0_ n1_; (try clear hb); (try clear hb2); (try clear hk); (try clear hi)))
     go_ret2
     exact ⟨by first | rfl | (simp [errW_none, errW_some] <;> rfl) | (simp [*, errW_none, errW_some] <;> rfl), by repeat (first | (with_reducible first | exact HB.out | apply below_alloc | apply pw_below_drewN | apply below_drew1 | refine below_set ?_ GE497.out) | exact HB.out)⟩
   · replace c6 := Bool.eq_false_iff.mpr c6
     subst c6
     have H1 : (some (0, 6)) = some (r1, r2) := by rw [if_neg (show ¬ (false = true) by decide)] at H; exact H
     clear H
     have H := H1
     clear H1
     simp only [Option.some.injEq, Prod.mk.injEq] at H
     obtain ⟨rfl, rfl⟩ := H
     go_enter Try.func28, Try.ntmps28
     go_wp2_with (first | ((with_reducible refine gate_dst (N := 2) rfl ?_); refine box_event ?hg (N := 2) ?hd (cs := #[.int .i64 a0_0, .int .i64 a0_1, .slice A0_2 l0_2.length c0_2]) (t := 24) ?hr ?_; (case hd => rfl); (case hg => rfl); (case hr => first | (go_simp; done) | (go_simp; rfl)); intro gb497 hg w15 hbox hb; have n0_ := Aside0.mk (below_step (by repeat (first | (with_reducible first | exact HB.out | apply below_alloc | apply pw_below_drewN | apply below_drew1) | exact HB.out)) hb); have n1_ := Aside0.mk (hbox); have n2_ := Aside0.mk ((by rw [hg]; exact (below_size (by repeat (first | (with_reducible first | exact HB.out | apply below_alloc | apply pw_below_drewN | apply below_drew1) | exact HB.out))) : w.heap.size ≤ gb497)); have n3_ := Aside0.mk ((by rw [hg]; exact (below_size (by repeat (first | (with_reducible first | exact HB.out | apply below_alloc | apply pw_below_drewN | apply below_drew1) | exact HB.out))) : w.heap.size ≤ gb497)); clear HB; have HB := n0_; have BK497 := n1_; have GW497 := n2_; have GE497 := n3_; clear n0_ n1_ n2_ n3_; clear hb hbox hg; have hcz16_0 : w15.cell? ⟨gb497, 0, none⟩ = some (.int .i64 a0_0) := (blk_cell BK497.out 0).trans rfl; have hcz16_1 : w15.cell? ⟨gb497, 1, none⟩ = some (.int .i64 a0_1) := (blk_cell BK497.out 1).trans rfl; have hcz16_2 : w15.cell? ⟨gb497, 2, none⟩ = some (.slice A0_2 l0_2.length c0_2) := (blk_cell BK497.out 2).trans rfl; have hfz16_0 := blk_frozen BK497.out 0; have hfz16_1 := blk_frozen BK497.out 1; have hfz16_2 := blk_frozen BK497.out 2) | ((with_reducible refine gate_callee (f := 16) rfl ?_); refine goesL_ (some 8) rfl rfl Try.func16 (by kernel_rfl) rfl #[.agg #[.int .i64 a0_0, .int .i64 a0_1, .slice A0_2 l0_2.length c0_2]] rfl (by (try simp only [List.map_toArray, List.map_cons, List.map_nil]); first | done | rfl | (simp only [List.length_drop, List.length_take]; rfl)) ?_; (with_reducible refine (curve_Valid.calls a0_0 a0_1 _ _ l0_2 true _ ?side1 ?side2 A3.out).mono ?_); (case side1 => repeat (first | exact (Kd.C_below HR0_2.out HB.out) | (with_reducible refine Kd.C_alloc ?_ _) | (with_reducible refine Kd.C_drewN ?_ _) | (with_reducible refine Kd.C_drew ?_))); (case side2 => exact HC0_2.out); rintro e w17 ⟨rfl, hb⟩; refine ⟨_, rfl, ?_⟩; have n0_ := Aside0.mk (blk_below (g := gb497) (o := .cells #[.int .i64 a0_0, .int .i64 a0_1, .slice A0_2 l0_2.length c0_2] 24 (0, 0)) (by (with_reducible repeat (first | refine blk_drewN ?_ _ | refine blk_drew ?_ | refine blk_alloc ?_ _)); exact BK497.out) hb); have n1_ := Aside0.mk (below_step (by repeat (first | (with_reducible first | exact HB.out | apply below_alloc | apply pw_below_drewN | apply below_drew1 | refine below_set ?_ GE497.out) | exact HB.out)) hb); clear BK497; clear HB; have BK497 := n0_; have HB := n1_; clear n0_ n1_; (try clear hb); (try clear hb2); (try clear hk); (try clear hi); have hcz18_0 : w17.cell? ⟨gb497, 0, none⟩ = some (.int .i64 a0_0) := (blk_cell BK497.out 0).trans rfl; have hcz18_1 : w17.cell? ⟨gb497, 1, none⟩ = some (.int .i64 a0_1) := (blk_cell BK497.out 1).trans rfl; have hcz18_2 : w17.cell? ⟨gb497, 2, none⟩ = some (.slice A0_2 l0_2.length c0_2) := (blk_cell BK497.out 2).trans rfl; have hfz18_0 := blk_frozen BK497.out 0; have hfz18_1 := blk_frozen BK497.out 1; have hfz18_2 := blk_frozen BK497.out 2) | ((with_reducible refine gate_callee (f := 69) rfl ?_); refine goesL_ (some 13) rfl rfl Try.func69 (by kernel_rfl) rfl #[.agg #[.int .i64 a0_0, .int .i64 a0_1, .slice A0_2 l0_2.length c0_2], .int .i64 a1] rfl (by (try simp only [List.map_toArray, List.map_cons, List.map_nil]); first | done | rfl | (simp only [List.length_drop, List.length_take]; rfl)) ?_; (with_reducible refine (curve_has.calls a0_0 a0_1 _ _ l0_2 a1 false _ ?side1 ?side2 A5.out).mono ?_); (case side1 => repeat (first | exact (Kd.C_below HR0_2.out HB.out) | (with_reducible refine Kd.C_alloc ?_ _) | (with_reducible refine Kd.C_drewN ?_ _) | (with_reducible refine Kd.C_drew ?_))); (case side2 => exact HC0_2.out); rintro e w19 ⟨rfl, hb⟩; refine ⟨_, rfl, ?_⟩; have n0_ := Aside0.mk (blk_below (g := gb497) (o := .cells #[.int .i64 a0_0, .int .i64 a0_1, .slice A0_2 l0_2.length c0_2] 24 (0, 0)) (by (with_reducible repeat (first | refine blk_drewN ?_ _ | refine blk_drew ?_ | refine blk_alloc ?_ _)); exact BK497.out) hb); have n1_ := Aside0.mk (below_step (by repeat (first | (with_reducible first | exact HB.out | apply below_alloc | apply pw_below_drewN | apply below_drew1 | refine below_set ?_ GE497.out) | exact HB.out)) hb); clear BK497; clear HB; have BK497 := n0_; have HB := n1_; clear n0_ n1_; (try clear hb); (try clear hb2); (try clear hk); (try clear hi)))
     go_ret2
     exact ⟨by first | rfl | (simp [errW_none, errW_some] <;> rfl) | (simp [*, errW_none, errW_some] <;> rfl), by repeat (first | (with_reducible first | exact HB.out | apply below_alloc | apply pw_below_drewN | apply below_drew1 | refine below_set ?_ GE497.out) | exact HB.out)⟩
 · replace c4 := Bool.eq_false_iff.mpr c4
   subst c4
   have H1 : (some (0, 2)) = some (r1, r2) := by rw [if_neg (show ¬ (false = true) by decide)] at H; exact H
   clear H
   have H := H1
   clear H1
   simp only [Option.some.injEq, Prod.mk.injEq] at H
   obtain ⟨rfl, rfl⟩ := H
   go_enter Try.func28, Try.ntmps28
   go_wp2_with (first | ((with_reducible refine gate_dst (N := 2) rfl ?_); refine box_event ?hg (N := 2) ?hd (cs := #[.int .i64 a0_0, .int .i64 a0_1, .slice A0_2 l0_2.length c0_2]) (t := 24) ?hr ?_; (case hd => rfl); (case hg => rfl); (case hr => first | (go_simp; done) | (go_simp; rfl)); intro gb497 hg w20 hbox hb; have n0_ := Aside0.mk (below_step (by repeat (first | (with_reducible first | exact HB.out | apply below_alloc | apply pw_below_drewN | apply below_drew1) | exact HB.out)) hb); have n1_ := Aside0.mk (hbox); have n2_ := Aside0.mk ((by rw [hg]; exact (below_size (by repeat (first | (with_reducible first | exact HB.out | apply below_alloc | apply pw_below_drewN | apply below_drew1) | exact HB.out))) : w.heap.size ≤ gb497)); have n3_ := Aside0.mk ((by rw [hg]; exact (below_size (by repeat (first | (with_reducible first | exact HB.out | apply below_alloc | apply pw_below_drewN | apply below_drew1) | exact HB.out))) : w.heap.size ≤ gb497)); clear HB; have HB := n0_; have BK497 := n1_; have GW497 := n2_; have GE497 := n3_; clear n0_ n1_ n2_ n3_; clear hb hbox hg; have hcz21_0 : w20.cell? ⟨gb497, 0, none⟩ = some (.int .i64 a0_0) := (blk_cell BK497.out 0).trans rfl; have hcz21_1 : w20.cell? ⟨gb497, 1, none⟩ = some (.int .i64 a0_1) := (blk_cell BK497.out 1).trans rfl; have hcz21_2 : w20.cell? ⟨gb497, 2, none⟩ = some (.slice A0_2 l0_2.length c0_2) := (blk_cell BK497.out 2).trans rfl; have hfz21_0 := blk_frozen BK497.out 0; have hfz21_1 := blk_frozen BK497.out 1; have hfz21_2 := blk_frozen BK497.out 2) | ((with_reducible refine gate_callee (f := 16) rfl ?_); refine goesL_ (some 8) rfl rfl Try.func16 (by kernel_rfl) rfl #[.agg #[.int .i64 a0_0, .int .i64 a0_1, .slice A0_2 l0_2.length c0_2]] rfl (by (try simp only [List.map_toArray, List.map_cons, List.map_nil]); first | done | rfl | (simp only [List.length_drop, List.length_take]; rfl)) ?_; (with_reducible refine (curve_Valid.calls a0_0 a0_1 _ _ l0_2 false _ ?side1 ?side2 A3.out).mono ?_); (case side1 => repeat (first | exact (Kd.C_below HR0_2.out HB.out) | (with_reducible refine Kd.C_alloc ?_ _) | (with_reducible refine Kd.C_drewN ?_ _) | (with_reducible refine Kd.C_drew ?_))); (case side2 => exact HC0_2.out); rintro e w22 ⟨rfl, hb⟩; refine ⟨_, rfl, ?_⟩; have n0_ := Aside0.mk (blk_below (g := gb497) (o := .cells #[.int .i64 a0_0, .int .i64 a0_1, .slice A0_2 l0_2.length c0_2] 24 (0, 0)) (by (with_reducible repeat (first | refine blk_drewN ?_ _ | refine blk_drew ?_ | refine blk_alloc ?_ _)); exact BK497.out) hb); have n1_ := Aside0.mk (below_step (by repeat (first | (with_reducible first | exact HB.out | apply below_alloc | apply pw_below_drewN | apply below_drew1 | refine below_set ?_ GE497.out) | exact HB.out)) hb); clear BK497; clear HB; have BK497 := n0_; have HB := n1_; clear n0_ n1_; (try clear hb); (try clear hb2); (try clear hk); (try clear hi)))
   go_ret2
   exact ⟨by first | rfl | (simp [errW_none, errW_some] <;> rfl) | (simp [*, errW_none, errW_some] <;> rfl), by repeat (first | (with_reducible first | exact HB.out | apply below_alloc | apply pw_below_drewN | apply below_drew1 | refine below_set ?_ GE497.out) | exact HB.out)⟩
def kimberlitelaw03_at.f (a0_0 : Int) (a0_1 : Int) (l0_2 : List Int) (a1 : Int) : Option (Int × Bool) := (curve_At.f a0_0 a0_1 l0_2 a1).bind fun bt502 => (some (bt502.1, (bt502.2 == 0)))
set_option maxHeartbeats 8000000 in
set_option maxRecDepth 100000 in
theorem kimberlitelaw03_at.calls (a0_0 : Int) (a0_1 : Int) (A0_2 : Option Addr) (c0_2 : Nat) (l0_2 : List Int) (a1 : Int) (r1 : Int) (r2 : Bool) (w : World) (hr0_2 : Kd.C (Kd.int .i64) w A0_2 l0_2.length l0_2) (hc0_2 : l0_2.length ≤ c0_2) (h : kimberlitelaw03_at.f a0_0 a0_1 l0_2 a1 = some (r1, r2)) :
 Calls Try.prog 18 #[.agg #[.int .i64 a0_0, .int .i64 a0_1, .slice A0_2 l0_2.length c0_2], .int .i64 a1] w fun e w' => e = .returned (.tuple #[.int .i64 r1, .bool r2]) ∧ Below w.heap.size w w' := by
 have hu24 := Try.underlying24
 have HR0_2 := Aside0.mk hr0_2
 have HC0_2 := Aside0.mk hc0_2
 clear hr0_2 hc0_2
 have HB := Aside0.mk (Below.refl w.heap.size w)
 have H : ((curve_At.f a0_0 a0_1 l0_2 a1).bind fun bt502 => (some (bt502.1, (bt502.2 == 0)))) = some (r1, r2) := h
 clear h
 replace H := Option.bind_eq_some_iff.mp H
 obtain ⟨⟨t502, t503⟩, A30, H⟩ := H
 replace H : (some (t502, (t503 == 0))) = some (r1, r2) := H
 have A3 := Aside0.mk A30
 clear A30
 simp only [Option.some.injEq, Prod.mk.injEq] at H
 obtain ⟨rfl, rfl⟩ := H
 go_enter Try.func18, Try.ntmps18
 go_wp2_with (first | ((with_reducible refine gate_dst (N := 2) rfl ?_); refine box_event ?hg (N := 2) ?hd (cs := #[.int .i64 a0_0, .int .i64 a0_1, .slice A0_2 l0_2.length c0_2]) (t := 24) ?hr ?_; (case hd => rfl); (case hg => rfl); (case hr => first | (go_simp; done) | (go_simp; rfl)); intro gb501 hg w4 hbox hb; have n0_ := Aside0.mk (below_step (by repeat (first | (with_reducible first | exact HB.out | apply below_alloc | apply pw_below_drewN | apply below_drew1) | exact HB.out)) hb); have n1_ := Aside0.mk (hbox); have n2_ := Aside0.mk ((by rw [hg]; exact (below_size (by repeat (first | (with_reducible first | exact HB.out | apply below_alloc | apply pw_below_drewN | apply below_drew1) | exact HB.out))) : w.heap.size ≤ gb501)); have n3_ := Aside0.mk ((by rw [hg]; exact (below_size (by repeat (first | (with_reducible first | exact HB.out | apply below_alloc | apply pw_below_drewN | apply below_drew1) | exact HB.out))) : w.heap.size ≤ gb501)); clear HB; have HB := n0_; have BK501 := n1_; have GW501 := n2_; have GE501 := n3_; clear n0_ n1_ n2_ n3_; clear hb hbox hg; have hcz5_0 : w4.cell? ⟨gb501, 0, none⟩ = some (.int .i64 a0_0) := (blk_cell BK501.out 0).trans rfl; have hcz5_1 : w4.cell? ⟨gb501, 1, none⟩ = some (.int .i64 a0_1) := (blk_cell BK501.out 1).trans rfl; have hcz5_2 : w4.cell? ⟨gb501, 2, none⟩ = some (.slice A0_2 l0_2.length c0_2) := (blk_cell BK501.out 2).trans rfl; have hfz5_0 := blk_frozen BK501.out 0; have hfz5_1 := blk_frozen BK501.out 1; have hfz5_2 := blk_frozen BK501.out 2) | ((with_reducible refine gate_callee (f := 28) rfl ?_); refine goesL_ (some 11) rfl rfl Try.func28 (by kernel_rfl) rfl #[.agg #[.int .i64 a0_0, .int .i64 a0_1, .slice A0_2 l0_2.length c0_2], .int .i64 a1] rfl (by (try simp only [List.map_toArray, List.map_cons, List.map_nil]); first | done | rfl | (simp only [List.length_drop, List.length_take]; rfl)) ?_; (with_reducible refine (curve_At.calls a0_0 a0_1 _ _ l0_2 a1 t502 t503 _ ?side1 ?side2 A3.out).mono ?_); (case side1 => repeat (first | exact (Kd.C_below HR0_2.out HB.out) | (with_reducible refine Kd.C_alloc ?_ _) | (with_reducible refine Kd.C_drewN ?_ _) | (with_reducible refine Kd.C_drew ?_))); (case side2 => exact HC0_2.out); rintro e w6 ⟨rfl, hb⟩; refine ⟨_, rfl, ?_⟩; have n0_ := Aside0.mk (blk_below (g := gb501) (o := .cells #[.int .i64 a0_0, .int .i64 a0_1, .slice A0_2 l0_2.length c0_2] 24 (0, 0)) (by (with_reducible repeat (first | refine blk_drewN ?_ _ | refine blk_drew ?_ | refine blk_alloc ?_ _)); exact BK501.out) hb); have n1_ := Aside0.mk (below_step (by repeat (first | (with_reducible first | exact HB.out | apply below_alloc | apply pw_below_drewN | apply below_drew1 | refine below_set ?_ GE501.out) | exact HB.out)) hb); clear BK501; clear HB; have BK501 := n0_; have HB := n1_; clear n0_ n1_; (try clear hb); (try clear hb2); (try clear hk); (try clear hi)))
 go_ret2
 exact ⟨by first | rfl | (simp [errW_none, errW_some] <;> rfl) | (simp [*, errW_none, errW_some] <;> rfl), by repeat (first | (with_reducible first | exact HB.out | apply below_alloc | apply pw_below_drewN | apply below_drew1 | refine below_set ?_ GE501.out) | exact HB.out)⟩
end Go.Proofs.Ytingjpcgehgiiaa.Pr
end
section
namespace Go.Proofs.Ytingjpcgehgiiaa.Pr
open Go.RowKit Go.Proofs.YtingjpcgehgiiaaW.PrintWords Go.Proofs.YtingjpcgehgiiaaW.PrintLast Go.Proofs.YtingjpcgehgiiaaW.PrintMore
set_option linter.unusedVariables false
set_option linter.unusedSimpArgs false
theorem valid_f (c : S24) : curve_Valid.f c.f0 c.f1 c.f2 = some (decide (Vc c)) := by
  unfold curve_Valid.f
  by_cases h : Vc c
  · rw [decide_eq_true h]
    exact congrArg some h
  · rw [decide_eq_false h]
    exact congrArg some (Bool.eq_false_iff.2 h)
theorem to_f {c : S24} (h : Vc c) : curve_to.f c.f0 c.f1 c.f2 = some (c.f0 + (c.f2.length : Int)) := by
  obtain ⟨h1, h2, h3, h4, h5, _, h7⟩ := vc_parts h
  unfold curve_to.f
  have e : wrap64 (c.f0 + (c.f2.length : Int)) = c.f0 + (c.f2.length : Int) := by unfold wrap64; omega
  rw [e]
theorem has_f {c : S24} (h : Vc c) (x : Int) : curve_has.f c.f0 c.f1 c.f2 x = some (decide (inC c x)) := by
  unfold curve_has.f
  by_cases h1 : x ≥ c.f0
  · rw [if_pos h1, to_f h, Option.bind_some]
    congr 1
    apply decide_eq_decide.2
    constructor
    · exact fun h => ⟨h1, h⟩
    · exact fun h => h.2
  · rw [if_neg h1, decide_eq_false (fun h : inC c x => h1 h.1)]
def atR (c : S24) (x : Int) : Int × Bool := if Vc c ∧ inC c x then (valC c x, true) else (0, false)
theorem at_law (c : S24) (x : Int) : kimberlitelaw03_at.f c.f0 c.f1 c.f2 x = some (atR c x) := by
  unfold kimberlitelaw03_at.f curve_At.f atR
  rw [valid_f c, Option.bind_some]
  by_cases h : Vc c
  · rw [if_pos (decide_eq_true h), has_f h, Option.bind_some]
    by_cases hx : inC c x
    · rw [if_pos (decide_eq_true hx), at_val h hx, if_pos ⟨h, hx⟩]
      rfl
    · rw [if_neg (by rw [decide_eq_true_eq]; exact hx), if_neg (fun e => hx e.2)]
      rfl
  · rw [if_neg (by rw [decide_eq_true_eq]; exact h), if_neg (fun e => h e.1)]
    rfl
theorem atR_in {c : S24} {x : Int} (h : Vc c) (hx : inC c x) : atR c x = (valC c x, true) := if_pos ⟨h, hx⟩
end Go.Proofs.Ytingjpcgehgiiaa.Pr
end
section
namespace Go.Proofs.Ytingjpcgehgiiaa.Pr
open Go.RowKit Go.Sort Go.Shelf Go.Proofs.YtingjpcgehgiiaaW.PrintWords Go.Proofs.YtingjpcgehgiiaaW.PrintLast Go.Proofs.YtingjpcgehgiiaaW.PrintMore
set_option linter.unusedVariables false
set_option linter.unusedSimpArgs false
theorem heap_put {w : World} {g m : Nat} {e : TypeId} {cur : Array Value} {F : Array Value} (os : Array Obj) (hb : w.heap[g]? = some (.cells cur e (0, 0))) :
    (grow (putRow id (Sort.ahead w m) g 0 F) os).heap[g]? = some (.cells (putCells id 0 F cur) e (0, 0)) := by
  have hg : g < w.heap.size := (Array.getElem?_eq_some_iff.1 hb).1
  have h1 : (putRow id (Sort.ahead w m) g 0 F).heap[g]? = some (.cells (putCells id 0 F cur) e (0, 0)) := by
    simp only [putRow, mapBlock, Sort.ahead, Array.getElem?_modify, if_true, hb, Option.map_some, onCells]
  unfold grow
  simp only
  rw [Array.getElem?_append_left (by simpa [putRow, mapBlock, Sort.ahead] using hg)]
  exact h1
theorem grownBy_put {w : World} {g m : Nat} {os : Array Obj} (F : Array Value) : w.grownBy (grow (putRow id (Sort.ahead w m) g 0 F) os) (some g) := by
  refine ⟨rfl, rfl, rfl, by simp [grow, putRow, mapBlock, Sort.ahead], fun k hk hne => ?_⟩
  have : g ≠ k := fun e => hne (by rw [e])
  unfold grow
  simp only
  rw [Array.getElem?_append_left (by simpa [putRow, mapBlock, Sort.ahead] using hk)]
  simp [putRow, mapBlock, Sort.ahead, Array.getElem?_modify, this]
theorem take_put (cur : Array Value) (ts : List Value) (h : ts.length ≤ cur.size) : (putCells id 0 ts.toArray cur).toList.take ts.length = ts := by
  apply List.ext_getElem
  · simp [putCells]
    omega
  · intro i h1 h2
    simp only [putCells, List.getElem_take, Array.getElem_toList, Array.getElem_mapIdx]
    rw [if_pos ⟨by omega, by simpa using h2⟩]
    simp only [id, Nat.sub_zero]
    rw [getElem!_pos _ i (by simpa using h2)]
    simp
theorem own_put {w : World} {base g cap n k m : Nat} {e : TypeId} {os : Array Obj} {cur : Array Value} {ts : List Value} (hbase : base ≤ g) (hb : w.heap[g]? = some (.cells cur e (0, 0)))
    (h1 : n ≤ cap) (h2 : cap ≤ maxLen) (h3 : cur.size = cap * k) (hl : ts.length = n * k) :
    (grow (putRow id (Sort.ahead w m) g 0 ts.toArray) os).ownsRow base e k (.slice (some ⟨g, 0, none⟩) n cap) n ts := by
  refine ⟨hl, .inr ⟨g, cap, _, rfl, hbase, heap_put os hb, h1, h2, by simp [putCells, h3], ?_⟩⟩
  rw [← hl]
  exact take_put cur ts (by rw [hl, h3]; exact Nat.mul_le_mul_right _ h1)
def RowI (w : World) (base : Nat) (v : Value) (l : List Int) : Prop := w.ownsRow base 3 1 v l.length (l.map (Value.int .i64))
theorem row_some {w : World} {base : Nat} {v : Value} {l : List Int} (h : RowI w base v l) (hne : l ≠ []) : ∃ g c cur, v = .slice (some ⟨g, 0, none⟩) l.length c ∧ base ≤ g ∧ w.heap[g]? = some (.cells cur 3 (0, 0)) ∧ l.length ≤ c ∧ c ≤ maxLen ∧ cur.size = c ∧ cur.toList.take l.length = l.map (Value.int .i64) := by
  rcases h.2 with ⟨rfl, h0⟩ | ⟨g, cap, cur, rfl, h1, h2, h3, h4, h5, h6⟩
  · exact absurd (List.eq_nil_of_length_eq_zero h0) hne
  · exact ⟨g, cap, cur, rfl, h1, h2, h3, h4, by omega, by simpa using h6⟩
theorem cur_at {cur : Array Value} {l : List Int} (h : cur.toList.take l.length = l.map (Value.int .i64)) (j : Nat) (hj : j < l.length) : cur[j]? = some (.int .i64 l[j]) := by
  have := congrArg (fun z => z[j]?) h
  simp only [List.getElem?_take, if_pos hj, List.getElem?_map, List.getElem?_eq_getElem hj, Option.map_some] at this
  simpa using this
theorem row_holds {w : World} {g : Nat} {cur : Array Value} {l : List Int} (hb : w.heap[g]? = some (.cells cur 3 (0, 0))) (h : cur.toList.take l.length = l.map (Value.int .i64)) : Holds (Value.int .i64) w g 0 l.toArray := by
  intro j hj
  have hj' : j < l.length := by simpa using hj
  refine ⟨?_, blk_frozen hb _⟩
  rw [blk_cell hb, Nat.zero_add, cur_at h j hj', getElem!_pos l.toArray j hj]
  simp
theorem putRow_id (w : World) (g : Nat) (d : List Int) : putRow (Value.int .i64) w g 0 d.toArray = putRow id w g 0 (d.map (Value.int .i64)).toArray := by
  unfold putRow
  congr 1
  funext c
  unfold putCells
  congr 1
  funext k x
  simp only [Nat.zero_le, true_and, Nat.zero_add, Nat.sub_zero, List.size_toArray, List.length_map, id]
  by_cases hk : k < d.length
  · rw [if_pos hk, if_pos hk, getElem!_pos d.toArray k (by simpa using hk), getElem!_pos (d.map (Value.int .i64)).toArray k (by simpa using hk)]
    simp
  · rw [if_neg hk, if_neg hk]
/-- Laid anew it is owned again; its first m numbers are owned by the slice cut to m. -/
theorem row_put {w : World} {base g c : Nat} {cur : Array Value} {d : List Int} {n : Nat} (m : Nat) (os : Array Obj) (h1 : base ≤ g) (h2 : w.heap[g]? = some (.cells cur 3 (0, 0))) (h3 : n ≤ c) (h4 : c ≤ maxLen) (h5 : cur.size = c) (hd : d.length = n) (q : Nat) (hq : q ≤ n) :
    RowI (grow (putRow (Value.int .i64) (Sort.ahead w m) g 0 d.toArray) os) base (.slice (some ⟨g, 0, none⟩) q c) (d.take q) ∧ w.grownBy (grow (putRow (Value.int .i64) (Sort.ahead w m) g 0 d.toArray) os) (some g) := by
  rw [putRow_id]
  refine ⟨?_, grownBy_put _⟩
  have := own_put (w := w) (base := base) (g := g) (cap := c) (n := n) (k := 1) (m := m) (e := 3) (os := os) (cur := cur) (ts := d.map (Value.int .i64)) h1 h2 h3 h4 (by omega) (by simp [hd])
  rcases this with ⟨_, ⟨e, _⟩ | ⟨g', cap', cur', e, a1, a2, a3, a4, a5, a6⟩⟩
  · cases e
  · injection e with e1 _ e3
    injection e1 with e1
    injection e1 with e1
    subst e1 e3
    have hlen : (d.take q).length = q := by rw [List.length_take]; omega
    refine ⟨by simp, .inr ⟨g, c, cur', by rw [hlen], a1, a2, by omega, a4, a5, ?_⟩⟩
    rw [hlen, Nat.mul_one, List.map_take, ← a6, List.take_take]
    congr 1
    omega
end Go.Proofs.Ytingjpcgehgiiaa.Pr
end
section
namespace Go.Proofs
open Go.Shelf
def Try.lays189_ren : Go.Shelf.Ren := ⟨fun | 189 => 50 | 125 => 81 | 257 => 80 | 128 => 96 | 129 => 97 | 294 => 88 | 295 => 89 | 296 => 90 | 297 => 91 | 298 => 92 | 299 => 93 | 216 => 82 | 300 => 94 | 301 => 95 | 328 => 100 | 329 => 101 | 330 => 102 | 331 => 103 | 332 => 104 | 215 => 98 | 343 => 105 | n => n, fun | 28 => 22 | 3 => 3 | 46 => 98 | 0 => 0 | 51 => 112 | 53 => 114 | 4 => 4 | 183 => 106 | 182 => 105 | 131 => 31 | 5 => 5 | 9 => 9 | 218 => 115 | 222 => 119 | 228 => 121 | 229 => 74 | n => n, fun | n => n⟩
theorem Try.lays189 : Go.Proofs.Lays.n189 Try.prog Try.lays189_ren := {
  mixed := by kernel_rfl
  f125 := Try.func81.trans (congrArg some (by kernel_rfl))
  f128 := Try.func96.trans (congrArg some (by kernel_rfl))
  f129 := Try.func97.trans (congrArg some (by kernel_rfl))
  f189 := Try.func50.trans (congrArg some (by kernel_rfl))
  f215 := Try.func98.trans (congrArg some (by kernel_rfl))
  f216 := Try.func82.trans (congrArg some (by kernel_rfl))
  f257 := Try.func80.trans (congrArg some (by kernel_rfl))
  f294 := Try.func88.trans (congrArg some (by kernel_rfl))
  f295 := Try.func89.trans (congrArg some (by kernel_rfl))
  f296 := Try.func90.trans (congrArg some (by kernel_rfl))
  f297 := Try.func91.trans (congrArg some (by kernel_rfl))
  f298 := Try.func92.trans (congrArg some (by kernel_rfl))
  f299 := Try.func93.trans (congrArg some (by kernel_rfl))
  f300 := Try.func94.trans (congrArg some (by kernel_rfl))
  f301 := Try.func95.trans (congrArg some (by kernel_rfl))
  f328 := Try.func100.trans (congrArg some (by kernel_rfl))
  f329 := Try.func101.trans (congrArg some (by kernel_rfl))
  f330 := Try.func102.trans (congrArg some (by kernel_rfl))
  f331 := Try.func103.trans (congrArg some (by kernel_rfl))
  f332 := Try.func104.trans (congrArg some (by kernel_rfl))
  f343 := Try.func105.trans (congrArg some (by kernel_rfl))
  t0 := Try.underlying0
  a0 := Try.isAgg0
  z0 := Try.sizeOf0
  v0 := Try.zeroValue0
  t3 := Try.underlying3
  a3 := Try.isAgg3
  z3 := Try.sizeOf3
  v3 := Try.zeroValue3
  t4 := Try.underlying4
  a4 := Try.isAgg4
  z4 := Try.sizeOf4
  v4 := Try.zeroValue4
  t5 := Try.underlying5
  a5 := Try.isAgg5
  z5 := Try.sizeOf5
  v5 := Try.zeroValue5
  t9 := Try.underlying9
  a9 := Try.isAgg9
  z9 := Try.sizeOf9
  v9 := Try.zeroValue9
  t28 := Try.underlying22
  a28 := Try.isAgg22
  z28 := Try.sizeOf22
  v28 := Try.zeroValue22
  t46 := Try.underlying98
  a46 := Try.isAgg98
  z46 := Try.sizeOf98
  v46 := Try.zeroValue98
  t51 := Try.underlying112
  a51 := Try.isAgg112
  z51 := Try.sizeOf112
  v51 := Try.zeroValue112
  t53 := Try.underlying114
  a53 := Try.isAgg114
  z53 := Try.sizeOf114
  v53 := Try.zeroValue114
  t131 := Try.underlying31
  a131 := Try.isAgg31
  z131 := Try.sizeOf31
  v131 := Try.zeroValue31
  t182 := Try.underlying105
  a182 := Try.isAgg105
  z182 := Try.sizeOf105
  v182 := Try.zeroValue105
  t183 := Try.underlying106
  a183 := Try.isAgg106
  z183 := Try.sizeOf106
  v183 := Try.zeroValue106
  t218 := Try.underlying115
  a218 := Try.isAgg115
  z218 := Try.sizeOf115
  v218 := Try.zeroValue115
  t222 := Try.underlying119
  a222 := Try.isAgg119
  z222 := Try.sizeOf119
  v222 := Try.zeroValue119
  t228 := Try.underlying121
  a228 := Try.isAgg121
  z228 := Try.sizeOf121
  v228 := Try.zeroValue121
  t229 := Try.underlying74
  a229 := Try.isAgg74
  z229 := Try.sizeOf74
  v229 := Try.zeroValue74 }
open Go.Sort Go.RowKit in
theorem Try.slices_Sort_int (blk off cap : Nat) (zs : List Int) (w : World) (hH : Holds (Value.int .i64) w blk off zs.toArray) (hblk : blk < w.heap.size) (hsz : zs.length < 4611686018427387904) :
    Calls Try.prog 50 #[.slice (some ⟨blk, off, none⟩) zs.length cap] w fun e w' =>
      e = .returned (.tuple #[]) ∧ ∃ n os, w' = grow (putRow (Value.int .i64) (Sort.ahead w n) blk off (zs.mergeSort fun x y => decide (x ≤ y)).toArray) os := Any.slices_Sort_int Try.lays189 blk off cap zs w hH hblk hsz
open Go.RowKit Go.Sort in
/-- .. and plain. (LAID: no walk: one application.) -/
theorem Try.slices_Sort_int_none (p : Option Addr) (cap : Nat) (w : World) :
    Calls Try.prog 50 #[.slice p 0 cap] w fun e w' => e = .returned (.tuple #[]) ∧ w' = w := Any.slices_Sort_int_none Try.lays189 p cap w
def Try.grow79_ren : Go.Shelf.Ren := ⟨fun | 4 => 79 | n => n, fun | 22 => 22 | 25 => 3 | 3 => 3 | 4 => 4 | 9 => 9 | 20 => 20 | 0 => 0 | n => n, fun | n => n⟩
theorem Try.grow79 : Go.Proofs.Lays8.n4 Try.prog Try.grow79_ren := {
  mixed := by kernel_rfl
  f4 := ⟨Try.f79.name, by decide, Try.func79.trans (congrArg some (by kernel_rfl))⟩
  t0 := Try.underlying0
  a0 := Try.isAgg0
  z0 := Try.sizeOf0
  v0 := Try.zeroValue0
  t3 := Try.underlying3
  a3 := Try.isAgg3
  z3 := Try.sizeOf3
  v3 := Try.zeroValue3
  t4 := Try.underlying4
  a4 := Try.isAgg4
  z4 := Try.sizeOf4
  v4 := Try.zeroValue4
  t9 := Try.underlying9
  a9 := Try.isAgg9
  z9 := Try.sizeOf9
  v9 := Try.zeroValue9
  t20 := Try.underlying20
  a20 := Try.isAgg20
  z20 := Try.sizeOf20
  v20 := Try.zeroValue20
  t22 := Try.underlying22
  a22 := Try.isAgg22
  z22 := Try.sizeOf22
  v22 := Try.zeroValue22 }
open Go.RowKit Go.Lib in
/-- slices.Grow where there is room. -/
theorem Try.slices_Grow_room (base : Option Addr) (l c n : Nat) (w : World) (hlc : l ≤ c) (hc63 : c ≤ 9223372036854775807) (hn63 : n ≤ 9223372036854775807) (hroom : l + n ≤ c) :
    Calls Try.prog 79 #[.slice base l c, .int .i64 n] w fun e w' => e = .returned (.slice base l c) ∧ w' = w := Any8.slices_Grow_room Try.grow79 base l c n w hlc hc63 hn63 hroom
open Go.RowKit Go.Lib in
/-- slices.Grow of nil. -/
theorem Try.slices_Grow_nil (i0 : TypeInfo) (z : Value) (hi0 : Try.prog.info? 3 = some i0) (hz0 : i0.zero = some z) (hs0 : 0 < i0.size) (n : Nat) (w : World) (hroom : 0 < 0 + n) (hbig : (0 + n) * i0.bytes ≤ 140737488355328) (h63 : 0 + n ≤ 4611686018427387904) :
    Calls Try.prog 79 #[.slice none 0 0, .int .i64 n] w fun e w' =>
      e = .returned (.slice (some ⟨w.heap.size, 0, none⟩) 0 (grownCap w (0 + n) 0 3)) ∧
      w' = w.drew.alloc (.cells (([] : List Value).toArray ++ Builtin.zeroCells z.cells (0 + n - 0) ++ Builtin.zeroCells z.cells (grownCap w (0 + n) 0 3 - (0 + n))) 3) := Any8.slices_Grow_grow Try.grow79 i0 z hi0 hz0 hs0 none 0 0 n [] w (Nat.le_refl _) hroom hbig h63 (by simp) (fun _ => rfl) (fun a h => by cases h)
end Go.Proofs
end
section
namespace Go.Proofs.Ytingjpcgehgiiaa.Pr
open Go.RowKit Go.Shelf Go.Proofs.YtingjpcgehgiiaaW.PrintWords Go.Proofs.YtingjpcgehgiiaaW.PrintLast Go.Proofs.YtingjpcgehgiiaaW.PrintMore
set_option linter.unusedVariables false
set_option linter.unusedSimpArgs false
/-- A slice of a call's own with no numbers, and room for n. -/
theorem grow_nil (n : Nat) (w : World) (hn : n ≤ 1000000) : Calls Try.prog 79 #[.slice none 0 0, .int .i64 n] w fun e w' => ∃ v, e = .returned v ∧ Kd.R (Kd.int .i64) 3 w' w.heap.size (fun _ => True) v [] ∧ Below w.heap.size w w' := by
  rcases Nat.eq_zero_or_pos n with rfl | h0
  · refine (Try.slices_Grow_room none 0 0 0 w (by omega) (by omega) (by omega) (by omega)).mono ?_
    rintro e w' ⟨rfl, rfl⟩
    exact ⟨_, rfl, Kd.R_nil _ _ _ _ _, Below.refl _ _⟩
  · obtain ⟨i0, hi, hz, hs, hb⟩ := info_parts info3
    refine (Try.slices_Grow_nil i0 (.int .i64 0) hi hz (by omega) n w (by omega) (by rw [hb]; omega) (by omega)).mono ?_
    rintro e w' ⟨rfl, rfl⟩
    have hge := grownCap_ge w (0 + n) 0 3
    have hle := grownCap_le_maxLen w (0 + n) 0 3 (by unfold maxLen; omega)
    generalize grownCap w (0 + n) 0 3 = G at hge hle ⊢
    refine ⟨_, rfl, ⟨fun _ _ => trivial, [], ⟨rfl, .inr ⟨w.heap.size, G, _, rfl, Nat.le_refl _, blk_new w.drew _, Nat.zero_le _, hle, ?_, rfl⟩⟩, Reps.none _ _⟩, ?_⟩
    · simp [size_zeroCells, Value.cells]
      change n + (G - n) = G * 1
      omega
    · exact below_alloc (below_drew1 (Below.refl _ _)) _
set_option maxHeartbeats 4000000 in
set_option maxRecDepth 100000 in
/-- slices.Concat of two lists. -/
theorem concat_two (gb : Nat) (A1 A2 : Option Addr) (c1 c2 : Nat) (l m : List Int) (w : World) (hg : w.heap[gb]? = some (.cells #[.slice A1 l.length c1, .slice A2 m.length c2] 22 (0, 0))) (hr1 : Kd.C (Kd.int .i64) w A1 l.length l) (hr2 : Kd.C (Kd.int .i64) w A2 m.length m) (hl : l.length ≤ 1000) (hm : m.length ≤ 1000) :
    Calls Try.prog 49 #[.slice (some ⟨gb, 0, none⟩) 2 2] w fun e w' => ∃ v, e = .returned v ∧ Kd.R (Kd.int .i64) 3 w' w.heap.size (fun _ => True) v (l ++ m) ∧ Below w.heap.size w w' := by
  have HR1 := Aside0.mk hr1
  have HR2 := Aside0.mk hr2
  have HG := Aside0.mk hg
  have hz0 : w.cell? ⟨gb, 0, none⟩ = some (.slice A1 l.length c1) := (blk_cell hg 0).trans rfl
  have hz1 : w.cell? ⟨gb, 1, none⟩ = some (.slice A2 m.length c2) := (blk_cell hg 1).trans rfl
  have ZZ0 := Aside0.mk hz0
  have ZZ1 := Aside0.mk hz1
  clear hr1 hr2 hg
  go_enter Try.func49, Try.ntmps49
  go_wp2
  go_loopg [3, 11] 2 (fun gg v3 v11 wr => ∃ kk : Nat, kk ≤ 2 ∧ 2 - kk ≤ gg ∧ v3 = .int .i64 (if kk = 0 then 0 else if kk = 1 then (l.length : Int) else ((l.length + m.length : Nat) : Int)) ∧ v11 = .int .i64 kk ∧ w = wr)
  case atStart => exact ⟨0, by omega, by omega, rfl, rfl, rfl⟩
  case round =>
    obtain ⟨kk, hkk, hg, rfl, rfl, rfl⟩ := hrel
    rcases (by omega : kk = 0 ∨ kk = 1 ∨ kk = 2) with rfl | rfl | rfl
    · go_wp2
      go_roundg 1
      case measure => omega
      case rel => exact ⟨1, by omega, by omega, rfl, rfl, rfl⟩
    · have hw : IntKind.i64.wrap ((l.length : Int) + (m.length : Int)) = (l.length : Int) + (m.length : Int) := by rw [i64_w]; unfold wrap64; omega
      have hn : ¬ (l.length : Int) + (m.length : Int) < 0 := by omega
      go_wp2
      go_roundg 0
      case measure => omega
      case rel => exact ⟨2, by omega, by omega, by first | rfl | simp, rfl, rfl⟩
    · have hG := Aside0.mk (grow_nil (l.length + m.length) w (by omega))
      go_wp2_with (go_at_call 79; refine hG.out.mono ?_; rintro e w1 ⟨v1, rfl, ho1, hb1⟩; obtain ⟨A3, c3, e3⟩ := Kd.R_slice ho1; subst e3; have hy0 := (hb1.cell (p := ⟨gb, 0, none⟩) (World.block_lt_of_cell? _ _ hz0)).trans hz0; have hy1 := (hb1.cell (p := ⟨gb, 1, none⟩) (World.block_lt_of_cell? _ _ hz1)).trans hz1; clear hz0 hz1)
      have HO1 := Aside0.mk ho1
      have HB1 := Aside0.mk hb1
      clear ho1 hb1 hg hkk
      clear hy0 hy1
      go_loopg [6, 27] 2 (fun gg v6 v27 wr => ∃ kk : Nat, kk ≤ 2 ∧ 2 - kk ≤ gg ∧ v27 = .int .i64 kk ∧ Aside0 (Kd.R (Kd.int .i64) 3 wr w.heap.size (fun _ => True) v6 (if kk = 0 then [] else if kk = 1 then l else l ++ m)) ∧ Aside0 (Below w.heap.size w wr))
      case atStart => exact ⟨0, by omega, by omega, rfl, HO1, HB1⟩
      case round =>
        obtain ⟨kk, hkk, hg, rfl, HO, HB⟩ := hrel
        have hy0 := (HB.out.cell (p := ⟨gb, 0, none⟩) (World.block_lt_of_cell? _ _ ZZ0.out)).trans ZZ0.out
        have hy1 := (HB.out.cell (p := ⟨gb, 1, none⟩) (World.block_lt_of_cell? _ _ ZZ1.out)).trans ZZ1.out
        rcases (by omega : kk = 0 ∨ kk = 1 ∨ kk = 2) with rfl | rfl | rfl
        · obtain ⟨A5, c5, e5⟩ := Kd.R_slice HO.out
          subst e5
          go_wp2_with (at_builtin; refine Kd.R_append_rows (Kd.int .i64) (Rr := (Kd.int .i64).K w) (w0 := w) w.heap.size rfl (.tmp 31) (.tmp 32) 22 3 (.int .i64 0) 8 rfl Try.underlying22 info3 rfl (by decide) (by omega) _ ([]) l A1 l.length c1 (fun _ => True) (fun _ => False) rfl rfl HO.out ?aR ?aK (fun _ hk => hk.elim) (fun _ _ => trivial) HB.out HB.out.size ?aL ?_; (case aR => exact (Kd.C_below HR1.out HB.out)); (case aK => (intro x cs hx; exact hx)); (case aL => (first | omega | (simp; omega))); intro v2 w2 ho2 hb2 hg2 hn2; clear hg2 hn2; obtain ⟨A4, c4, e4⟩ := Kd.R_slice ho2; subst e4)
          go_roundg 1
          case measure => omega
          case rel => exact ⟨1, by omega, by omega, rfl, ⟨ho2⟩, ⟨hb2⟩⟩
        · obtain ⟨A5, c5, e5⟩ := Kd.R_slice HO.out
          subst e5
          go_wp2_with (at_builtin; refine Kd.R_append_rows (Kd.int .i64) (Rr := (Kd.int .i64).K w) (w0 := w) w.heap.size rfl (.tmp 31) (.tmp 32) 22 3 (.int .i64 0) 8 rfl Try.underlying22 info3 rfl (by decide) (by omega) _ (l) m A2 m.length c2 (fun _ => True) (fun _ => False) rfl rfl HO.out ?aR ?aK (fun _ hk => hk.elim) (fun _ _ => trivial) HB.out HB.out.size ?aL ?_; (case aR => exact (Kd.C_below HR2.out HB.out)); (case aK => (intro x cs hx; exact hx)); (case aL => (first | omega | (simp; omega))); intro v2 w2 ho2 hb2 hg2 hn2; clear hg2 hn2; obtain ⟨A4, c4, e4⟩ := Kd.R_slice ho2; subst e4)
          go_roundg 0
          case measure => omega
          case rel => exact ⟨2, by omega, by omega, rfl, ⟨by have h := ho2; rw [List.length_append] at h; exact h⟩, ⟨hb2⟩⟩
        · obtain ⟨A5, c5, e5⟩ := Kd.R_slice HO.out
          subst e5
          go_wp2
          go_ret
          exact ⟨_, rfl, HO.out, HB.out⟩
def sortL (l : List Int) : List Int := l.mergeSort fun x y => decide (x ≤ y)
theorem sortL_len (l : List Int) : (sortL l).length = l.length := List.length_mergeSort _
/-- slices.Sort of a row of the call's own. -/
theorem sort_own (v : Value) (l : List Int) (base : Nat) (w : World) (h : Kd.R (Kd.int .i64) 3 w base (fun _ => True) v l) (hl : l.length ≤ 1000000) :
    Calls Try.prog 50 #[v] w fun e w' => e = .returned (.tuple #[]) ∧ Kd.R (Kd.int .i64) 3 w' base (fun _ => True) v (sortL l) ∧ w.grownBy w' v.ownBlock := by
  have hr : RowI w base v l := Kd.own_of_R h
  rcases l with _ | ⟨x, t⟩
  · obtain ⟨A, c, rfl⟩ := Kd.R_slice h
    refine (Try.slices_Sort_int_none A c w).mono ?_
    rintro e w' ⟨rfl, rfl⟩
    have e0 : sortL [] = [] := by simp [sortL]
    rw [e0]
    exact ⟨rfl, h, grown_of_below (Below.refl _ _) _⟩
  · obtain ⟨g, c, cur, rfl, g1, g2, g3, g4, g5, g6⟩ := row_some hr (by simp)
    have glt := (Array.getElem?_eq_some_iff.1 g2).1
    refine (Try.slices_Sort_int g 0 c (x :: t) w (row_holds g2 g6) glt (by omega)).mono ?_
    rintro e w' ⟨rfl, m, os, rfl⟩
    obtain ⟨r1, r2⟩ := row_put m os g1 g2 g3 g4 g5 (sortL_len (x :: t)) (x :: t).length (Nat.le_refl _)
    rw [List.take_of_length_le (by rw [sortL_len]; exact Nat.le_refl _)] at r1
    exact ⟨rfl, Kd.R_of_own r1 (fun _ _ => trivial), r2⟩
/-- A curve is stored into a result's block of its own. -/
theorem store_curve {w W : World} {g : Nat} {a b c v : Value} {x y : Int} {l : List Int} (HB : Below w.heap.size w W) (GE : w.heap.size ≤ g) (BK : W.heap[g]? = some (.cells #[a, b, c] 24 (0, 0))) (hR : Kd.R (Kd.int .i64) 3 W w.heap.size (fun k => k ≠ g) v l) :
    (((W.setCell ⟨g, 0, none⟩ (.int .i64 x)).setCell ⟨g, 1, none⟩ (.int .i64 y)).setCell ⟨g, 2, none⟩ v).heap[g]? = some (.cells #[.int .i64 x, .int .i64 y, v] 24 (0, 0)) ∧
    Kd.R (Kd.int .i64) 3 (((W.setCell ⟨g, 0, none⟩ (.int .i64 x)).setCell ⟨g, 1, none⟩ (.int .i64 y)).setCell ⟨g, 2, none⟩ v) w.heap.size (fun _ => True) v l ∧
    Below w.heap.size w (((W.setCell ⟨g, 0, none⟩ (.int .i64 x)).setCell ⟨g, 1, none⟩ (.int .i64 y)).setCell ⟨g, 2, none⟩ v) :=
  ⟨blk_put (blk_put (blk_put BK 0 _ rfl) 1 _ rfl) 2 _ rfl,
   Kd.R_mono (Kd.R_far (p := ⟨g, 2, none⟩) (Kd.R_far (p := ⟨g, 1, none⟩) (Kd.R_far (p := ⟨g, 0, none⟩) hR (fun _ hk => hk) _) (fun _ hk => hk) _) (fun _ hk => hk) _) (fun _ _ => trivial),
   below_set (below_set (below_set HB GE) GE) GE⟩
theorem blk_sort {w w' : World} {g : Nat} {cs : Array Value} {base : Nat} {v : Value} {l : List Int} (BK : w.heap[g]? = some (.cells cs 24 (0, 0))) (hR : Kd.R (Kd.int .i64) 3 w base (fun _ => True) v l) (hg : w.grownBy w' v.ownBlock) : w'.heap[g]? = some (.cells cs 24 (0, 0)) := by
  refine (hg.block g (Array.getElem?_eq_some_iff.1 BK).1 (fun e => ?_)).trans BK
  obtain ⟨cells, hc⟩ := own_typed hR.2.choose_spec.1 g e.symm
  rw [BK] at hc
  cases hc
def joinR (a0 a1 : Int) (l : List Int) (b0 b1 : Int) (m : List Int) : Int × Int × List Int × Int :=
  if (validC a0 a1 l && validC b0 b1 m) = true then
    (if validC (wrap64 (a0 + b0)) (wrap64 (a1 + b1)) (sortL (l ++ m)) = true then (wrap64 (a0 + b0), wrap64 (a1 + b1), sortL (l ++ m), 0) else (0, 0, [], 4))
  else (0, 0, [], 2)
def curve_Join.f (a0_0 a0_1 : Int) (l0_2 : List Int) (a1_0 a1_1 : Int) (l1_2 : List Int) : Option (Int × Int × List Int × Int) := some (joinR a0_0 a0_1 l0_2 a1_0 a1_1 l1_2)
theorem validC_len {a0 a1 : Int} {l : List Int} (h : validC a0 a1 l = true) : l.length ≤ 64 := by
  unfold validC at h
  simp only [Bool.and_eq_true, decide_eq_true_eq] at h
  exact h.2.2.1
set_option maxHeartbeats 8000000 in
set_option maxRecDepth 100000 in
theorem curve_Join.calls (a0_0 a0_1 : Int) (A0_2 : Option Addr) (c0_2 : Nat) (l0_2 : List Int) (a1_0 a1_1 : Int) (A1_2 : Option Addr) (c1_2 : Nat) (l1_2 : List Int) (r1 r2 : Int) (r3 : List Int) (r4 : Int) (w : World) (hr0_2 : Kd.C (Kd.int .i64) w A0_2 l0_2.length l0_2) (hc0_2 : l0_2.length ≤ c0_2) (hr1_2 : Kd.C (Kd.int .i64) w A1_2 l1_2.length l1_2) (hc1_2 : l1_2.length ≤ c1_2) (h : curve_Join.f a0_0 a0_1 l0_2 a1_0 a1_1 l1_2 = some (r1, r2, r3, r4)) :
    Calls Try.prog 14 #[.agg #[.int .i64 a0_0, .int .i64 a0_1, .slice A0_2 l0_2.length c0_2], .agg #[.int .i64 a1_0, .int .i64 a1_1, .slice A1_2 l1_2.length c1_2]] w fun e w' => ∃ v_ : Value, e = .returned (.tuple #[.agg #[.int .i64 r1, .int .i64 r2, v_], .int .i64 r4]) ∧ Kd.R (Kd.int .i64) 3 w' w.heap.size (fun _ => True) v_ r3 ∧ Below w.heap.size w w' := by
  have hj : joinR a0_0 a0_1 l0_2 a1_0 a1_1 l1_2 = (r1, r2, r3, r4) := Option.some.inj h
  have HR0 := Aside0.mk hr0_2
  have HR1 := Aside0.mk hr1_2
  have HC0 := Aside0.mk hc0_2
  have HC1 := Aside0.mk hc1_2
  unfold joinR at hj
  have V0 := Aside0.mk (show curve_Valid.f a0_0 a0_1 l0_2 = some (validC a0_0 a0_1 l0_2) from rfl)
  have V1 := Aside0.mk (show curve_Valid.f a1_0 a1_1 l1_2 = some (validC a1_0 a1_1 l1_2) from rfl)
  have L0 := Aside0.mk (fun h => @validC_len a0_0 a0_1 l0_2 h)
  have L1 := Aside0.mk (fun h => @validC_len a1_0 a1_1 l1_2 h)
  obtain ⟨ll, hll⟩ : ∃ ll, ll = l0_2 ++ l1_2 := ⟨_, rfl⟩
  rw [← hll] at hj
  have HLL := Aside0.mk hll
  have HJ := Aside0.mk hj
  clear hll
  clear h hj hr0_2 hr1_2 hc0_2 hc1_2
  generalize validC a0_0 a0_1 l0_2 = b0 at V0 L0 HJ
  generalize validC a1_0 a1_1 l1_2 = b1 at V1 L1 HJ
  go_enter Try.func14, Try.ntmps14
  go_wp2_with (first | ((with_reducible refine gate_dst (N := 2) rfl ?_); refine box_event ?hg (N := 2) ?hd (cs := #[.int .i64 a0_0, .int .i64 a0_1, .slice A0_2 l0_2.length c0_2]) (t := 24) ?hr ?_; (case hd => rfl); (case hg => rfl); (case hr => first | (go_simp; done) | (go_simp; rfl)); intro g2 hg w1 hbox hb; have HB1 := Aside0.mk hb; have BKa1 := Aside0.mk hbox; clear hb hg hbox) | ((with_reducible refine gate_dst (N := 3) rfl ?_); refine box_event ?hg (N := 3) ?hd (cs := #[.int .i64 a1_0, .int .i64 a1_1, .slice A1_2 l1_2.length c1_2]) (t := 24) ?hr ?_; (case hd => rfl); (case hg => rfl); (case hr => first | (go_simp; done) | (go_simp; rfl)); intro g3 hg w2 hbox hb; have HB2 := Aside0.mk (below_then HB1.out HB1.out.size hb); have BKa2 := Aside0.mk (blk_below BKa1.out hb); have BKb2 := Aside0.mk hbox; clear hb hg hbox HB1 BKa1) | ((with_reducible refine gate_dst (N := 4) rfl ?_); refine box_event ?hg (N := 4) ?hd (cs := #[.int .i64 0, .int .i64 0, .slice none 0 0]) (t := 24) ?hr ?_; (case hd => rfl); (case hg => rfl); (case hr => first | (go_simp; done) | (go_simp; rfl)); intro g4 hg w3 hbox hb; have HB3 := Aside0.mk (below_then HB2.out HB2.out.size hb); have BKa3 := Aside0.mk (blk_below BKa2.out hb); have BKb3 := Aside0.mk (blk_below BKb2.out hb); have BKc3 := Aside0.mk hbox; have GE := Aside0.mk (show w.heap.size ≤ g4 by rw [hg]; exact HB2.out.size); clear hb hg hbox HB2 BKa2 BKb2; have hx0 : w3.cell? ⟨g2, 0, none⟩ = some (.int .i64 a0_0) := (blk_cell BKa3.out 0).trans rfl; have hx1 : w3.cell? ⟨g2, 1, none⟩ = some (.int .i64 a0_1) := (blk_cell BKa3.out 1).trans rfl; have hx2 : w3.cell? ⟨g2, 2, none⟩ = some (.slice A0_2 l0_2.length c0_2) := (blk_cell BKa3.out 2).trans rfl))
  go_wp2_with (go_at_call 16; (with_reducible refine (curve_Valid.calls a0_0 a0_1 _ _ l0_2 _ _ (Kd.C_below HR0.out HB3.out) HC0.out V0.out).mono ?_); rintro e w4 ⟨rfl, hb4⟩; have HB4 := Aside0.mk (below_then HB3.out HB3.out.size hb4); have BKa4 := Aside0.mk (blk_below BKa3.out hb4); have BKb4 := Aside0.mk (blk_below BKb3.out hb4); have BKc4 := Aside0.mk (blk_below BKc3.out hb4); clear hb4 HB3 BKa3 BKb3 BKc3 hx0 hx1 hx2; have hy0 : w4.cell? ⟨g3, 0, none⟩ = some (.int .i64 a1_0) := (blk_cell BKb4.out 0).trans rfl; have hy1 : w4.cell? ⟨g3, 1, none⟩ = some (.int .i64 a1_1) := (blk_cell BKb4.out 1).trans rfl; have hy2 : w4.cell? ⟨g3, 2, none⟩ = some (.slice A1_2 l1_2.length c1_2) := (blk_cell BKb4.out 2).trans rfl; have hz0 : w4.cell? ⟨g4, 0, none⟩ = some (.int .i64 0) := (blk_cell BKc4.out 0).trans rfl; have hf0 := blk_frozen BKc4.out 0; have hz1 : w4.cell? ⟨g4, 1, none⟩ = some (.int .i64 0) := (blk_cell BKc4.out 1).trans rfl; have hf1 := blk_frozen BKc4.out 1; have hz2 : w4.cell? ⟨g4, 2, none⟩ = some (.slice none 0 0) := (blk_cell BKc4.out 2).trans rfl; have hf2 := blk_frozen BKc4.out 2; cases b0)
  · go_wp2
    obtain ⟨e1, e2, e3⟩ := store_curve (x := 0) (y := 0) (v := .slice none 0 0) HB4.out GE.out BKc4.out (Kd.R_nil _ _ _ _ _)
    obtain ⟨rfl, rfl, rfl, rfl⟩ : 0 = r1 ∧ 0 = r2 ∧ [] = r3 ∧ 2 = r4 := by have h := HJ.out; simpa using h
    refine bodyPost_ret (results_ct rfl _ _ g4 24 _ (0, 0) _ rfl e1 Try.underlying24 rfl (by kernel_rfl)) rfl ?_
    exact ⟨_, rfl, e2, e3⟩
  · go_wp2_with (go_at_call 16; (with_reducible refine (curve_Valid.calls a1_0 a1_1 _ _ l1_2 _ _ (Kd.C_below HR1.out HB4.out) HC1.out V1.out).mono ?_); rintro e w5 ⟨rfl, hb5⟩; have HB5 := Aside0.mk (below_then HB4.out HB4.out.size hb5); have BKa5 := Aside0.mk (blk_below BKa4.out hb5); have BKb5 := Aside0.mk (blk_below BKb4.out hb5); have BKc5 := Aside0.mk (blk_below BKc4.out hb5); clear hb5 HB4 BKa4 BKb4 BKc4 hy0 hy1 hy2 hz0 hz1 hz2 hf0 hf1 hf2; have hx0 : w5.cell? ⟨g2, 0, none⟩ = some (.int .i64 a0_0) := (blk_cell BKa5.out 0).trans rfl; have hx1 : w5.cell? ⟨g2, 1, none⟩ = some (.int .i64 a0_1) := (blk_cell BKa5.out 1).trans rfl; have hx2 : w5.cell? ⟨g2, 2, none⟩ = some (.slice A0_2 l0_2.length c0_2) := (blk_cell BKa5.out 2).trans rfl; have hy0 : w5.cell? ⟨g3, 0, none⟩ = some (.int .i64 a1_0) := (blk_cell BKb5.out 0).trans rfl; have hy1 : w5.cell? ⟨g3, 1, none⟩ = some (.int .i64 a1_1) := (blk_cell BKb5.out 1).trans rfl; have hy2 : w5.cell? ⟨g3, 2, none⟩ = some (.slice A1_2 l1_2.length c1_2) := (blk_cell BKb5.out 2).trans rfl; have hz0 : w5.cell? ⟨g4, 0, none⟩ = some (.int .i64 0) := (blk_cell BKc5.out 0).trans rfl; have hf0 := blk_frozen BKc5.out 0; have hz1 : w5.cell? ⟨g4, 1, none⟩ = some (.int .i64 0) := (blk_cell BKc5.out 1).trans rfl; have hf1 := blk_frozen BKc5.out 1; have hz2 : w5.cell? ⟨g4, 2, none⟩ = some (.slice none 0 0) := (blk_cell BKc5.out 2).trans rfl; have hf2 := blk_frozen BKc5.out 2; cases b1)
    · go_wp2
      obtain ⟨e1, e2, e3⟩ := store_curve (x := 0) (y := 0) (v := .slice none 0 0) HB5.out GE.out BKc5.out (Kd.R_nil _ _ _ _ _)
      obtain ⟨rfl, rfl, rfl, rfl⟩ : 0 = r1 ∧ 0 = r2 ∧ [] = r3 ∧ 2 = r4 := by have h := HJ.out; simpa using h
      refine bodyPost_ret (results_ct rfl _ _ g4 24 _ (0, 0) _ rfl e1 Try.underlying24 rfl (by kernel_rfl)) rfl ?_
      exact ⟨_, rfl, e2, e3⟩
    · have hl0 := L0.out (by first | trivial | rfl)
      have hl1 := L1.out (by first | trivial | rfl)
      have HL := Aside0.mk (And.intro hl0 hl1)
      clear hl0 hl1
      go_wp2_with (go_at_call 49; (with_reducible refine (concat_two w5.heap.size A0_2 A1_2 c0_2 c1_2 l0_2 l1_2 _ (blk_new _ _) (Kd.C_below HR0.out (below_alloc HB5.out _)) (Kd.C_below HR1.out (below_alloc HB5.out _)) (by have := HL.out; omega) (by have := HL.out; omega)).mono ?_); rintro e w6 ⟨v6, rfl, ho6, hb6⟩; rw [← HLL.out] at ho6; have hb56 := below_then (below_alloc (Below.refl w5.heap.size w5) (.cells #[.slice A0_2 l0_2.length c0_2, .slice A1_2 l1_2.length c1_2] 22)) (below_alloc (Below.refl w5.heap.size w5) _).size hb6; have HO6 := Aside0.mk (Kd.R_lower ho6 (Nat.le_trans HB5.out.size (below_alloc (Below.refl w5.heap.size w5) _).size)); have HB6 := Aside0.mk (below_then HB5.out HB5.out.size hb56); have BKa6 := Aside0.mk (blk_below BKa5.out hb56); have BKb6 := Aside0.mk (blk_below BKb5.out hb56); have BKc6 := Aside0.mk (blk_below BKc5.out hb56); clear ho6 hb6 hb56 HB5 BKa5 BKb5 BKc5 hx0 hx1 hx2 hy0 hy1 hy2 hz0 hz1 hz2 hf0 hf1 hf2; obtain ⟨A6, c6, e6⟩ := Kd.R_slice HO6.out; subst e6)
      have hsort := sort_own _ ll w.heap.size w6 HO6.out (by have := HL.out; rw [HLL.out, List.length_append]; omega)
      have HS := Aside0.mk hsort
      clear hsort
      go_wp2_with (go_at_call 50; (with_reducible refine HS.out.mono ?_); rintro e w7 ⟨rfl, ho7, hg7⟩; have HO7 := Aside0.mk ho7; have HB7 := Aside0.mk (HB6.out.grown hg7 HB6.out.size (fun k hk => Kd.R_base HO6.out k hk)); have BKa7 := Aside0.mk (blk_sort BKa6.out HO6.out hg7); have BKb7 := Aside0.mk (blk_sort BKb6.out HO6.out hg7); have BKc7 := Aside0.mk (blk_sort BKc6.out HO6.out hg7); clear ho7 hg7 HB6 BKa6 BKb6 BKc6 HS; have hx0 : w7.cell? ⟨g2, 0, none⟩ = some (.int .i64 a0_0) := (blk_cell BKa7.out 0).trans rfl; have hx1 : w7.cell? ⟨g2, 1, none⟩ = some (.int .i64 a0_1) := (blk_cell BKa7.out 1).trans rfl; have hx2 : w7.cell? ⟨g2, 2, none⟩ = some (.slice A0_2 l0_2.length c0_2) := (blk_cell BKa7.out 2).trans rfl; have hy0 : w7.cell? ⟨g3, 0, none⟩ = some (.int .i64 a1_0) := (blk_cell BKb7.out 0).trans rfl; have hy1 : w7.cell? ⟨g3, 1, none⟩ = some (.int .i64 a1_1) := (blk_cell BKb7.out 1).trans rfl; have hy2 : w7.cell? ⟨g3, 2, none⟩ = some (.slice A1_2 l1_2.length c1_2) := (blk_cell BKb7.out 2).trans rfl)
      have HM := Aside0.mk (show curve_made.f (wrap64 (a0_0 + a1_0)) (wrap64 (a0_1 + a1_1)) (sortL ll) = some (r1, r2, r3, r4) by
        have h := HJ.out
        rw [if_pos (by first | trivial | rfl)] at h
        unfold curve_made.f curve_Valid.f
        rw [Option.bind_some, ← h]
        cases validC (wrap64 (a0_0 + a1_0)) (wrap64 (a0_1 + a1_1)) (sortL ll) <;> rfl)
      have hlt4 := (Array.getElem?_eq_some_iff.1 BKc7.out).1
      have HLT := Aside0.mk hlt4
      clear hlt4
      go_wp2_with (go_at_call 51; (with_reducible refine (curve_made.calls _ _ (fun k_ => True ∧ k_ ≠ g4) _ (sortL ll) r1 r2 r3 r4 w w7 HB7.out (Kd.R_types HO7.out BKc7.out (by decide)) HM.out).mono ?_); rintro e w8 ⟨v8, rfl, ho8, hb8, hk8⟩; obtain ⟨A8, c8, e8⟩ := Kd.R_slice ho8; subst e8; have BKc8 := Aside0.mk ((hk8.2 g4 HLT.out (fun h => h.2 rfl)).trans BKc7.out); have HB8 := Aside0.mk hb8; have HR8 := Aside0.mk (Kd.R_mono (ok' := fun k_ => k_ ≠ g4) ho8 (fun k hk => by rcases hk with hk | hk; exact hk.2; have := HLT.out; omega)); clear ho8 hb8 hk8 hx0 hx1 hx2 hy0 hy1 hy2; have hz0 : w8.cell? ⟨g4, 0, none⟩ = some (.int .i64 0) := (blk_cell BKc8.out 0).trans rfl; have hf0 := blk_frozen BKc8.out 0; have hz1 : w8.cell? ⟨g4, 1, none⟩ = some (.int .i64 0) := (blk_cell BKc8.out 1).trans rfl; have hf1 := blk_frozen BKc8.out 1; have hz2 : w8.cell? ⟨g4, 2, none⟩ = some (.slice none 0 0) := (blk_cell BKc8.out 2).trans rfl; have hf2 := blk_frozen BKc8.out 2)
      obtain ⟨e1, e2, e3⟩ := store_curve (x := r1) (y := r2) HB8.out GE.out BKc8.out HR8.out
      refine bodyPost_ret (results_ct rfl _ _ g4 24 _ (0, 0) _ rfl e1 Try.underlying24 rfl (by kernel_rfl)) rfl ?_
      exact ⟨_, rfl, e2, e3⟩
end Go.Proofs.Ytingjpcgehgiiaa.Pr
end
section
namespace Go.Proofs.Ytingjpcgehgiiaa.Pr
open Go.RowKit Go.Proofs.YtingjpcgehgiiaaW.PrintWords Go.Proofs.YtingjpcgehgiiaaW.PrintLast Go.Proofs.YtingjpcgehgiiaaW.PrintMore
set_option linter.unusedVariables false
set_option linter.unusedSimpArgs false
theorem sortL_perm (l : List Int) : (sortL l).Perm l := List.mergeSort_perm l _
theorem sortL_pair (l : List Int) : (sortL l).Pairwise (· ≤ ·) := by
  have h := List.pairwise_mergeSort (le := fun x y : Int => decide (x ≤ y)) (fun a b c h1 h2 => by simp only [decide_eq_true_eq] at *; omega) (fun a b => by simp only [Bool.or_eq_true, decide_eq_true_eq]; omega) l
  unfold sortL
  exact h.imp fun h => by simpa using h
theorem sortedI_pair {l : List Int} (h : l.Pairwise (· ≤ ·)) : sortedI l = true := by
  unfold sortedI
  rw [sortedTo_iff]
  intro j hj
  rw [rd_nat l j (by omega), rd_nat l (j + 1) (by omega)]
  exact List.pairwise_iff_getElem.1 h j (j + 1) (by omega) (by omega) (by omega)
theorem sortL_sorted (l : List Int) : sortedI (sortL l) = true := sortedI_pair (sortL_pair l)
/-- The join. -/
def joinC (a b : S24) : S24 := ⟨a.f0 + b.f0, a.f1 + b.f1, sortL (a.f2 ++ b.f2)⟩
theorem joinC_len (a b : S24) : (joinC a b).f2.length = a.f2.length + b.f2.length := by
  unfold joinC
  rw [sortL_len, List.length_append]
theorem joinR_eq {a b : S24} (ha : Vc a) (hb : Vc b) : joinR a.f0 a.f1 a.f2 b.f0 b.f1 b.f2 = if Vc (joinC a b) then ((joinC a b).f0, (joinC a b).f1, (joinC a b).f2, 0) else (0, 0, [], 4) := by
  obtain ⟨h1, h2, h3, h4, h5, _, h7⟩ := vc_parts ha
  obtain ⟨k1, k2, k3, k4, k5, _, k7⟩ := vc_parts hb
  unfold joinR
  have e1 : wrap64 (a.f0 + b.f0) = a.f0 + b.f0 := by unfold wrap64; omega
  have e2 : wrap64 (a.f1 + b.f1) = a.f1 + b.f1 := by unfold wrap64; omega
  have e3 : (validC a.f0 a.f1 a.f2 && validC b.f0 b.f1 b.f2) = true := by rw [Bool.and_eq_true]; exact ⟨ha, hb⟩
  rw [e1, e2, if_pos e3]
  rfl
theorem gC_join (a b : S24) (p : Int) : gC (joinC a b) p = gC a p + gC b p := by
  unfold gC joinC
  simp only
  rw [pos_perm p (sortL_perm _), pos_append, Int.mul_add]
  omega
theorem join_in {a b : S24} {x y : Int} (hx : inC a x) (hy : inC b y) : inC (joinC a b) (x + y) := by
  have h := joinC_len a b
  have e : (joinC a b).f0 = a.f0 + b.f0 := rfl
  obtain ⟨x1, x2⟩ := hx
  obtain ⟨y1, y2⟩ := hy
  unfold inC
  rw [h, e]
  push_cast
  omega
/-- A price at a number. -/
theorem price_at {c : S24} (hs : sortedI c.f2 = true) {x : Int} (hx : inC c x) : ∃ p, (∀ s ∈ c.f2.take (x - c.f0).toNat, s ≤ p) ∧ (∀ s ∈ c.f2.drop (x - c.f0).toNat, p ≤ s) := by
  obtain ⟨x1, x2⟩ := hx
  obtain ⟨k, hk⟩ := Int.eq_ofNat_of_zero_le (show 0 ≤ x - c.f0 by omega)
  rw [hk, Int.toNat_natCast]
  by_cases h : k < c.f2.length
  · refine ⟨rd c.f2 (k : Int), fun s h1 => ?_, fun s h1 => ?_⟩
    · obtain ⟨i, i1, i2, rfl⟩ := mem_take_rd h1
      exact sorted_rd hs (by omega) (by omega)
    · obtain ⟨i, i1, i2, rfl⟩ := mem_drop_rd h1
      exact sorted_rd hs (by omega) (by omega)
  · have e : k = c.f2.length := by omega
    by_cases h0 : k = 0
    · subst h0
      refine ⟨0, fun s h1 => by simp at h1, fun s h1 => ?_⟩
      rw [List.drop_of_length_le (by omega)] at h1
      simp at h1
    · refine ⟨rd c.f2 ((k - 1 : Nat) : Int), fun s h1 => ?_, fun s h1 => ?_⟩
      · obtain ⟨i, i1, i2, rfl⟩ := mem_take_rd h1
        exact sorted_rd hs (by omega) (by omega)
      · rw [List.drop_of_length_le (by omega)] at h1
        simp at h1
theorem join_le {a b : S24} {x y : Int} (hx : inC a x) (hy : inC b y) : valC (joinC a b) (x + y) ≤ valC a x + valC b y := by
  have hj := join_in hx hy
  obtain ⟨p, p1, p2⟩ := price_at (c := joinC a b) (sortL_sorted _) hj
  have h := young_eq hj p1 p2
  have h1 := young p hx
  have h2 := young p hy
  rw [gC_join, Int.mul_add] at h
  omega
end Go.Proofs.Ytingjpcgehgiiaa.Pr
end
section
namespace Go.Proofs.Ytingjpcgehgiiaa.Pr
open Go.RowKit Go.Shelf Go.Proofs.YtingjpcgehgiiaaW.PrintWords Go.Proofs.YtingjpcgehgiiaaW.PrintLast Go.Proofs.YtingjpcgehgiiaaW.PrintMore
set_option linter.unusedVariables false
set_option linter.unusedSimpArgs false
theorem info67 : (Try.prog.info? 67).map (fun i => (i.zero, i.size, i.bytes)) = some (some (.pointer none), 1, 8) := by kernel_rfl
def loS (l : List S24) : Int := (l.map (fun c => c.f0)).sum
def hiS (l : List S24) : Int := (l.map (fun c => c.f0 + (c.f2.length : Int))).sum
def mkSh (l : List S24) : Shr := l.map (fun c => (c, c.f0))
def AllV (l : List S24) : Prop := ∀ c ∈ l, validC c.f0 c.f1 c.f2 = true
theorem sums_bound : ∀ (l : List S24), AllV l → -(1048576 * (l.length : Int)) ≤ loS l ∧ loS l ≤ 1048576 * (l.length : Int) ∧ loS l ≤ hiS l ∧ hiS l ≤ 1048640 * (l.length : Int)
  | [], _ => by simp [loS, hiS]
  | c :: t, h => by
    have ih := sums_bound t (fun c hc => h c (List.mem_cons_of_mem _ hc))
    obtain ⟨v1, v2, _, _, v5, _⟩ := validC_parts (h c List.mem_cons_self)
    simp only [loS, hiS, List.map_cons, List.sum_cons, List.length_cons] at ih ⊢
    push_cast
    omega
theorem take_snoc (l : List S24) (k : Nat) (h : k < l.length) : l.take (k + 1) = l.take k ++ [l.getD k z24] := by
  rw [List.take_add_one, List.getElem?_eq_getElem h, List.getD_eq_getElem?_getD, List.getElem?_eq_getElem h]
  rfl
theorem loS_succ (l : List S24) (k : Nat) (h : k < l.length) : loS (l.take (k + 1)) = loS (l.take k) + (l.getD k z24).f0 ∧ hiS (l.take (k + 1)) = hiS (l.take k) + ((l.getD k z24).f0 + ((l.getD k z24).f2.length : Int)) := by
  rw [take_snoc l k h]
  simp only [loS, hiS, List.map_append, List.sum_append, List.map_cons, List.map_nil, List.sum_cons, List.sum_nil]
  omega
theorem mkSh_succ (l : List S24) (k : Nat) (h : k < l.length) : mkSh (l.take (k + 1)) = mkSh (l.take k) ++ [((l.getD k z24), (l.getD k z24).f0)] := by
  rw [take_snoc l k h]
  simp only [mkSh, List.map_append, List.map_cons, List.map_nil]
theorem allV_take {l : List S24} (h : AllV l) (k : Nat) : AllV (l.take k) := fun c hc => h c (List.mem_of_mem_take hc)
/-- A share's block; its curve's slopes are read in the world where the call began. -/
def ShareIn (w W : World) (b : Nat) (p : S24 × Int) : Prop := ∃ A cap, W.heap[b]? = some (.cells #[.int .i64 p.1.f0, .int .i64 p.1.f1, .slice A p.1.f2.length cap, .int .i64 p.2] 69 (0, 0)) ∧ p.1.f2.length ≤ cap ∧ Kd.C (Kd.int .i64) w A p.1.f2.length p.1.f2
/-- The shares of a call's own. -/
def Own (w W : World) (v : Value) (sh : Shr) : Prop := ∃ bs : List Nat, Kd.R kP 67 W w.heap.size (fun _ => True) v bs ∧ bs.length = sh.length ∧ (∀ i, i < sh.length → ShareIn w W (bs.getD i 0) (sh.getD i zS)) ∧ (∀ b ∈ bs, w.heap.size ≤ b) ∧ bs.Nodup
theorem Own.nil (w W : World) : Own w W (.slice none 0 0) [] := ⟨[], Kd.R_nil _ _ _ _ _, rfl, fun i hi => by simp at hi, fun b hb => by simp at hb, List.nodup_nil⟩
theorem ShareIn.below {w W W' : World} {b : Nat} {p : S24 × Int} (h : ShareIn w W b p) (hb : Below W.heap.size W W') : ShareIn w W' b p := by
  obtain ⟨A, cap, h1, h2, h3⟩ := h
  exact ⟨A, cap, blk_below h1 hb, h2, h3⟩
theorem Own.below {w W W' : World} {v : Value} {sh : Shr} (h : Own w W v sh) (hb : Below W.heap.size W W') : Own w W' v sh := by
  obtain ⟨bs, h1, h2, h3, h4, h5⟩ := h
  exact ⟨bs, Kd.R_below h1 hb, h2, fun i hi => (h3 i hi).below hb, h4, h5⟩
/-- One share more. -/
theorem Own.snoc {w W W' : World} {v v' : Value} {bs : List Nat} {sh : Shr} {p : S24 × Int} {nb : Nat} {A : Option Addr} {cap : Nat}
    (ho : Kd.R kP 67 W w.heap.size (fun _ => True) v bs) (hl : bs.length = sh.length) (hs : ∀ i, i < sh.length → ShareIn w W (bs.getD i 0) (sh.getD i zS)) (hb : ∀ b ∈ bs, w.heap.size ≤ b) (hn : bs.Nodup)
    (hnb : W.heap[nb]? = some (.cells #[.int .i64 p.1.f0, .int .i64 p.1.f1, .slice A p.1.f2.length cap, .int .i64 p.2] 69 (0, 0))) (hcap : p.1.f2.length ≤ cap) (hC : Kd.C (Kd.int .i64) w A p.1.f2.length p.1.f2) (hw : w.heap.size ≤ nb) (hnew : ∀ b ∈ bs, b ≠ nb)
    (hown : W'.ownsRow w.heap.size 67 1 v' (bs.length + 1) (encs (fun b => .pointer (some ⟨b, 0, none⟩)) bs ++ [.pointer (some ⟨nb, 0, none⟩)])) (hg : W.grownBy W' v.ownBlock) : Own w W' v' (sh ++ [p]) := by
  have keep : ∀ (k : Nat) (cs : Array Value), W.heap[k]? = some (Obj.cells cs 69 (0, 0)) → W'.heap[k]? = some (Obj.cells cs 69 (0, 0)) := fun k cs hk => by
    refine (hg.block k (Array.getElem?_eq_some_iff.1 hk).1 (fun e => ?_)).trans hk
    obtain ⟨cells, hc⟩ := own_typed ho.2.choose_spec.1 k e.symm
    rw [hk] at hc
    cases hc
  refine ⟨bs ++ [nb], Kd.R_of_own (by simpa [encs] using hown) (fun _ _ => trivial), by simp [hl], fun i hi => ?_, fun b hb' => ?_, ?_⟩
  · by_cases h : i < sh.length
    · obtain ⟨A', cap', h1, h2, h3⟩ := hs i h
      have e1 : (bs ++ [nb]).getD i 0 = bs.getD i 0 := by rw [List.getD_eq_getElem?_getD, List.getD_eq_getElem?_getD, List.getElem?_append_left (by omega)]
      have e2 : (sh ++ [p]).getD i zS = sh.getD i zS := by rw [List.getD_eq_getElem?_getD, List.getD_eq_getElem?_getD, List.getElem?_append_left (by omega)]
      rw [e1, e2]
      exact ⟨A', cap', keep _ _ h1, h2, h3⟩
    · obtain rfl : i = sh.length := by simp at hi; omega
      have e1 : (bs ++ [nb]).getD sh.length 0 = nb := by rw [List.getD_eq_getElem?_getD, ← hl]; simp
      have e2 : (sh ++ [p]).getD sh.length zS = p := by rw [List.getD_eq_getElem?_getD]; simp
      rw [e1, e2]
      exact ⟨A, cap, keep _ _ hnb, hcap, hC⟩
  · rcases List.mem_append.1 hb' with hb' | hb'
    · exact hb b hb'
    · rw [List.mem_singleton.1 hb']; exact hw
  · rw [List.nodup_append]
    exact ⟨hn, by simp, fun a ha b hb' => by rw [List.mem_singleton.1 hb']; exact hnew a ha⟩
theorem nodup_getD {bs : List Nat} (hn : bs.Nodup) {i j : Nat} (hi : i < bs.length) (hj : j < bs.length) (hij : i ≠ j) : bs.getD i 0 ≠ bs.getD j 0 := by
  rw [List.getD_eq_getElem?_getD, List.getD_eq_getElem?_getD, List.getElem?_eq_getElem hi, List.getElem?_eq_getElem hj]
  simp only [Option.getD_some]
  intro e
  exact hij ((List.getElem_inj hn).1 e)
/-- The share j moves on by one. -/
theorem Own.grow {w W : World} {v : Value} {bs : List Nat} {sh : Shr} {j : Nat} (ho : Kd.R kP 67 W w.heap.size (fun _ => True) v bs) (hl : bs.length = sh.length) (hs : ∀ i, i < sh.length → ShareIn w W (bs.getD i 0) (sh.getD i zS)) (hb : ∀ b ∈ bs, w.heap.size ≤ b) (hn : bs.Nodup) (hj : j < sh.length) :
    Own w (W.setCell ⟨bs.getD j 0, 3, none⟩ (.int .i64 ((sh.getD j zS).2 + 1))) v (growAt sh j) := by
  obtain ⟨A, cap, h1, h2, h3⟩ := hs j hj
  refine ⟨bs, Kd.R_mono (Kd.R_far (p := ⟨bs.getD j 0, 3, none⟩) (Kd.R_types ho h1 (by decide)) (fun _ hk => hk.2) _) (fun _ _ => trivial), by rw [growAt_len]; exact hl, fun i hi => ?_, hb, hn⟩
  rw [growAt_len] at hi
  by_cases e : i = j
  · subst e
    have eg : (growAt sh i).getD i zS = ((sh.getD i zS).1, (sh.getD i zS).2 + 1) := by
      unfold growAt
      rw [List.getD_eq_getElem?_getD, List.getElem?_set_self hj]
      rfl
    rw [eg]
    exact ⟨A, cap, blk_put h1 3 _ rfl, h2, h3⟩
  · have eg : (growAt sh j).getD i zS = sh.getD i zS := by
      unfold growAt
      rw [List.getD_eq_getElem?_getD, List.getElem?_set_ne (fun h => e h.symm), ← List.getD_eq_getElem?_getD]
    rw [eg]
    obtain ⟨A', cap', g1, g2, g3⟩ := hs i hi
    exact ⟨A', cap', (Below.heap_setCell W ⟨bs.getD j 0, 3, none⟩ _ (bs.getD i 0) (nodup_getD hn (by omega) (by omega) e)).trans g1, g2, g3⟩
theorem mkSh_facts : ∀ (l : List S24), AllV l → GoodS (mkSh l) ∧ sumX (mkSh l) = loS l ∧ sumHi (mkSh l) = hiS l
  | [], _ => ⟨fun p hp => (by simp [mkSh] at hp), rfl, rfl⟩
  | c :: t, h => by
    obtain ⟨i1, i2, i3⟩ := mkSh_facts t (fun c hc => h c (List.mem_cons_of_mem _ hc))
    refine ⟨fun p hp => ?_, ?_, ?_⟩
    · rcases List.mem_cons.1 (show p ∈ (c, c.f0) :: mkSh t from hp) with rfl | hp
      · exact ⟨h c List.mem_cons_self, Int.le_refl _, by simp only; omega⟩
      · exact i1 p hp
    · simp only [sumX, mkSh, loS, List.map_cons, List.sum_cons] at i2 ⊢
      rw [i2]
    · simp only [sumHi, mkSh, hiS, List.map_cons, List.sum_cons] at i3 ⊢
      rw [i3]
/-- What is said of the shares while the total is divided. -/
def Mid (l : List S24) (a1 : Int) (n : Nat) (sh : Shr) : Prop := GoodS sh ∧ sumX sh = loS l + n ∧ sumHi sh = hiS l ∧ fillS ((a1 - loS l).toNat - n) sh = fillS (a1 - loS l).toNat (mkSh l)
theorem shares_of {w W : World} {bs : List Nat} {sh : Shr} (hB : Below w.heap.size w W) (hl : bs.length = sh.length) (hs : ∀ i, i < sh.length → ShareIn w W (bs.getD i 0) (sh.getD i zS)) (hg : GoodS sh) : Shares W bs sh :=
  ⟨hl, fun i hi => by
    obtain ⟨A, cap, h1, h2, h3⟩ := hs i hi
    obtain ⟨e, e1, _⟩ := good_off (hg _ (getD_mem sh i hi))
    exact ⟨⟨A, cap, h1, h2, Kd.C_below h3 hB⟩, by rw [e]; exact e1⟩⟩
theorem Mid.step {l : List S24} {a1 : Int} {n : Nat} {sh : Shr} {j : Nat} (h : Mid l a1 n sh) (hlt : loS l + n < a1) (hj : j < sh.length) (hb : (bestTo sh sh.length).1 = (j : Int)) (hx : (sh.getD j zS).2 < (sh.getD j zS).1.f0 + ((sh.getD j zS).1.f2.length : Int)) : Mid l a1 (n + 1) (growAt sh j) := by
  obtain ⟨h1, h2, h3, h4⟩ := h
  obtain ⟨g1, g2⟩ := growAt_sum sh j hj
  refine ⟨growAt_good sh j h1 hj hx, by rw [g1, h2]; push_cast; omega, by rw [g2, h3], ?_⟩
  rw [← h4]
  have e : (a1 - loS l).toNat - n = ((a1 - loS l).toNat - (n + 1)) + 1 := by omega
  rw [e]
  show _ = fillS _ (growAt sh (bestTo sh sh.length).1.toNat)
  rw [hb, Int.toNat_natCast]
theorem shares_new {w W : World} {bs : List Nat} {sh : Shr} {n : Nat} (hl : bs.length = sh.length) (hs : ∀ i, i < sh.length → ShareIn w W (bs.getD i 0) (sh.getD i zS)) (hn : W.heap.size ≤ n) : ∀ b ∈ bs, b ≠ n := by
  intro b hb
  obtain ⟨i, hi, rfl⟩ := List.mem_iff_getElem.1 hb
  obtain ⟨A, cap, h1, _⟩ := hs i (by omega)
  have h2 := (Array.getElem?_eq_some_iff.1 h1).1
  rw [List.getD_eq_getElem?_getD, List.getElem?_eq_getElem hi] at h2
  simp only [Option.getD_some] at h2
  omega
theorem blk_row {W W' : World} {base g : Nat} {v : Value} {bs : List Nat} {cs : Array Value} (hR : Kd.R kP 67 W base (fun _ => True) v bs) (BK : W.heap[g]? = some (.cells cs 24 (0, 0))) (hg : W.grownBy W' v.ownBlock) : W'.heap[g]? = some (.cells cs 24 (0, 0)) := by
  refine (hg.block g (Array.getElem?_eq_some_iff.1 BK).1 (fun e => ?_)).trans BK
  obtain ⟨cells, hc⟩ := own_typed hR.2.choose_spec.1 g e.symm
  rw [BK] at hc
  cases hc
/-- The world behind the box of a curve, the share's block and the literal of one pointer. -/
def box4 (w2 : World) (g : Nat) (x y : Int) (sl : Value) : World := ((((w2.setCell ⟨g, 0, none⟩ (.int .i64 x)).setCell ⟨g, 1, none⟩ (.int .i64 y)).setCell ⟨g, 2, none⟩ sl).alloc (.cells #[.int .i64 x, .int .i64 y, sl, .int .i64 x] 69)).alloc (.cells #[.pointer (some ⟨w2.heap.size, 0, none⟩)] 67)
theorem box4_facts {wr w2 : World} {g : Nat} {x y : Int} {sl a b c : Value} (BL : Below wr.heap.size wr w2) (GE : wr.heap.size ≤ g) (BK : w2.heap[g]? = some (.cells #[a, b, c] 24 (0, 0))) :
    Below wr.heap.size wr (box4 w2 g x y sl) ∧ (box4 w2 g x y sl).heap[g]? = some (.cells #[.int .i64 x, .int .i64 y, sl] 24 (0, 0)) ∧ (box4 w2 g x y sl).heap[w2.heap.size]? = some (.cells #[.int .i64 x, .int .i64 y, sl, .int .i64 x] 69 (0, 0)) ∧ (box4 w2 g x y sl).heap[w2.heap.size + 1]? = some (.cells #[.pointer (some ⟨w2.heap.size, 0, none⟩)] 67 (0, 0)) := by
  unfold box4
  have h3 := blk_put (blk_put (blk_put BK 0 (.int .i64 x) rfl) 1 (.int .i64 y) rfl) 2 sl rfl
  have hb := below_set (j := 2) (v := sl) (below_set (j := 1) (v := .int .i64 y) (below_set (j := 0) (v := .int .i64 x) BL GE) GE) GE
  have hsz : (((w2.setCell ⟨g, 0, none⟩ (.int .i64 x)).setCell ⟨g, 1, none⟩ (.int .i64 y)).setCell ⟨g, 2, none⟩ sl).heap.size = w2.heap.size := by simp [World.setCell]
  generalize ((w2.setCell ⟨g, 0, none⟩ (.int .i64 x)).setCell ⟨g, 1, none⟩ (.int .i64 y)).setCell ⟨g, 2, none⟩ sl = S at h3 hsz hb
  have n1 := blk_new S (.cells #[.int .i64 x, .int .i64 y, sl, .int .i64 x] 69)
  have n2 := blk_new (S.alloc (.cells #[.int .i64 x, .int .i64 y, sl, .int .i64 x] 69)) (.cells #[.pointer (some ⟨w2.heap.size, 0, none⟩)] 67)
  rw [World.size_alloc] at n2
  rw [hsz] at n1 n2
  exact ⟨below_alloc (below_alloc hb _) _, blk_alloc (blk_alloc h3 _) _, blk_alloc n1 _, n2⟩
theorem Own.grown {w W W' : World} {v u : Value} {sh : Shr} {xs : List Int} (h : Own w W v sh) (hu : Kd.R (Kd.int .i64) 3 W w.heap.size (fun _ => True) u xs) (hg : W.grownBy W' u.ownBlock) : Own w W' v sh := by
  obtain ⟨bs, h1, h2, h3, h4, h5⟩ := h
  refine ⟨bs, Kd.R_mono (Kd.R_grown (Kd.R_bound h1) hg (fun k hk => ?_)) (fun _ _ => trivial), h2, fun i hi => ?_, h4, h5⟩
  · obtain ⟨_, _, _, q, hq, cells, hc⟩ := hk
    refine Kd.R_ne hu hc ?_
    rcases List.mem_cons.1 hq with rfl | hq
    · decide
    · exact absurd hq (List.not_mem_nil)
  · obtain ⟨A, cap, g1, g2, g3⟩ := h3 i hi
    exact ⟨A, cap, blk_grown g1 hg (Kd.R_ne hu g1 (by decide)), g2, g3⟩
/-- What Split makes of a list of valid curves. -/
def splitOk (l : List S24) (a1 : Int) : List Int × Int × Int × Int :=
  if a1 < loS l then ([], 0, 0, 10) else if hiS l < a1 then ([], 0, 0, 10) else
    let sh := fillS (a1 - loS l).toNat (mkSh l)
    (sh.map (fun p => p.2), sumTo sh sh.length, priceTo sh sh.length, 0)
def SplitPost (w : World) (r : List Int × Int × Int × Int) (e : Ending) (w' : World) : Prop := ∃ v : Value, e = .returned (.tuple #[v, .int .i64 r.2.1, .int .i64 r.2.2.1, .int .i64 r.2.2.2]) ∧ Kd.R (Kd.int .i64) 3 w' w.heap.size (fun _ => True) v r.1 ∧ Below w.heap.size w w'
theorem SplitPost.err {w W : World} {r : List Int × Int × Int × Int} (n : Int) (hr : r = ([], 0, 0, n)) (hb : Below w.heap.size w W) : SplitPost w r (.returned (.tuple #[.slice none 0 0, .int .i64 0, .int .i64 0, .int .i64 n])) W := by
  subst hr
  exact ⟨_, rfl, Kd.R_nil _ _ _ _ _, hb⟩
theorem SplitPost.ok {w W : World} {r : List Int × Int × Int × Int} {xs : List Int} {a b n : Int} {v : Value} (hr : r = (xs, a, b, n)) (ho : Kd.R (Kd.int .i64) 3 W w.heap.size (fun _ => True) v xs) (hb : Below w.heap.size w W) : SplitPost w r (.returned (.tuple #[v, .int .i64 a, .int .i64 b, .int .i64 n])) W := by
  subst hr
  exact ⟨_, rfl, ho, hb⟩
set_option maxHeartbeats 8000000 in
set_option maxRecDepth 100000 in
theorem curve_Split.go (A0 : Option Addr) (c0 : Nat) (l0 : List S24) (a1 : Int) (w : World) (hr0 : Kd.C k24 w A0 l0.length l0) (hc0 : l0.length ≤ c0) (hn : l0.length ≤ 8) (h0 : 0 < l0.length) (hv : AllV l0) (R : Ending → World → Prop) (hR : ∀ e w', SplitPost w (splitOk l0 a1) e w' → R e w') :
    Calls Try.prog 19 #[.slice A0 l0.length c0, .int .i64 a1] w R := by
  have hz : ((l0.length : Int) == 0) = false := by rw [beq_eq_false_iff_ne]; omega
  have h8 : ¬ (8 : Int) < (l0.length : Int) := by omega
  have hany : l0.any (fun x => !validC x.f0 x.f1 x.f2) = false := by
    rw [List.any_eq_false]
    intro c hc
    rw [hv c hc]
    decide
  have HR := Aside0.mk hr0
  have HN := Aside0.mk hn
  have HV := Aside0.mk hv
  have HRR := Aside0.mk hR
  have HC := Aside0.mk (containsFunc_curve 57 #[] _ enter57 A0 c0 l0 w hr0 (pred_valid w))
  rw [hany] at HC
  clear hr0 hn hv hany hR
  have hu24 := Try.underlying24
  have hu69 := Try.underlying69
  go_enter Try.func19, Try.ntmps19
  go_wp2_with (go_at_call 56; (with_reducible refine HC.out.mono ?_); rintro e w1 ⟨rfl, hb1⟩; have HB1 := Aside0.mk hb1; clear hb1)
  go_loopg [8, 9, 10, 32] l0.length (fun gg v8 v9 v10 v32 wr => ∃ kk : Nat, kk ≤ l0.length ∧ l0.length - kk ≤ gg ∧ v32 = .int .i64 kk ∧ v9 = .int .i64 (loS (l0.take kk)) ∧ v10 = .int .i64 (hiS (l0.take kk)) ∧ Aside0 (Own w wr v8 (mkSh (l0.take kk))) ∧ Aside0 (Below w.heap.size w wr))
  case atStart => exact ⟨0, Nat.zero_le _, by omega, rfl, by simp [loS], by simp [hiS], ⟨Own.nil w w1⟩, HB1⟩
  case round =>
    obtain ⟨kk, hkk, hg, rfl, rfl, rfl, HO, HB⟩ := hrel
    have hm2 : l0.length ≤ 9223372036854775807 := by have := HN.out; omega
    by_cases hlt : kk < l0.length
    · have hltz : (kk : Int) < (l0.length : Int) := by omega
      obtain ⟨ad, A2, c2, e, hx0, hx1, hx2, hl2, hc2⟩ := at_T24 HR.out (kk : Int) (by omega) hltz
      subst e
      have er : rd_T24 l0 (kk : Int) = l0.getD kk z24 := by unfold rd_T24; rw [Int.toNat_natCast]
      rw [er] at hx0 hx1 hx2 hl2 hc2
      rw [Int.toNat_natCast] at hx0 hx1 hx2
      clear er
      generalize hy : l0.getD kk z24 = y at hx0 hx1 hx2 hl2 hc2
      have HY := Aside0.mk hy
      clear hy
      replace hx0 := (HB.out.cell (World.block_lt_of_cell? w _ hx0)).trans hx0
      replace hx1 := (HB.out.cell (World.block_lt_of_cell? w _ hx1)).trans hx1
      replace hx2 := (HB.out.cell (World.block_lt_of_cell? w _ hx2)).trans hx2
      have HL2 := Aside0.mk hl2
      obtain ⟨bs, o1, o2, o3, o4, o5⟩ := HO.out
      obtain ⟨Av, cv, ev⟩ := Kd.R_slice o1
      subst ev
      have O1 := Aside0.mk o1
      have O2 := Aside0.mk o2
      have O3 := Aside0.mk o3
      have O4 := Aside0.mk o4
      have O5 := Aside0.mk o5
      have HC2 := Aside0.mk hc2
      have hbl : bs.length ≤ 8 := by rw [o2]; simp [mkSh]; have := HN.out; omega
      have HBL := Aside0.mk hbl
      obtain ⟨i0, hi, hiz, his, hib⟩ := info_parts info67
      clear o1 o2 o3 o4 o5 hc2 hbl HO
      go_wp2_with (first | ((with_reducible refine gate_dst (N := 12) rfl ?_); refine box_event ?hg (N := 12) ?hd (cs := #[.int .i64 0, .int .i64 0, .slice none 0 0]) (t := 24) ?hr ?_; (case hd => rfl); (case hg => rfl); (case hr => first | (go_simp; done) | (go_simp; rfl)); intro g12 hg12 w2 hbox hb; have BL2 := Aside0.mk hb; have BK2 := Aside0.mk hbox; have GE2 := Aside0.mk (show wr.heap.size ≤ g12 by rw [hg12]; exact Nat.le_refl _); clear hb hg12; have ha0 : w2.cell? ⟨g12, 0, none⟩ = some (.int .i64 0) := (blk_cell hbox 0).trans rfl; have haf0 := blk_frozen hbox 0; have ha1 : w2.cell? ⟨g12, 1, none⟩ = some (.int .i64 0) := (blk_cell hbox 1).trans rfl; have haf1 := blk_frozen hbox 1; have ha2 : w2.cell? ⟨g12, 2, none⟩ = some (.slice none 0 0) := (blk_cell hbox 2).trans rfl; have haf2 := blk_frozen hbox 2; clear hbox) | (at_builtin; have F := box4_facts (x := y.f0) (y := y.f1) (sl := .slice A2 y.f2.length c2) BL2.out GE2.out BK2.out; unfold box4 at F; obtain ⟨F1, F2, F3, F4⟩ := F; refine wpList_append_own _ rfl (.tmp 36) (.tmp 42) 66 rfl w.heap.size 67 i0 (.pointer none) 1 8 Try.underlying66 hi hiz his hib rfl (by decide) _ bs.length (encs (fun b => .pointer (some ⟨b, 0, none⟩)) bs) rfl ?ow ⟨w2.heap.size + 1, 0, none⟩ 1 1 [.pointer (some ⟨w2.heap.size, 0, none⟩)] rfl rfl ?nw (by simp [Value.oneCell']) (by have := HBL.out; unfold maxLen; omega) (by have := HBL.out; omega) ?bb ?_; (case nw => (intro j u h; rcases j with _ | j; (simp at h; subst h; exact (blk_cell F4 0).trans rfl); (simp at h))); (case bb => exact Nat.le_trans HB.out.size F1.size); (case ow => exact Kd.own_of_R (Kd.R_below O1.out F1)); intro v5 w5 hown hg5 _; have HO5 := Aside0.mk (Own.snoc (p := (y, y.f0)) (Kd.R_below O1.out F1) O2.out (fun i hi => (O3.out i hi).below F1) O4.out O5.out F3 HL2.out HC2.out (Nat.le_trans HB.out.size BL2.out.size) (shares_new O2.out O3.out BL2.out.size) hown hg5); have HB5 := Aside0.mk ((below_then HB.out HB.out.size F1).grown hg5 (Nat.le_trans HB.out.size F1.size) (fun k hk => Kd.R_base O1.out k hk)); have BK5 := Aside0.mk (blk_row (Kd.R_below O1.out F1) F2 hg5); clear hown hg5 F1 F2 F3 F4 O1 O2 O3 O4 O5 ha0 ha1 ha2 haf0 haf1 haf2; have hb0 : w5.cell? ⟨g12, 0, none⟩ = some (.int .i64 y.f0) := (blk_cell BK5.out 0).trans rfl; have hb1 : w5.cell? ⟨g12, 1, none⟩ = some (.int .i64 y.f1) := (blk_cell BK5.out 1).trans rfl; have hb2 : w5.cell? ⟨g12, 2, none⟩ = some (.slice A2 y.f2.length c2) := (blk_cell BK5.out 2).trans rfl))
      have hvy : validC y.f0 y.f1 y.f2 = true := by rw [← HY.out]; exact HV.out _ (by rw [List.getD_eq_getElem?_getD, List.getElem?_eq_getElem hlt]; exact List.getElem_mem hlt)
      have hsb := sums_bound (l0.take kk) (allV_take HV.out kk)
      have hlk : (l0.take kk).length ≤ 8 := by rw [List.length_take]; have := HN.out; omega
      obtain ⟨v1, v2, _, _, v5', _⟩ := validC_parts hvy
      have hss := loS_succ l0 kk hlt
      have hmk := mkSh_succ l0 kk hlt
      rw [HY.out] at hss hmk
      have hw1 : IntKind.i64.wrap (loS (l0.take kk) + y.f0) = loS (l0.take (kk + 1)) := by rw [i64_w, hss.1]; unfold wrap64; omega
      have hw2 : IntKind.i64.wrap (hiS (l0.take kk) + wrap64 (y.f0 + (y.f2.length : Int))) = hiS (l0.take (kk + 1)) := by rw [i64_w, hss.2]; unfold wrap64; omega
      have HMK := Aside0.mk hmk
      clear hvy hsb hlk v1 v2 v5' hss hmk
      go_wp2_with (go_at_call 58; (with_reducible refine (curve_to.calls y.f0 y.f1 _ _ y.f2 _ _ (Kd.C_below HC2.out HB5.out) HL2.out rfl).mono ?_); rintro e w6 ⟨rfl, hb6⟩)
      go_roundg (l0.length - (kk + 1))
      case measure => omega
      case rel => exact ⟨kk + 1, by omega, by omega, by go_num, by rw [← i64_w, hw1], rfl, ⟨by rw [HMK.out]; exact HO5.out.below hb6⟩, ⟨below_then HB5.out HB5.out.size hb6⟩⟩
    · have hltz : ¬ (kk : Int) < (l0.length : Int) := by omega
      obtain rfl : kk = l0.length := by omega
      have HLo := Aside0.mk (show loS (l0.take l0.length) = loS l0 by rw [List.take_length])
      rw [HLo.out]
      have HHi := Aside0.mk (show hiS (l0.take l0.length) = hiS l0 by rw [List.take_length])
      rw [HHi.out]
      have HO2 := Aside0.mk (show Own w wr u8 (mkSh l0) by have h := HO.out; rw [List.take_length] at h; exact h)
      clear HO HLo HHi
      by_cases hlo : a1 < loS l0
      · go_wp2
        refine bodyPost_ret (results_list (rs := [.tmp 4, .tmp 5, .tmp 6, .tmp 7]) rfl (by simp) (.tmp (.tmp (.tmp (.tmp .nil))))) rfl ?_
        exact HRR.out _ _ (SplitPost.err 10 (by unfold splitOk; rw [if_pos (by omega)]) HB.out)
      · by_cases hhi : hiS l0 < a1
        · go_wp2
          refine bodyPost_ret (results_list (rs := [.tmp 4, .tmp 5, .tmp 6, .tmp 7]) rfl (by simp) (.tmp (.tmp (.tmp (.tmp .nil))))) rfl ?_
          exact HRR.out _ _ (SplitPost.err 10 (by unfold splitOk; rw [if_neg (by omega), if_pos (by omega)]) HB.out)
        · go_wp2
          have hsb := sums_bound l0 HV.out
          have HSB := Aside0.mk (show -8388608 ≤ loS l0 ∧ hiS l0 ≤ 8389120 by have := HN.out; omega)
          clear hsb
          have HHL := Aside0.mk (show a1 ≤ hiS l0 by omega)
          go_loopg [9] (a1 - loS l0).toNat (fun gg v9 wr => ∃ (n : Nat) (sh : Shr), v9 = .int .i64 (loS l0 + n) ∧ loS l0 + n ≤ a1 ∧ (a1 - loS l0).toNat - n ≤ gg ∧ Aside0 (Own w wr u8 sh) ∧ Aside0 (Below w.heap.size w wr) ∧ Aside0 (Mid l0 a1 n sh))
          case atStart => exact ⟨0, mkSh l0, by simp, by omega, by omega, HO2, HB, ⟨(mkSh_facts l0 HV.out).1, by rw [(mkSh_facts l0 HV.out).2.1]; simp, (mkSh_facts l0 HV.out).2.2, rfl⟩⟩
          case round =>
            obtain ⟨n, sh, rfl, hle, hg, HO, HB, HM⟩ := hrel
            by_cases hlt : loS l0 + n < a1
            · obtain ⟨bs, o1, o2, o3, o4, o5⟩ := HO.out
              obtain ⟨Av, cv, ev⟩ := Kd.R_slice o1
              subst ev
              obtain ⟨m1, m2, m3, m4⟩ := HM.out
              obtain ⟨j, j1, j2, j3⟩ := best_ok sh m1 (by have := HHL.out; omega)
              have hbest := best_calls Av cv bs sh wr (Kd.R_reads' o1).2.2 (shares_of HB.out o2 o3 m1)
              rw [j2] at hbest
              have hgj := m1 _ (getD_mem sh j j1)
              obtain ⟨q1, q2, _, _, q5, _⟩ := validC_parts hgj.1
              have hjb : j < bs.length := by omega
              obtain ⟨adp, ep, hp⟩ := at_P (Kd.R_reads' o1).2.2 j hjb
              subst ep
              obtain ⟨A3, c3, b1, b2, b3⟩ := o3 j j1
              have HM2 := Aside0.mk (HM.out.step hlt j1 j2 j3)
              have HG := Aside0.mk (fun (W' : World) (hbw : Below wr.heap.size wr W') => Own.grow (Kd.R_below o1 hbw) o2 (fun i hi => (o3 i hi).below hbw) o4 o5 j1)
              have HBE := Aside0.mk hbest
              have HP := Aside0.mk hp
              have HK := Aside0.mk b1
              have HBB := Aside0.mk (o4 _ (show bs.getD j 0 ∈ bs by rw [List.getD_eq_getElem?_getD, List.getElem?_eq_getElem hjb]; exact List.getElem_mem hjb))
              have hwx : IntKind.i64.wrap ((sh.getD j zS).2 + 1) = (sh.getD j zS).2 + 1 := by rw [i64_w]; have := hgj.2.1; unfold wrap64; omega
              have hjz : (j : Int) < (bs.length : Int) := by omega
              generalize bs.getD j 0 = b at b1 HG HP HK HBB
              generalize hxx : (sh.getD j zS).2 = x at b1 HG HK hwx
              clear o1 o2 o3 o4 o5 m1 m2 m3 m4 j2 j3 hbest hgj q1 q2 q5 b1 b2 b3 hp HO HM hxx
              go_wp2_with (go_at_call 59; (with_reducible refine HBE.out.mono ?_); rintro e w2 ⟨rfl, hd⟩; have HD2 := Aside0.mk hd.below; have hp2 := (hd.below.cell (World.block_lt_of_cell? _ _ HP.out)).trans HP.out; have BK2 := blk_below HK.out hd.below; have hx3 : w2.cell? ⟨b, 3, none⟩ = some (.int .i64 x) := (blk_cell BK2 3).trans rfl; have hxf := blk_frozen BK2 3; clear hd BK2)
              go_roundg ((a1 - loS l0).toNat - (n + 1))
              case measure => omega
              case rel =>
                have hsb := HSB.out
                have hhl := HHL.out
                exact ⟨n + 1, growAt sh j, by refine congrArg _ ?_; unfold wrap64; push_cast; omega, by omega, by omega, ⟨HG.out w2 HD2.out⟩, ⟨below_set (below_then HB.out HB.out.size HD2.out) HBB.out⟩, HM2⟩
            · have hne : loS l0 + (n : Int) = a1 := by omega
              have hsp : splitOk l0 a1 = (sh.map (fun p => p.2), sumTo sh sh.length, priceTo sh sh.length, 0) := by
                obtain ⟨_, _, _, m4⟩ := HM.out
                rw [show (a1 - loS l0).toNat - n = 0 by omega] at m4
                unfold splitOk
                rw [if_neg (by omega), if_neg (by omega), ← m4]
                rfl
              have HSP := Aside0.mk hsp
              have HGS := Aside0.mk HM.out.1
              have hshl : sh.length = l0.length := by
                obtain ⟨_, _, _, m4⟩ := HM.out
                have h5 := congrArg List.length m4
                rw [fillS_len, fillS_len] at h5
                rw [h5]
                simp [mkSh]
              clear hsp HM HHL HSB
              subst hne
              obtain ⟨bs, o1, o2, o3, o4, o5⟩ := HO.out
              obtain ⟨Av, cv, ev⟩ := Kd.R_slice o1
              subst ev
              have HR67 := Aside0.mk (Kd.R_reads' o1).2.2
              have HS3 := Aside0.mk o3
              have HL := Aside0.mk o2
              have hbl : bs.length ≤ 8 := by rw [o2, hshl]; exact HN.out
              clear o1 o2 o3 o4 o5
              go_wp2_with ((with_reducible refine gate_dst (N := 77) rfl ?_); refine Kd.R_lit (Kd.int .i64) _ 3 ?hg (N := 77) ?hd (xs := ([] : List Int)) (inner := []) (ok := fun _ => True) (okp := fun _ => True) ?hr ?hp (fun _ hk => hk) trivial (Below.refl _ _) (Nat.le_refl _) (by simp) ?_; (case hd => rfl); (case hg => rfl); (case hr => first | (go_simp; done) | (go_simp; rfl)); (case hp => exact Reps.none _ _); intro v1 w3 ho1 hb1 hg1 hn1; clear hg1 hn1; have HX := Aside0.mk (Kd.R_lower ho1 HB.out.size); have HB3 := Aside0.mk (below_then HB.out HB.out.size hb1); have HO3 := Aside0.mk (HO.out.below hb1); clear ho1 hb1)
              have hml : sh.length ≤ 8 := by omega
              clear HR67 hbl hshl
              go_loopg [13, 14, 15, 80] sh.length (fun gg v13 v14 v15 v80 wr => ∃ kk : Nat, kk ≤ sh.length ∧ sh.length - kk ≤ gg ∧ v80 = .int .i64 kk ∧ v14 = .int .i64 (sumTo sh kk) ∧ v15 = .int .i64 (priceTo sh kk) ∧ Aside0 (Kd.R (Kd.int .i64) 3 wr w.heap.size (fun _ => True) v13 ((sh.take kk).map (fun p => p.2))) ∧ Aside0 (Own w wr (.slice Av bs.length cv) sh) ∧ Aside0 (Below w.heap.size w wr))
              case atStart => exact ⟨0, Nat.zero_le _, by omega, rfl, rfl, rfl, HX, HO3, HB3⟩
              case round =>
                clear HX HO3 HB3 HO HB
                obtain ⟨kk, hkk, hg, rfl, rfl, rfl, HX, HO, HB⟩ := hrel
                obtain ⟨bs', o1, o2, o3, o4, o5⟩ := HO.out
                have hbb := Aside0.mk (show bs'.length = bs.length by rw [HL.out, o2])
                by_cases hlt : kk < sh.length
                · have hltz : (kk : Int) < (bs.length : Int) := by have := HL.out; omega
                  obtain ⟨Ab, cb, eb, _, hCb⟩ := Kd.R_reads o1
                  injection eb with eb1 eb2 eb3
                  subst eb1
                  subst eb3
                  clear eb2
                  obtain ⟨adp, ep, hp⟩ := at_P hCb kk (by have := hbb.out; omega)
                  subst ep
                  obtain ⟨A3, c3, b1, b2, b3⟩ := o3 kk hlt
                  have hgj := HGS.out _ (getD_mem sh kk hlt)
                  have hat := at_good hgj
                  have hpr := prices_good hgj 0
                  have HS1 := Aside0.mk (sumTo_succ sh kk hlt)
                  have HS2 := Aside0.mk (priceTo_succ sh kk hlt)
                  have HS4 := Aside0.mk (xs_succ sh kk hlt)
                  generalize bs'.getD kk 0 = b at hp b1
                  generalize atP (sh.getD kk zS) = av at hat HS1
                  generalize loPr (sh.getD kk zS) = lv at hpr HS2
                  generalize hiPr (sh.getD kk zS) = hv2 at hpr
                  generalize hyy : sh.getD kk zS = y at b1 b2 b3 hat hpr HS4 hgj
                  obtain ⟨cv2, x⟩ := y
                  have HAT := Aside0.mk hat
                  have HPR := Aside0.mk hpr
                  have HB2 := Aside0.mk b2
                  have HB3 := Aside0.mk b3
                  have HBK := Aside0.mk b1
                  have hx3 : wr.cell? ⟨b, 3, none⟩ = some (.int .i64 x) := (blk_cell b1 3).trans rfl
                  have hxl : ((sh.take kk).map (fun p => p.2)).length ≤ 8 := by rw [List.length_map, List.length_take]; omega
                  generalize (sh.take kk).map (fun p => p.2) = xs at HX HS4 hxl
                  obtain ⟨Ax, cx, ex⟩ := Kd.R_slice HX.out
                  subst ex
                  have HXL := Aside0.mk hxl
                  obtain ⟨i3, hi3, hiz3, his3, hib3⟩ := info_parts info3
                  clear hat hpr b1 b2 b3 o1 o2 o3 o4 o5 hyy hgj hxl
                  go_wp2_with (at_builtin; (have F := blk_new wr (.cells #[.int .i64 x] 3)); (refine wpList_append_own _ rfl (.tmp 84) (.tmp 89) 22 rfl w.heap.size 3 i3 (.int .i64 0) 1 8 Try.underlying22 hi3 hiz3 his3 hib3 rfl (by decide) _ xs.length (encs (Value.int .i64) xs) rfl ?ow ⟨wr.heap.size, 0, none⟩ 1 1 [.int .i64 x] rfl rfl ?nw (by simp [Value.oneCell']) (by have := HXL.out; unfold maxLen; omega) (by have := HXL.out; omega) ?bb ?_); (case nw => (intro j u h; rcases j with _ | j; (simp at h; subst h; exact (blk_cell F 0).trans rfl); (simp at h))); (case bb => exact Nat.le_trans HB.out.size (below_alloc (Below.refl _ wr) _).size); (case ow => exact Kd.own_of_R (Kd.R_below HX.out (below_alloc (Below.refl _ wr) _))); intro v5 w5 hown hg5 _)
                  have mixed : Try.prog.follows .mixedOrders = true := by kernel_rfl
                  have hba := below_alloc (Below.refl wr.heap.size wr) (.cells #[.int .i64 x] 3)
                  have HX5 := Aside0.mk (show Kd.R (Kd.int .i64) 3 w5 w.heap.size (fun _ => True) v5 (xs ++ [x]) from Kd.R_of_own (by simpa [encs] using hown) (fun _ _ => trivial))
                  have HO5 := Aside0.mk (Own.grown (HO.out.below hba) (Kd.R_below HX.out hba) hg5)
                  have HB5 := Aside0.mk ((below_then HB.out HB.out.size hba).grown hg5 (Nat.le_trans HB.out.size hba.size) (fun k hk => Kd.R_base HX.out k hk))
                  have HK5 := Aside0.mk (blk_grown (blk_below HBK.out hba) hg5 (Kd.R_ne (Kd.R_below HX.out hba) (blk_below HBK.out hba) (by decide)))
                  clear hba hown hg5 HX HO HB HBK hx3
                  have g0 : ∀ p : Bel w5, p.W.cell? ⟨b, 0, none⟩ = some (.int .i64 cv2.f0) := fun p => p.cell ((blk_cell HK5.out 0).trans rfl)
                  have g1 : ∀ p : Bel w5, p.W.cell? ⟨b, 1, none⟩ = some (.int .i64 cv2.f1) := fun p => p.cell ((blk_cell HK5.out 1).trans rfl)
                  have g2 : ∀ p : Bel w5, p.W.cell? ⟨b, 2, none⟩ = some (.slice A3 cv2.f2.length c3) := fun p => p.cell ((blk_cell HK5.out 2).trans rfl)
                  have g3 : ∀ p : Bel w5, p.W.cell? ⟨b, 3, none⟩ = some (.int .i64 x) := fun p => p.cell ((blk_cell HK5.out 3).trans rfl)
                  refine wp_region_bel (by assumption) (by kernel_rfl) ?_
                  repeat (quiet_step ((go_at_call 61; refine Calls.bel_of (curve_at.calls _ _ _ _ _ _ _ _ (Kd.C_below (Kd.C_below HB3.out HB5.out) (Bel.h _)) HB2.out HAT.out))))
                  refine wpQuiet_nil ?_
                  intro wq hw'
                  obtain ⟨pq, hw''⟩ := hw'
                  have hq := Bel.h pq
                  rw [← hw''] at hq
                  clear hw'' pq
                  have HO6 := Aside0.mk (HO5.out.below hq)
                  have HX6 := Aside0.mk (Kd.R_below HX5.out hq)
                  have HB6 := Aside0.mk (below_then HB5.out HB5.out.size hq)
                  have HK6 := Aside0.mk (blk_below HK5.out hq)
                  clear hq g0 g1 g2 g3 HO5 HX5 HB5 HK5
                  have g0 : ∀ p : Bel wq, p.W.cell? ⟨b, 0, none⟩ = some (.int .i64 cv2.f0) := fun p => p.cell ((blk_cell HK6.out 0).trans rfl)
                  have g1 : ∀ p : Bel wq, p.W.cell? ⟨b, 1, none⟩ = some (.int .i64 cv2.f1) := fun p => p.cell ((blk_cell HK6.out 1).trans rfl)
                  have g2 : ∀ p : Bel wq, p.W.cell? ⟨b, 2, none⟩ = some (.slice A3 cv2.f2.length c3) := fun p => p.cell ((blk_cell HK6.out 2).trans rfl)
                  have g3 : ∀ p : Bel wq, p.W.cell? ⟨b, 3, none⟩ = some (.int .i64 x) := fun p => p.cell ((blk_cell HK6.out 3).trans rfl)
                  go_wp2
                  refine wp_region_bel (by assumption) (by kernel_rfl) ?_
                  repeat (quiet_step ((go_at_call 62; refine Calls.bel_of (curve_prices.calls _ _ _ _ _ _ _ _ _ _ (Kd.C_below (Kd.C_below HB3.out HB6.out) (Bel.h _)) HB2.out HPR.out))))
                  refine wpQuiet_nil ?_
                  intro wq hw'
                  obtain ⟨pq, hw''⟩ := hw'
                  have hq := Bel.h pq
                  rw [← hw''] at hq
                  clear hw'' pq
                  have HO7 := Aside0.mk (HO6.out.below hq)
                  have HX7 := Aside0.mk (Kd.R_below HX6.out hq)
                  have HB7 := Aside0.mk (below_then HB6.out HB6.out.size hq)
                  clear hq g0 g1 g2 g3 HO6 HX6 HB6 HK6
                  go_wp2
                  all_goals
                    go_roundg (sh.length - (kk + 1))
                    case measure => omega
                    case rel => exact ⟨kk + 1, by omega, by omega, by go_num, by rw [HS1.out, i64_w], by rw [HS2.out]; first | done | (refine congrArg _ ?_; omega), ⟨by rw [HS4.out]; exact HX7.out⟩, HO7, HB7⟩
                · obtain rfl : kk = sh.length := by omega
                  have hltz : ¬ ((sh.length : Nat) : Int) < (bs.length : Int) := by have := HL.out; omega
                  go_wp2
                  refine bodyPost_ret (results_list (rs := [.tmp 4, .tmp 5, .tmp 6, .tmp 7]) rfl (by simp) (.tmp (.tmp (.tmp (.tmp .nil))))) rfl ?_
                  exact HRR.out _ _ (SplitPost.ok HSP.out (by have h := HX.out; rw [List.take_length] at h; exact h) HB.out)
def splitR (l : List S24) (a1 : Int) : List Int × Int × Int × Int :=
  if 8 < l.length then ([], 0, 0, 3) else if l.length = 0 then ([], 0, 0, 2) else if l.any (fun x => !validC x.f0 x.f1 x.f2) = true then ([], 0, 0, 2) else splitOk l a1
def curve_Split.f (k : Nat) (l : List S24) (a1 : Int) : Option (List Int × Int × Int × Int) := some (splitR l a1)
theorem curve_Split.mono : ∀ a0 a1 k, LeO (curve_Split.f k a0 a1) (curve_Split.f (k + 1) a0 a1) := fun _ _ _ => LeO.refl _
set_option maxHeartbeats 4000000 in
set_option maxRecDepth 100000 in
theorem curve_Split.all (A0 : Option Addr) (c0 : Nat) (l0 : List S24) (a1 : Int) (w : World) (hr0 : Kd.C k24 w A0 l0.length l0) (hc0 : l0.length ≤ c0) (R : Ending → World → Prop) (hR : ∀ e w', SplitPost w (splitR l0 a1) e w' → R e w') :
    Calls Try.prog 19 #[.slice A0 l0.length c0, .int .i64 a1] w R := by
  have HRR := Aside0.mk hR
  clear hR
  by_cases h8 : 8 < l0.length
  · have h8z : (8 : Int) < (l0.length : Int) := by omega
    have e1 : splitR l0 a1 = ([], 0, 0, 3) := by unfold splitR; rw [if_pos h8]
    have E1 := Aside0.mk e1
    clear h8 e1
    go_enter Try.func19, Try.ntmps19
    go_wp2
    refine bodyPost_ret (results_list (rs := [.tmp 4, .tmp 5, .tmp 6, .tmp 7]) rfl (by simp) (.tmp (.tmp (.tmp (.tmp .nil))))) rfl ?_
    exact HRR.out _ _ (SplitPost.err 3 E1.out (Below.refl _ w))
  · have h8z : ¬ (8 : Int) < (l0.length : Int) := by omega
    by_cases h0 : l0.length = 0
    · have hz : ((l0.length : Int) == 0) = true := by rw [beq_iff_eq]; omega
      have e1 : splitR l0 a1 = ([], 0, 0, 2) := by unfold splitR; rw [if_neg h8, if_pos h0]
      have E1 := Aside0.mk e1
      clear h8 e1 h0
      go_enter Try.func19, Try.ntmps19
      go_wp2
      refine bodyPost_ret (results_list (rs := [.tmp 4, .tmp 5, .tmp 6, .tmp 7]) rfl (by simp) (.tmp (.tmp (.tmp (.tmp .nil))))) rfl ?_
      exact HRR.out _ _ (SplitPost.err 2 E1.out (Below.refl _ w))
    · by_cases ha : l0.any (fun x => !validC x.f0 x.f1 x.f2) = true
      · have hz : ((l0.length : Int) == 0) = false := by rw [beq_eq_false_iff_ne]; omega
        have e1 : splitR l0 a1 = ([], 0, 0, 2) := by unfold splitR; rw [if_neg h8, if_neg h0, if_pos ha]
        have E1 := Aside0.mk e1
        have HC := Aside0.mk (containsFunc_curve 57 #[] _ enter57 A0 c0 l0 w hr0 (pred_valid w))
        rw [ha] at HC
        clear h8 e1 h0 ha
        go_enter Try.func19, Try.ntmps19
        go_wp2_with (go_at_call 56; (with_reducible refine HC.out.mono ?_); rintro e w1 ⟨rfl, hb1⟩; have HB1 := Aside0.mk hb1; clear hb1)
        refine bodyPost_ret (results_list (rs := [.tmp 4, .tmp 5, .tmp 6, .tmp 7]) rfl (by simp) (.tmp (.tmp (.tmp (.tmp .nil))))) rfl ?_
        exact HRR.out _ _ (SplitPost.err 2 E1.out HB1.out)
      · have hv : AllV l0 := by
          intro c hc
          have ha2 : l0.any (fun x => !validC x.f0 x.f1 x.f2) = false := Bool.eq_false_iff.mpr ha
          rw [List.any_eq_false] at ha2
          simpa using ha2 c hc
        refine curve_Split.go A0 c0 l0 a1 w hr0 hc0 (by omega) (by omega) hv R (fun e w' hp => HRR.out e w' ?_)
        unfold splitR
        rw [if_neg h8, if_neg h0, if_neg ha]
        exact hp
set_option maxHeartbeats 4000000 in
set_option maxRecDepth 100000 in
theorem curve_Split.calls (k : Nat) (A0 : Option Addr) (c0 : Nat) (l0 : List S24) (a1 : Int) (r1 : List Int) (r2 r3 r4 : Int) (w : World) (hr0 : Kd.C k24 w A0 l0.length l0) (hc0 : l0.length ≤ c0) (h : curve_Split.f k l0 a1 = some (r1, r2, r3, r4)) :
    Calls Try.prog 19 #[.slice A0 l0.length c0, .int .i64 a1] w fun e w' => ∃ v_ : Value, e = .returned (.tuple #[v_, .int .i64 r2, .int .i64 r3, .int .i64 r4]) ∧ Kd.R (Kd.int .i64) 3 w' w.heap.size (fun _ => True) v_ r1 ∧ Below w.heap.size w w' := by
  have hr : splitR l0 a1 = (r1, r2, r3, r4) := Option.some.inj h
  have key : ∀ e w', SplitPost w (splitR l0 a1) e w' → ∃ v_ : Value, e = .returned (.tuple #[v_, .int .i64 r2, .int .i64 r3, .int .i64 r4]) ∧ Kd.R (Kd.int .i64) 3 w' w.heap.size (fun _ => True) v_ r1 ∧ Below w.heap.size w w' := by
    intro e w' hp
    rw [hr] at hp
    exact hp
  exact curve_Split.all A0 c0 l0 a1 w hr0 hc0 _ key
end Go.Proofs.Ytingjpcgehgiiaa.Pr
end
section
namespace Go.Proofs.Ytingjpcgehgiiaa.Pr
open Go.RowKit Go.Proofs.YtingjpcgehgiiaaW.PrintWords Go.Proofs.YtingjpcgehgiiaaW.PrintLast Go.Proofs.YtingjpcgehgiiaaW.PrintMore
set_option linter.unusedVariables false
set_option linter.unusedSimpArgs false
/-- A sum over the first numbers. -/
def sm (f : Nat → Int) : Nat → Int
  | 0 => 0
  | n + 1 => sm f n + f n
theorem sm_shift (f : Nat → Int) : ∀ n, sm f (n + 1) = f 0 + sm (fun i => f (i + 1)) n
  | 0 => by simp [sm]
  | n + 1 => by
    rw [sm, sm_shift f n]
    conv => rhs; rw [sm]
    omega
theorem sm_le {f g : Nat → Int} : ∀ {n : Nat}, (∀ i, i < n → f i ≤ g i) → sm f n ≤ sm g n
  | 0, _ => by simp [sm]
  | n + 1, h => by
    have := sm_le (n := n) fun i hi => h i (by omega)
    have := h n (by omega)
    simp only [sm]
    omega
theorem sm_lt {f g : Nat → Int} : ∀ {n : Nat}, (∀ i, i < n → f i ≤ g i) → (∃ i, i < n ∧ f i < g i) → sm f n < sm g n
  | 0, _, ⟨i, hi, _⟩ => by omega
  | n + 1, h, ⟨i, hi, hlt⟩ => by
    have h1 := sm_le (n := n) fun i hi => h i (by omega)
    have h2 := h n (by omega)
    simp only [sm]
    by_cases e : i = n
    · subst e; omega
    · have := sm_lt (n := n) (fun i hi => h i (by omega)) ⟨i, by omega, hlt⟩
      omega
theorem sm_congr {f g : Nat → Int} {n : Nat} (h : ∀ i, i < n → f i = g i) : sm f n = sm g n := by
  have h1 := sm_le (n := n) (f := f) (g := g) fun i hi => by rw [h i hi]; exact Int.le_refl _
  have h2 := sm_le (n := n) (f := g) (g := f) fun i hi => by rw [h i hi]; exact Int.le_refl _
  omega
theorem sm_same {f g : Nat → Int} {n : Nat} (h : ∀ i, i < n → f i ≤ g i) (he : sm f n = sm g n) (i : Nat) (hi : i < n) : f i = g i := by
  by_cases e : f i = g i
  · exact e
  · have := sm_lt h ⟨i, hi, by have := h i hi; omega⟩
    omega
theorem sm_sub (f g : Nat → Int) : ∀ n, sm (fun i => f i - g i) n = sm f n - sm g n
  | 0 => by simp [sm]
  | n + 1 => by
    simp only [sm]
    rw [sm_sub f g n]
    omega
theorem sm_mul (p : Int) (f : Nat → Int) : ∀ n, sm (fun i => p * f i) n = p * sm f n
  | 0 => by simp [sm]
  | n + 1 => by
    simp only [sm]
    rw [sm_mul p f n, Int.mul_add]
theorem sm_bound {f : Nat → Int} {B : Int} : ∀ {n : Nat}, (∀ i, i < n → -B ≤ f i ∧ f i ≤ B) → -(B * (n : Int)) ≤ sm f n ∧ sm f n ≤ B * (n : Int)
  | 0, _ => by simp [sm]
  | n + 1, h => by
    have h1 := sm_bound (n := n) fun i hi => h i (by omega)
    have h2 := h n (by omega)
    simp only [sm]
    push_cast
    rw [Int.mul_add, Int.mul_one]
    omega
theorem sumX_sm : ∀ sh : Shr, sumX sh = sm (fun i => (sh.getD i zS).2) sh.length
  | [] => rfl
  | p :: t => by
    have e : sumX (p :: t) = p.2 + sumX t := by simp [sumX]
    rw [e, sumX_sm t, List.length_cons, sm_shift]
    rfl
/-- The slopes that are taken, and those that are not. -/
def tk (p : S24 × Int) : List Int := p.1.f2.take (p.2 - p.1.f0).toNat
def dr (p : S24 × Int) : List Int := p.1.f2.drop (p.2 - p.1.f0).toNat
/-- What is taken is not above what is not, and below it if that is in a later curve. -/
def Inv (sh : Shr) : Prop := ∀ i j, i < sh.length → j < sh.length → ∀ s ∈ tk (sh.getD i zS), ∀ t ∈ dr (sh.getD j zS), s ≤ t ∧ (i < j → s < t)
theorem bestTo_min (sh : Shr) : ∀ k, ((bestTo sh k).1 = -1 ∧ ∀ i, i < k → (nextAt sh i).2 = false) ∨ ∃ j, j < k ∧ bestTo sh k = ((j : Int), (nextAt sh j).1) ∧ (nextAt sh j).2 = true ∧ ∀ i, i < k → (nextAt sh i).2 = true → (nextAt sh j).1 ≤ (nextAt sh i).1 ∧ (j < i → (nextAt sh j).1 < (nextAt sh i).1)
  | 0 => .inl ⟨rfl, fun i hi => absurd hi (Nat.not_lt_zero _)⟩
  | k + 1 => by
    have ih := bestTo_min sh k
    have e : bestTo sh (k + 1) = bestStep k (bestTo sh k) (nextAt sh k) := rfl
    rw [e]
    unfold bestStep
    by_cases hc : ((nextAt sh k).2 && (decide ((bestTo sh k).1 < 0) || decide ((nextAt sh k).1 ≤ (bestTo sh k).2))) = true
    · rw [if_pos hc]
      rw [Bool.and_eq_true, Bool.or_eq_true, decide_eq_true_eq, decide_eq_true_eq] at hc
      obtain ⟨h1, h2⟩ := hc
      refine .inr ⟨k, by omega, rfl, h1, fun i hi hn => ?_⟩
      by_cases ei : i = k
      · subst ei; exact ⟨Int.le_refl _, fun h => absurd h (Nat.lt_irrefl _)⟩
      · refine ⟨?_, fun h => by omega⟩
        rcases ih with ⟨m1, m2⟩ | ⟨j, j1, j2, j3, j4⟩
        · have := m2 i (by omega)
          rw [hn] at this
          cases this
        · have h3 := (j4 i (by omega) hn).1
          rw [j2] at h2
          simp only at h2
          omega
    · rw [if_neg hc]
      rw [Bool.and_eq_true, Bool.or_eq_true, decide_eq_true_eq, decide_eq_true_eq] at hc
      rcases ih with ⟨m1, m2⟩ | ⟨j, j1, j2, j3, j4⟩
      · refine .inl ⟨m1, fun i hi => ?_⟩
        by_cases ei : i = k
        · subst ei
          rw [Bool.eq_false_iff]
          exact fun h => hc ⟨h, .inl (by omega)⟩
        · exact m2 i (by omega)
      · refine .inr ⟨j, by omega, j2, j3, fun i hi hn => ?_⟩
        by_cases ei : i = k
        · subst ei
          have : ¬(nextAt sh i).1 ≤ (nextAt sh j).1 := fun h => hc ⟨hn, .inr (by rw [j2]; exact h)⟩
          exact ⟨by omega, fun _ => by omega⟩
        · exact j4 i (by omega) hn
theorem next_good {p : S24 × Int} (h : GoodC p) (hx : p.2 < p.1.f0 + (p.1.f2.length : Int)) : nextR p.1 p.2 = (rd p.1.f2 (p.2 - p.1.f0), true) := by
  obtain ⟨e, h1, h2⟩ := good_off h
  unfold nextR
  rw [e, if_pos (by omega)]
theorem good_vc {p : S24 × Int} (h : GoodC p) : Vc p.1 := h.1
theorem good_in {p : S24 × Int} (h : GoodC p) : inC p.1 p.2 := ⟨h.2.1, h.2.2⟩
/-- The next slope is the least of those that are not taken. -/
theorem dr_head {p : S24 × Int} (h : GoodC p) {t : Int} (ht : t ∈ dr p) : p.2 < p.1.f0 + (p.1.f2.length : Int) ∧ rd p.1.f2 (p.2 - p.1.f0) ≤ t := by
  obtain ⟨e, h1, h2⟩ := good_off h
  obtain ⟨_, _, _, _, _, hs, _⟩ := vc_parts (good_vc h)
  unfold dr at ht
  obtain ⟨i, i1, i2, rfl⟩ := mem_drop_rd ht
  obtain ⟨k, hk⟩ := Int.eq_ofNat_of_zero_le h1
  rw [hk, Int.toNat_natCast] at i1
  refine ⟨by omega, ?_⟩
  rw [hk]
  exact sorted_rd hs i1 i2
theorem best_least {sh : Shr} (hg : GoodS sh) {j : Nat} (hj : j < sh.length) (hb : (bestTo sh sh.length).1 = (j : Int)) : ∀ i, i < sh.length → ∀ t ∈ dr (sh.getD i zS), rd (sh.getD j zS).1.f2 ((sh.getD j zS).2 - (sh.getD j zS).1.f0) ≤ t ∧ (j < i → rd (sh.getD j zS).1.f2 ((sh.getD j zS).2 - (sh.getD j zS).1.f0) < t) := by
  intro i hi t ht
  have gi := hg _ (getD_mem sh i hi)
  have gj := hg _ (getD_mem sh j hj)
  obtain ⟨d1, d2⟩ := dr_head gi ht
  rcases bestTo_min sh sh.length with ⟨m1, m2⟩ | ⟨j', j1, j2, j3, j4⟩
  · omega
  · have ej : j' = j := by rw [j2] at hb; simp only at hb; omega
    subst ej
    have ni := next_good gi d1
    have hnj : (nextAt sh j').1 = rd (sh.getD j' zS).1.f2 ((sh.getD j' zS).2 - (sh.getD j' zS).1.f0) := by
      have h5 : (nextR (sh.getD j' zS).1 (sh.getD j' zS).2).2 = true := j3
      rw [next_more gj, decide_eq_true_eq] at h5
      show (nextR (sh.getD j' zS).1 (sh.getD j' zS).2).1 = _
      rw [next_good gj h5]
    have hni : (nextAt sh i).1 = rd (sh.getD i zS).1.f2 ((sh.getD i zS).2 - (sh.getD i zS).1.f0) := by
      show (nextR (sh.getD i zS).1 (sh.getD i zS).2).1 = _
      rw [ni]
    have hni2 : (nextAt sh i).2 = true := by
      show (nextR (sh.getD i zS).1 (sh.getD i zS).2).2 = _
      rw [ni]
    obtain ⟨q1, q2⟩ := j4 i hi hni2
    rw [hnj, hni] at q1 q2
    exact ⟨by omega, fun h => by have := q2 h; omega⟩
theorem growAt_get (sh : Shr) (j i : Nat) (hj : j < sh.length) : (growAt sh j).getD i zS = if i = j then ((sh.getD j zS).1, (sh.getD j zS).2 + 1) else sh.getD i zS := by
  unfold growAt
  simp only [List.getD_eq_getElem?_getD]
  rw [List.getElem?_set]
  by_cases e : i = j
  · subst e
    rw [if_pos rfl, if_pos rfl, if_pos hj]
    rfl
  · rw [if_neg (fun h => e h.symm), if_neg e]
theorem growAt_fst (sh : Shr) (j : Nat) (hj : j < sh.length) : (growAt sh j).map Prod.fst = sh.map Prod.fst := by
  unfold growAt
  rw [List.map_set]
  apply List.ext_getElem?
  intro i
  rw [List.getElem?_set]
  by_cases e : j = i
  · subst e
    rw [if_pos rfl, if_pos (by simpa using hj), List.getElem?_map, List.getD_eq_getElem?_getD, List.getElem?_eq_getElem hj]
    rfl
  · rw [if_neg e]
theorem inv_step {sh : Shr} (hg : GoodS sh) (hI : Inv sh) {j : Nat} (hj : j < sh.length) (hb : (bestTo sh sh.length).1 = (j : Int)) (hx : (sh.getD j zS).2 < (sh.getD j zS).1.f0 + ((sh.getD j zS).1.f2.length : Int)) : Inv (growAt sh j) := by
  intro i i' hi hi' s hs t ht
  rw [growAt_len] at hi hi'
  have gj := hg _ (getD_mem sh j hj)
  obtain ⟨_, o1, o2⟩ := good_off gj
  obtain ⟨k, hk⟩ := Int.eq_ofNat_of_zero_le o1
  have ht' : t ∈ dr (sh.getD i' zS) := by
    rw [growAt_get sh j i' hj] at ht
    by_cases e : i' = j
    · subst e
      rw [if_pos rfl] at ht
      unfold dr at ht ⊢
      simp only at ht
      obtain ⟨m, m1, m2, rfl⟩ := mem_drop_rd ht
      exact rd_mem_drop (by omega) m2
    · rw [if_neg e] at ht
      exact ht
  have hsor : s ∈ tk (sh.getD i zS) ∨ (i = j ∧ s = rd (sh.getD j zS).1.f2 ((sh.getD j zS).2 - (sh.getD j zS).1.f0)) := by
    rw [growAt_get sh j i hj] at hs
    by_cases e : i = j
    · subst e
      rw [if_pos rfl] at hs
      unfold tk at hs ⊢
      simp only at hs
      obtain ⟨m, m1, m2, rfl⟩ := mem_take_rd hs
      by_cases hm : (m : Int) = (sh.getD i zS).2 - (sh.getD i zS).1.f0
      · exact .inr ⟨rfl, by rw [hm]⟩
      · exact .inl (rd_mem_take (by omega) m2)
    · rw [if_neg e] at hs
      exact .inl hs
  rcases hsor with h | ⟨rfl, rfl⟩
  · exact hI i i' hi hi' s h t ht'
  · exact best_least hg hj hb i' hi' t ht'
theorem fill_spec : ∀ (n : Nat) (sh : Shr), GoodS sh → Inv sh → sumX sh + (n : Int) ≤ sumHi sh → GoodS (fillS n sh) ∧ Inv (fillS n sh) ∧ sumX (fillS n sh) = sumX sh + (n : Int) ∧ (fillS n sh).map Prod.fst = sh.map Prod.fst
  | 0, sh, hg, hI, _ => ⟨hg, hI, by simp [fillS], rfl⟩
  | n + 1, sh, hg, hI, hs => by
    obtain ⟨j, j1, j2, j3⟩ := best_ok sh hg (by omega)
    have e : (bestTo sh sh.length).1.toNat = j := by omega
    have hg2 := growAt_good sh j hg j1 j3
    obtain ⟨g1, g2⟩ := growAt_sum sh j j1
    obtain ⟨a1, a2, a3, a4⟩ := fill_spec n (growAt sh j) hg2 (inv_step hg hI j1 j2 j3) (by omega)
    have ef : fillS (n + 1) sh = fillS n (growAt sh j) := by rw [fillS, e]
    rw [ef]
    exact ⟨a1, a2, by omega, by rw [a4, growAt_fst sh j j1]⟩
theorem mkSh_inv (l : List S24) : Inv (mkSh l) := by
  intro i j hi hj s hs
  unfold mkSh at hs hi
  rw [List.length_map] at hi
  unfold tk at hs
  rw [List.getD_eq_getElem?_getD, List.getElem?_map, List.getElem?_eq_getElem hi] at hs
  simp at hs
theorem mkSh_sums (l : List S24) : sumX (mkSh l) = loS l ∧ sumHi (mkSh l) = hiS l := by
  unfold sumX sumHi mkSh loS hiS
  rw [List.map_map, List.map_map]
  exact ⟨rfl, rfl⟩
theorem mkSh_good' {l : List S24} (h : AllV l) : GoodS (mkSh l) := by
  intro p hp
  unfold mkSh at hp
  obtain ⟨c, hc, rfl⟩ := List.mem_map.1 hp
  exact ⟨h c hc, by simp, by simp; omega⟩
/-- What the division is. -/
structure Div (l : List S24) (a1 : Int) (sh : Shr) : Prop where
  fst : sh.map Prod.fst = l
  good : GoodS sh
  inv : Inv sh
  sum : sumX sh = a1
theorem split_div {l : List S24} {a1 : Int} (h : AllV l) (h1 : loS l ≤ a1) (h2 : a1 ≤ hiS l) : Div l a1 (fillS (a1 - loS l).toNat (mkSh l)) := by
  obtain ⟨s1, s2⟩ := mkSh_sums l
  obtain ⟨a, b, c, d⟩ := fill_spec (a1 - loS l).toNat (mkSh l) (mkSh_good' h) (mkSh_inv l) (by omega)
  refine ⟨?_, a, b, by omega⟩
  rw [d]
  unfold mkSh
  rw [List.map_map]
  exact List.map_id _
theorem Div.len {l : List S24} {a1 : Int} {sh : Shr} (h : Div l a1 sh) : sh.length = l.length := by
  have := congrArg List.length h.fst
  rwa [List.length_map] at this
theorem Div.get {l : List S24} {a1 : Int} {sh : Shr} (h : Div l a1 sh) (i : Nat) (hi : i < l.length) : (sh.getD i zS).1 = l.getD i z24 := by
  have hl := h.len
  rw [← h.fst, List.getD_eq_getElem?_getD, List.getD_eq_getElem?_getD, List.getElem?_map, List.getElem?_eq_getElem (show i < sh.length by omega)]
  rfl
/-- The price. -/
theorem price_spec (sh : Shr) : ∀ k, k ≤ sh.length → (∀ i, i < k → loPr (sh.getD i zS) ≤ priceTo sh k) ∧ -1048576 ≤ priceTo sh k ∧ (priceTo sh k = -1048576 ∨ ∃ i, i < k ∧ priceTo sh k = loPr (sh.getD i zS) ∧ 0 < (sh.getD i zS).2 - (sh.getD i zS).1.f0)
  | 0, _ => ⟨fun i hi => by omega, by simp [priceTo], .inl (by simp [priceTo])⟩
  | k + 1, h => by
    obtain ⟨h1, h2, h3⟩ := price_spec sh k (by omega)
    rw [priceTo_succ sh k (by omega)]
    refine ⟨fun i hi => ?_, by omega, ?_⟩
    · by_cases e : i = k
      · subst e; omega
      · have := h1 i (by omega); omega
    · by_cases hm : loPr (sh.getD k zS) ≤ priceTo sh k
      · rw [show max (priceTo sh k) (loPr (sh.getD k zS)) = priceTo sh k by omega]
        rcases h3 with h3 | ⟨i, i1, i2⟩
        · exact .inl h3
        · exact .inr ⟨i, by omega, i2⟩
      · rw [show max (priceTo sh k) (loPr (sh.getD k zS)) = loPr (sh.getD k zS) by omega]
        refine .inr ⟨k, by omega, rfl, ?_⟩
        by_cases hp : 0 < (sh.getD k zS).2 - (sh.getD k zS).1.f0
        · exact hp
        · unfold loPr at hm
          rw [if_neg hp] at hm
          omega
theorem tk_le {p : S24 × Int} (h : GoodC p) {s : Int} (hs : s ∈ tk p) : s ≤ loPr p := by
  obtain ⟨_, _, _, _, _, hso, _⟩ := vc_parts (good_vc h)
  obtain ⟨_, o1, o2⟩ := good_off h
  unfold tk at hs
  obtain ⟨i, i1, i2, rfl⟩ := mem_take_rd hs
  unfold loPr
  rw [if_pos (by omega)]
  have e : p.2 - p.1.f0 - 1 = (((p.2 - p.1.f0).toNat - 1 : Nat) : Int) := by omega
  rw [e]
  exact sorted_rd hso (by omega) (by omega)
theorem lo_mem {p : S24 × Int} (h : GoodC p) (h0 : 0 < p.2 - p.1.f0) : loPr p ∈ tk p := by
  obtain ⟨_, o1, o2⟩ := good_off h
  unfold loPr tk
  rw [if_pos h0]
  have e : p.2 - p.1.f0 - 1 = (((p.2 - p.1.f0).toNat - 1 : Nat) : Int) := by omega
  rw [e]
  exact rd_mem_take (by omega) (by omega)
theorem Div.price {l : List S24} {a1 : Int} {sh : Shr} (h : Div l a1 sh) : -1048576 ≤ priceTo sh sh.length ∧ priceTo sh sh.length ≤ 1048576 ∧ ∀ i, i < sh.length → (∀ s ∈ tk (sh.getD i zS), s ≤ priceTo sh sh.length) ∧ (∀ t ∈ dr (sh.getD i zS), priceTo sh sh.length ≤ t) := by
  obtain ⟨h1, h2, h3⟩ := price_spec sh sh.length (Nat.le_refl _)
  refine ⟨h2, ?_, fun i hi => ⟨fun s hs => ?_, fun t ht => ?_⟩⟩
  · rcases h3 with h3 | ⟨i, i1, i2, i3⟩
    · omega
    · have g := h.good _ (getD_mem sh i i1)
      obtain ⟨_, _, _, _, _, _, hb⟩ := vc_parts (good_vc g)
      have := hb _ (List.mem_of_mem_take (lo_mem g i3))
      omega
  · have := h1 i hi
    have := tk_le (h.good _ (getD_mem sh i hi)) hs
    omega
  · rcases h3 with h3 | ⟨i', i1, i2, i3⟩
    · have g := h.good _ (getD_mem sh i hi)
      obtain ⟨_, _, _, _, _, _, hb⟩ := vc_parts (good_vc g)
      have := hb _ (List.mem_of_mem_drop ht)
      omega
    · have g := h.good _ (getD_mem sh i' i1)
      have := (h.inv i' i i1 hi _ (lo_mem g i3) t ht).1
      omega
/-- Each share is where its curve is greatest. -/
theorem Div.tight {l : List S24} {a1 : Int} {sh : Shr} (h : Div l a1 sh) (i : Nat) (hi : i < sh.length) : priceTo sh sh.length * (sh.getD i zS).2 - valC (sh.getD i zS).1 (sh.getD i zS).2 = gC (sh.getD i zS).1 (priceTo sh sh.length) := by
  obtain ⟨_, _, h3⟩ := h.price
  obtain ⟨p1, p2⟩ := h3 i hi
  exact young_eq (good_in (h.good _ (getD_mem sh i hi))) p1 p2
theorem Div.cost {l : List S24} {a1 : Int} {sh : Shr} (h : Div l a1 sh) (h8 : sh.length ≤ 8) : ∀ k, k ≤ sh.length → sumTo sh k = sm (fun i => valC (sh.getD i zS).1 (sh.getD i zS).2) k
  | 0, _ => by simp [sumTo, sm]
  | k + 1, hk => by
    have ih := h.cost h8 k (by omega)
    have g := h.good _ (getD_mem sh k (by omega))
    have b := sm_bound (f := fun i => valC (sh.getD i zS).1 (sh.getD i zS).2) (B := 1099578736640) (n := k) fun i hi => by
      have := val_bound (good_vc (h.good _ (getD_mem sh i (by omega)))) (sh.getD i zS).2
      exact this
    have b2 := val_bound (good_vc g) (sh.getD k zS).2
    rw [sumTo_succ sh k (by omega), ih, atP_val g, sm]
    unfold wrap64
    omega
/-- No other division costs less; one that costs asx much comes later. -/
theorem Div.best {l : List S24} {a1 : Int} {sh : Shr} (h : Div l a1 sh) {y : Nat → Int} (hin : ∀ i, i < l.length → inC (l.getD i z24) (y i)) (hy : sm y l.length = a1) :
    sm (fun i => valC (sh.getD i zS).1 (sh.getD i zS).2) sh.length ≤ sm (fun i => valC (l.getD i z24) (y i)) l.length ∧
    (sm (fun i => valC (l.getD i z24) (y i)) l.length = sm (fun i => valC (sh.getD i zS).1 (sh.getD i zS).2) sh.length → ∀ i, i < l.length → (∀ j, j < i → (sh.getD j zS).2 = y j) → (sh.getD i zS).2 ≠ y i → (sh.getD i zS).2 < y i) := by
  have hl := h.len
  have hX := h.sum
  rw [sumX_sm, hl] at hX
  have hyo : ∀ i, i < l.length → priceTo sh sh.length * y i - valC (l.getD i z24) (y i) ≤ gC (l.getD i z24) (priceTo sh sh.length) := fun i hi => young _ (hin i hi)
  have hti : ∀ i, i < l.length → priceTo sh sh.length * (sh.getD i zS).2 - valC (sh.getD i zS).1 (sh.getD i zS).2 = gC (l.getD i z24) (priceTo sh sh.length) := fun i hi => by rw [h.tight i (by omega), h.get i hi]
  have s1 := sm_le hyo
  have s2 := sm_congr hti
  rw [sm_sub, sm_mul, hy] at s1
  rw [sm_sub, sm_mul, hX] at s2
  rw [hl]
  refine ⟨by omega, fun he i hi hb hne => ?_⟩
  have hsame := sm_same hyo (by rw [sm_sub, sm_mul, hy]; omega)
  by_cases hlt : (sh.getD i zS).2 < y i
  · exact hlt
  · exfalso
    have : ∃ i', i < i' ∧ i' < l.length ∧ (sh.getD i' zS).2 < y i' := by
      apply Classical.byContradiction
      intro hno
      have := sm_lt (f := y) (g := fun i => (sh.getD i zS).2) (n := l.length) (fun j hj => by
        by_cases e1 : j < i
        · have := hb j e1
          omega
        · by_cases e2 : j = i
          · subst e2; omega
          · apply Classical.byContradiction
            intro hh
            exact hno ⟨j, by omega, hj, by omega⟩) ⟨i, hi, by omega⟩
      omega
    obtain ⟨i', h1, h2, h3⟩ := this
    have gi := h.good _ (getD_mem sh i (by omega))
    have gi' := h.good _ (getD_mem sh i' (by omega))
    have c1 := young_conv (hin i hi) (hsame i hi)
    have c2 := young_conv (hin i' h2) (hsame i' h2)
    have yi := hin i hi
    have yi' := hin i' h2
    rw [← h.get i hi] at c1 yi
    rw [← h.get i' h2] at c2 yi'
    obtain ⟨yi1, yi2⟩ := yi
    obtain ⟨yj1, yj2⟩ := yi'
    obtain ⟨_, gi1, gi2⟩ := gi
    obtain ⟨_, gj1, gj2⟩ := gi'
    have a1 : rd (sh.getD i zS).1.f2 (((y i - (sh.getD i zS).1.f0).toNat : Nat) : Int) ∈ tk (sh.getD i zS) := rd_mem_take (by omega) (by omega)
    have a2 := c1.2 _ (rd_mem_drop (l := (sh.getD i zS).1.f2) (k := (y i - (sh.getD i zS).1.f0).toNat) (i := (y i - (sh.getD i zS).1.f0).toNat) (Nat.le_refl _) (by omega))
    have b1 : rd (sh.getD i' zS).1.f2 ((((sh.getD i' zS).2 - (sh.getD i' zS).1.f0).toNat : Nat) : Int) ∈ dr (sh.getD i' zS) := rd_mem_drop (Nat.le_refl _) (by omega)
    have b2 := c2.1 _ (rd_mem_take (l := (sh.getD i' zS).1.f2) (k := (y i' - (sh.getD i' zS).1.f0).toNat) (i := ((sh.getD i' zS).2 - (sh.getD i' zS).1.f0).toNat) (by omega) (by omega))
    have := (h.inv i i' (by omega) (by omega) _ a1 _ b1).2 h1
    omega
end Go.Proofs.Ytingjpcgehgiiaa.Pr
end
section
namespace Go.Proofs.Ytingjpcgehgiiaa.Pr
open Go.RowKit Go.Proofs.YtingjpcgehgiiaaW.PrintWords Go.Proofs.YtingjpcgehgiiaaW.PrintLast Go.Proofs.YtingjpcgehgiiaaW.PrintMore
set_option linter.unusedVariables false
set_option linter.unusedSimpArgs false
/-- The join of the curves up to one. -/
def chn (l : List S24) : Nat → S24
  | 0 => l.getD 0 z24
  | k + 1 => joinC (chn l k) (l.getD (k + 1) z24)
theorem chn_gC (l : List S24) (p : Int) : ∀ k, gC (chn l k) p = sm (fun i => gC (l.getD i z24) p) (k + 1)
  | 0 => by simp [chn, sm]
  | k + 1 => by
    rw [chn, gC_join, chn_gC l p k]
    rfl
theorem chn_in (l : List S24) (x : Nat → Int) : ∀ k, (∀ i, i ≤ k → inC (l.getD i z24) (x i)) → inC (chn l k) (sm x (k + 1)) ∧ valC (chn l k) (sm x (k + 1)) ≤ sm (fun i => valC (l.getD i z24) (x i)) (k + 1)
  | 0, h => by
    have := h 0 (Nat.le_refl _)
    simp only [chn, sm, Int.zero_add]
    exact ⟨this, Int.le_refl _⟩
  | k + 1, h => by
    obtain ⟨h1, h2⟩ := chn_in l x k fun i hi => h i (by omega)
    have h3 := h (k + 1) (Nat.le_refl _)
    have e : sm x (k + 1 + 1) = sm x (k + 1) + x (k + 1) := rfl
    have e2 : sm (fun i => valC (l.getD i z24) (x i)) (k + 1 + 1) = sm (fun i => valC (l.getD i z24) (x i)) (k + 1) + valC (l.getD (k + 1) z24) (x (k + 1)) := rfl
    rw [chn, e, e2]
    have h4 := join_le h1 h3
    exact ⟨join_in h1 h3, by omega⟩
/-- At the total it is the cost. -/
theorem chn_cost {l : List S24} {a1 : Int} {sh : Shr} (h : Div l a1 sh) (h8 : l.length ≤ 8) {k : Nat} (hk : l.length = k + 1) : inC (chn l k) a1 ∧ valC (chn l k) a1 = sumTo sh sh.length := by
  have hl := h.len
  have hX := h.sum
  rw [sumX_sm, hl] at hX
  have hx : ∀ i, i ≤ k → inC (l.getD i z24) (sh.getD i zS).2 := fun i hi => by
    rw [← h.get i (by omega)]
    exact good_in (h.good _ (getD_mem sh i (by omega)))
  obtain ⟨h1, h2⟩ := chn_in l (fun i => (sh.getD i zS).2) k hx
  rw [← hk] at h1 h2
  rw [hX] at h1 h2
  have hc := h.cost (by omega) sh.length (Nat.le_refl _)
  rw [hl] at hc
  have e1 : sm (fun i => valC (l.getD i z24) (sh.getD i zS).2) l.length = sm (fun i => valC (sh.getD i zS).1 (sh.getD i zS).2) l.length := sm_congr fun i hi => by rw [h.get i hi]
  have hti : ∀ i, i < l.length → priceTo sh sh.length * (sh.getD i zS).2 - valC (sh.getD i zS).1 (sh.getD i zS).2 = gC (l.getD i z24) (priceTo sh sh.length) := fun i hi => by
    rw [h.tight i (by omega), h.get i hi]
  have s2 := sm_congr hti
  rw [sm_sub, sm_mul, hX] at s2
  have hg := chn_gC l (priceTo sh sh.length) k
  rw [← hk] at hg
  have hy := young (priceTo sh sh.length) h1
  rw [hl] at s2 hg hy ⊢
  exact ⟨h1, by omega⟩
end Go.Proofs.Ytingjpcgehgiiaa.Pr
end
section
namespace Go.Proofs.Ytingjpcgehgiiaa.Pr
open Go.RowKit Go.ChangeShapes Go.WideShapes Go.Deep Go.Joins Go.Proofs.YtingjpcgehgiiaaW.PrintWords Go.Proofs.YtingjpcgehgiiaaW.PrintLast Go.Proofs.YtingjpcgehgiiaaW.PrintMore
set_option linter.unusedVariables false
set_option linter.unusedSimpArgs false
section
variable {H : Type} {enc : TypeId × Value → H} {W : World}
/-- All numbers of a curve are int64s. -/
def okC (x : S24) : Prop := (Lit.int .i64 x.f0).wf = true ∧ (Lit.int .i64 x.f1).wf = true ∧ ∀ s ∈ x.f2, (Lit.int .i64 s).wf = true
set_option maxRecDepth 100000 in
theorem nums_fuel {fuel : Nat} {v : Value} {y : DataW H × List MemPlace} (hf : DataW.trod enc Try.prog W 0 (fun _ => true) true fuel 22 [v] = some y) :
    ∃ (a : Option Addr) (cap : Nat) (l : List Int), v = .slice a l.length cap ∧ l.length ≤ cap ∧ Kd.C (Kd.int .i64) W a l.length l ∧ ∀ x ∈ l, (Lit.int .i64 x).wf = true := by
  rcases open_slice Try.underlying22 hf with ⟨hcs, _⟩ | ⟨ad, len, cap, m, n, D, Pl, hcs, _, hl, hm, hmm, _, hi⟩
  · simp at hcs
    subst hcs
    exact ⟨none, 0, [], rfl, by simp, ⟨rfl, by simp, fun h => absurd h (by simp)⟩, fun x hx => absurd hx (by simp)⟩
  · simp at hcs
    subst hcs
    have hC : Try.prog.cellsOf 3 = 1 := by kernel_rfl
    have key : ∀ i, i < len → ∃ x : Int, (Lit.int .i64 x).wf = true ∧ W.cell? (ad.add i) = some (.int .i64 x) := by
      intro i hil
      obtain ⟨cs', hc, ht'⟩ := hi i (by rw [hmm]; simp; omega)
      rw [hC] at hc
      obtain ⟨_, hcl, hat⟩ := World.cells?_some hc
      match cs', hcl with
      | [c0], _ =>
        obtain ⟨a0, e0, _, w0⟩ := DataW.trod_int Try.underlying3 ht'
        simp at e0
        subst e0
        have h0 := hat 0 (by omega)
        rw [Deep.add_add] at h0
        exact ⟨a0, w0, by simpa using h0⟩
    obtain ⟨f, hf⟩ := choose_lt key
    refine ⟨some ad, cap, (List.range len).map f, by simp, by simpa using hl, ⟨by simp, by simp; simp only [maxLen] at hm; omega, fun _ => ⟨ad, rfl, fun j x hj => ?_⟩⟩, ?_⟩
    · obtain ⟨hjl, hx⟩ := List.getElem?_eq_some_iff.1 hj
      have hjl' : j < len := by simpa using hjl
      simp at hx
      subst hx
      obtain ⟨_, h0⟩ := hf j hjl'
      refine ⟨[.int .i64 (f j)], rfl, rfl, fun i u hu => ?_⟩
      match i, hu with
      | 0, hu => simp at hu; subst hu; simpa [show (Kd.int .i64).sz = 1 from rfl] using h0
      | i + 1, hu => simp at hu
    · intro x hx
      obtain ⟨j, hj, rfl⟩ := List.mem_map.1 hx
      exact (hf j (by simpa using hj)).1
set_option maxRecDepth 100000 in
theorem open_curves {a : Option Addr} {len cap : Nat} {d : DataW H} {p : List MemPlace} (h : DataW.Trod enc Try.prog W 0 (fun _ => true) true 34 (.slice a len cap) d p) :
    ∃ l : List S24, l.length = len ∧ l.length ≤ cap ∧ Kd.C k24 W a l.length l ∧ ∀ x ∈ l, okC x := by
  obtain ⟨fuel, hf⟩ := h
  rcases open_slice Try.underlying34 hf with ⟨hcs, _⟩ | ⟨ad, len', cap', m, n, D, Pl, hcs, _, hl, hm, hmm, _, hi⟩
  · simp [Value.cells] at hcs
    obtain ⟨rfl, rfl, rfl⟩ := hcs
    exact ⟨[], rfl, by simp, ⟨rfl, by simp, fun h => absurd h (by simp)⟩, fun x hx => absurd hx (by simp)⟩
  · simp [Value.cells] at hcs
    obtain ⟨rfl, rfl, rfl⟩ := hcs
    have hC : Try.prog.cellsOf 24 = 3 := by kernel_rfl
    have key : ∀ i, i < len → ∃ x : S24, okC x ∧ ∃ cs, k24.K W x cs ∧ cs.length = 3 ∧ ∀ j u, cs[j]? = some u → W.cell? (ad.add (i * 3 + j)) = some u := by
      intro i hil
      obtain ⟨cs', hc, ht'⟩ := hi i (by rw [hmm]; simp; omega)
      rw [hC] at hc
      obtain ⟨ys, n', hn', hy, hlen, hyl, hfd⟩ := DataW.trod_struct Try.underlying24 ht'
      obtain ⟨_, hcl, hat⟩ := World.cells?_some hc
      match cs', hcl with
      | [c0, c1, c2], _ =>
        have k3 : Try.prog.cellsOf 3 = 1 := by kernel_rfl
        have k22 : Try.prog.cellsOf 22 = 1 := by kernel_rfl
        obtain ⟨y0, hy0⟩ : ∃ y, ys[0]? = some y := ⟨_, List.getElem?_eq_getElem (by rw [hyl]; decide)⟩
        obtain ⟨y1, hy1⟩ : ∃ y, ys[1]? = some y := ⟨_, List.getElem?_eq_getElem (by rw [hyl]; decide)⟩
        obtain ⟨y2, hy2⟩ : ∃ y, ys[2]? = some y := ⟨_, List.getElem?_eq_getElem (by rw [hyl]; decide)⟩
        have g0 := hfd 0 _ rfl
        have g1 := hfd 1 _ rfl
        have g2 := hfd 2 _ rfl
        dsimp only [List.getElem_toArray, List.getElem_cons_zero, List.getElem_cons_succ] at g0 g1 g2
        rw [k3, hy0] at g0
        rw [k3, hy1] at g1
        rw [k22, hy2] at g2
        simp only [List.drop_zero, List.drop_succ_cons, List.take_succ_cons, List.take_zero] at g0 g1 g2
        obtain ⟨a0, e0, _, w0⟩ := DataW.trod_int Try.underlying3 g0
        obtain ⟨a1, e1, _, w1⟩ := DataW.trod_int Try.underlying3 g1
        obtain ⟨a2, cap2, l2, e2, h1, h2, h3⟩ := nums_fuel g2
        simp at e0 e1
        subst e0 e1 e2
        refine ⟨⟨a0, a1, l2⟩, ⟨w0, w1, h3⟩, _, k24_mk W ⟨a0, a1, l2⟩ h1 h2, rfl, fun j u hu => ?_⟩
        have hj : j < 3 := (List.getElem?_eq_some_iff.1 hu).1
        have h := hat j (by omega)
        rw [Deep.add_add] at h
        rw [h]
        exact hu
    obtain ⟨f, hf⟩ := @choose_lt S24 ⟨z24⟩ _ _ key
    refine ⟨(List.range len).map f, by simp, by simpa using hl, ⟨by simp, by simp; simp only [maxLen] at hm; omega, fun _ => ⟨ad, rfl, fun j x hj => ?_⟩⟩, ?_⟩
    · obtain ⟨hjl, hx⟩ := List.getElem?_eq_some_iff.1 hj
      have hjl' : j < len := by simpa using hjl
      simp at hx
      subst hx
      obtain ⟨_, cs, hk, hcl, hcell⟩ := hf j hjl'
      exact ⟨cs, hcl, hk, hcell⟩
    · intro x hx
      obtain ⟨j, hj, rfl⟩ := List.mem_map.1 hx
      exact (hf j (by simpa using hj)).1
end
end Go.Proofs.Ytingjpcgehgiiaa.Pr
end
section
namespace Go.Proofs.Ytingjpcgehgiiaa.Pr
open Go.RowKit Go.Proofs.YtingjpcgehgiiaaW.PrintWords Go.Proofs.YtingjpcgehgiiaaW.PrintLast Go.Proofs.YtingjpcgehgiiaaW.PrintMore
set_option linter.unusedVariables false
set_option linter.unusedSimpArgs false
theorem C_lit {W : World} {g : Nat} (xs : List Int) (h : W.heap[g]? = some (.cells ((xs.map (Value.int .i64)).toArray) 3 (0, 0))) (hl : xs.length ≤ 9223372036854775807) : Kd.C (Kd.int .i64) W (some ⟨g, 0, none⟩) xs.length xs := by
  refine ⟨rfl, hl, fun _ => ⟨_, rfl, fun j p hp => ⟨[.int .i64 p], rfl, rfl, fun i u hu => ?_⟩⟩⟩
  rcases i with _ | i
  · simp at hu
    subst hu
    have hc := blk_cell h j
    have e : (⟨g, 0, none⟩ : Addr).add (j * 1 + 0) = ⟨g, j, none⟩ := by simp [Addr.add]; intro h; exact h.symm
    show W.cell? ((⟨g, 0, none⟩ : Addr).add (j * 1 + 0)) = _
    rw [e, hc]
    simp [hp]
  · simp at hu
/-- A literal of curves: their cells one behind the other. -/
theorem C_lit24 {W : World} {g : Nat} (c1 c2 : S24) (A1 A2 : Option Addr) (n1 n2 : Nat) (h : W.heap[g]? = some (.cells #[.int .i64 c1.f0, .int .i64 c1.f1, .slice A1 c1.f2.length n1, .int .i64 c2.f0, .int .i64 c2.f1, .slice A2 c2.f2.length n2] 24 (0, 0)))
    (l1 : c1.f2.length ≤ n1) (l2 : c2.f2.length ≤ n2) (h1 : Kd.C (Kd.int .i64) W A1 c1.f2.length c1.f2) (h2 : Kd.C (Kd.int .i64) W A2 c2.f2.length c2.f2) : Kd.C k24 W (some ⟨g, 0, none⟩) 2 [c1, c2] := by
  refine ⟨rfl, by omega, fun _ => ⟨_, rfl, fun j p hp => ?_⟩⟩
  rcases j with _ | _ | j
  · simp at hp
    subst hp
    refine ⟨_, rfl, k24_mk W c1 l1 h1, fun i u hu => ?_⟩
    have hc := blk_cell h i
    have e : (⟨g, 0, none⟩ : Addr).add (0 * 3 + i) = ⟨g, i, none⟩ := by simp [Addr.add]; intro h; exact h.symm
    show W.cell? ((⟨g, 0, none⟩ : Addr).add (0 * 3 + i)) = _
    rw [e, hc]
    rcases i with _ | _ | _ | i
    · simpa using hu
    · simpa using hu
    · simpa using hu
    · simp at hu
  · simp at hp
    subst hp
    refine ⟨_, rfl, k24_mk W c2 l2 h2, fun i u hu => ?_⟩
    have hc := blk_cell h (3 + i)
    have e : (⟨g, 0, none⟩ : Addr).add ((0 + 1) * 3 + i) = ⟨g, 3 + i, none⟩ := by simp [Addr.add]
    show W.cell? ((⟨g, 0, none⟩ : Addr).add ((0 + 1) * 3 + i)) = _
    rw [e, hc]
    rcases i with _ | _ | _ | i
    · simpa using hu
    · simpa using hu
    · simpa using hu
    · simp at hu
  · simp at hp
end Go.Proofs.Ytingjpcgehgiiaa.Pr
end
