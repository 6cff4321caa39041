/- What the proof of the law needs, trimmed and merged by wip/pack.py out of the texts YtingjpcgehgiiaaPrx15, YtingjpcgehgiiaaRmk. No condition. -/
import Derived.Test.YtingjpcgehgiiaaKCurveMakes0
import Derived.Test.YtingjpcgehgiiaaKCurveMakes1
import Derived.Test.YtingjpcgehgiiaaKCurveMakes2
import Derived.Test.YtingjpcgehgiiaaKCurveMakes3
import Derived.Test.YtingjpcgehgiiaaKCurveMakes4
import Derived.Test.YtingjpcgehgiiaaKCurveMakes5
import Derived.Test.YtingjpcgehgiiaaKCurveMakes6
section
namespace Go.Proofs.Ytingjpcgehgiiaa.Pr
open Go.RowKit Go.Proofs.YtingjpcgehgiiaaW.PrintWords Go.Proofs.YtingjpcgehgiiaaW.PrintLast Go.Proofs.YtingjpcgehgiiaaW.PrintMore
attribute [local go_sem] max2_int min2_int max_two min_two max_three min_three max_four min_four   -- for this text's walks alone
set_option linter.unusedVariables false
set_option linter.unusedSimpArgs false
mutual
def kimberliteref03_Part.l0 : Nat → Int → Int → Int → Int → List Int → Int → List Int → Option (Int × Int × List Int × Int)
 | 0, _, _, _, _, _, _, _ => none
 | k + 1, x1, x2, x10, x339000, x339001, x340000, x340001 => (kimberliteref03_Row_To.f x339000 x339001).bind fun t340 => (if x10 ≤ t340 then (if x10 < x1 then (kimberliteref03_Part.j1 k x1 x2 x10 true x339000 x339001 x340000 x340001) else (kimberliteref03_Part.j1 k x1 x2 x10 (decide (x10 > x2)) x339000 x339001 x340000 x340001)) else (if (x340001.length : Int) = 0 then (some (0, 0, ([] : List Int), 6)) else ((kimberliteref03_ranged.f k x340000 x340001).bind fun bt345 => (some (bt345.1, bt345.2.1, bt345.2.2.1, bt345.2.2.2)))))
def kimberliteref03_Part.j1 : Nat → Int → Int → Int → Bool → Int → List Int → Int → List Int → Option (Int × Int × List Int × Int)
 | 0, _, _, _, _, _, _, _, _ => none
 | k + 1, x1, x2, x10, x33, x339000, x339001, x340000, x340001 => if x33 = true then (kimberliteref03_Part.l0 k x1 x2 (wrap64 (x10 + 1)) x339000 x339001 x340000 x340001) else (if (x340001.length : Int) = 0 then (kimberliteref03_Part.j2 k x1 x2 x10 x339000 x339001 x10 x340001) else (kimberliteref03_Part.j2 k x1 x2 x10 x339000 x339001 x340000 x340001))
def kimberliteref03_Part.j2 : Nat → Int → Int → Int → Int → List Int → Int → List Int → Option (Int × Int × List Int × Int)
 | 0, _, _, _, _, _, _, _ => none
 | k + 1, x1, x2, x10, x339000, x339001, x340000, x340001 => (kimberliteref03_Row_Value.f x339000 x339001 x10).bind fun t341 => (if x340001.length < 17592186044416 then (kimberliteref03_Part.l0 k x1 x2 (wrap64 (x10 + 1)) x339000 x339001 x340000 (x340001 ++ [t341])) else (none))
end
def kimberliteref03_Part.f (k : Nat) (a0_0 : Int) (a0_1 : Int) (l0_2 : List Int) (a1 : Int) (a2 : Int) : Option (Int × Int × List Int × Int) := (kimberliteref03_Valid.f k a0_0 a0_1 l0_2).bind fun t333 => (if t333 = true then ((kimberliteref03_Out.f k a0_0 a0_1 l0_2).bind fun bt334 => (kimberliteref03_Part.l0 k a1 a2 bt334.1 bt334.1 bt334.2 0 ([] : List Int))) else (some (0, 0, ([] : List Int), 2)))
theorem kimberliteref03_Part.mono_l : ∀ k, (∀ y0 y1 y2 y3 y4 y5 y6, LeO (kimberliteref03_Part.l0 k y0 y1 y2 y3 y4 y5 y6) (kimberliteref03_Part.l0 (k + 1) y0 y1 y2 y3 y4 y5 y6)) ∧ (∀ y0 y1 y2 y3 y4 y5 y6 y7, LeO (kimberliteref03_Part.j1 k y0 y1 y2 y3 y4 y5 y6 y7) (kimberliteref03_Part.j1 (k + 1) y0 y1 y2 y3 y4 y5 y6 y7)) ∧ (∀ y0 y1 y2 y3 y4 y5 y6, LeO (kimberliteref03_Part.j2 k y0 y1 y2 y3 y4 y5 y6) (kimberliteref03_Part.j2 (k + 1) y0 y1 y2 y3 y4 y5 y6))
 | 0 => ⟨fun _ _ _ _ _ _ _ r h => by simp [kimberliteref03_Part.l0] at h, fun _ _ _ _ _ _ _ _ r h => by simp [kimberliteref03_Part.j1] at h, fun _ _ _ _ _ _ _ r h => by simp [kimberliteref03_Part.j2] at h⟩
 | k + 1 => by
  obtain ⟨ih0, ih1, ih2⟩ := kimberliteref03_Part.mono_l k; refine ⟨?_, ?_, ?_⟩
  · intro y0 y1 y2 y3 y4 y5 y6; unfold kimberliteref03_Part.l0
    repeat' first
    | (with_reducible exact ih0 _ _ _ _ _ _ _)
    | (with_reducible exact ih1 _ _ _ _ _ _ _ _)
    | (with_reducible exact ih2 _ _ _ _ _ _ _)
    | (with_reducible exact kimberliteref03_Out.mono _ _ _ _)
    | (with_reducible exact kimberliteref03_Valid.mono _ _ _ _)
    | (with_reducible exact kimberliteref03_ranged.mono _ _ _)
    | (with_reducible exact LeO.refl _)
    | (with_reducible exact LeO.none _)
    | (with_reducible refine LeO.ite ?_ ?_)
    | (with_reducible refine LeO.bind ?_ (fun _ => ?_))
    | exact ih0 _ _ _ _ _ _ _
    | exact ih1 _ _ _ _ _ _ _ _
    | exact ih2 _ _ _ _ _ _ _
    | exact kimberliteref03_Out.mono _ _ _ _
    | exact kimberliteref03_Valid.mono _ _ _ _
    | exact kimberliteref03_ranged.mono _ _ _
    | exact LeO.none _
    | refine LeO.ite ?_ ?_
    | refine LeO.bind ?_ (fun _ => ?_)
  · intro y0 y1 y2 y3 y4 y5 y6 y7; unfold kimberliteref03_Part.j1
    repeat' first
    | (with_reducible exact ih0 _ _ _ _ _ _ _)
    | (with_reducible exact ih1 _ _ _ _ _ _ _ _)
    | (with_reducible exact ih2 _ _ _ _ _ _ _)
    | (with_reducible exact kimberliteref03_Out.mono _ _ _ _)
    | (with_reducible exact kimberliteref03_Valid.mono _ _ _ _)
    | (with_reducible exact kimberliteref03_ranged.mono _ _ _)
    | (with_reducible exact LeO.refl _)
    | (with_reducible exact LeO.none _)
    | (with_reducible refine LeO.ite ?_ ?_)
    | (with_reducible refine LeO.bind ?_ (fun _ => ?_))
    | exact ih0 _ _ _ _ _ _ _
    | exact ih1 _ _ _ _ _ _ _ _
    | exact ih2 _ _ _ _ _ _ _
    | exact kimberliteref03_Out.mono _ _ _ _
    | exact kimberliteref03_Valid.mono _ _ _ _
    | exact kimberliteref03_ranged.mono _ _ _
    | exact LeO.none _
    | refine LeO.ite ?_ ?_
    | refine LeO.bind ?_ (fun _ => ?_)
  · intro y0 y1 y2 y3 y4 y5 y6; unfold kimberliteref03_Part.j2
    repeat' first
    | (with_reducible exact ih0 _ _ _ _ _ _ _)
    | (with_reducible exact ih1 _ _ _ _ _ _ _ _)
    | (with_reducible exact ih2 _ _ _ _ _ _ _)
    | (with_reducible exact kimberliteref03_Out.mono _ _ _ _)
    | (with_reducible exact kimberliteref03_Valid.mono _ _ _ _)
    | (with_reducible exact kimberliteref03_ranged.mono _ _ _)
    | (with_reducible exact LeO.refl _)
    | (with_reducible exact LeO.none _)
    | (with_reducible refine LeO.ite ?_ ?_)
    | (with_reducible refine LeO.bind ?_ (fun _ => ?_))
    | exact ih0 _ _ _ _ _ _ _
    | exact ih1 _ _ _ _ _ _ _ _
    | exact ih2 _ _ _ _ _ _ _
    | exact kimberliteref03_Out.mono _ _ _ _
    | exact kimberliteref03_Valid.mono _ _ _ _
    | exact kimberliteref03_ranged.mono _ _ _
    | exact LeO.none _
    | refine LeO.ite ?_ ?_
    | refine LeO.bind ?_ (fun _ => ?_)
theorem kimberliteref03_Part.mono : ∀ a0 a1 a2 a3 a4 k, LeO (kimberliteref03_Part.f k a0 a1 a2 a3 a4) (kimberliteref03_Part.f (k + 1) a0 a1 a2 a3 a4) := by
 intro a0 a1 a2 a3 a4 k; obtain ⟨ih0, ih1, ih2⟩ := kimberliteref03_Part.mono_l k; unfold kimberliteref03_Part.f
 repeat' first
  | (with_reducible exact ih0 _ _ _ _ _ _ _)
  | (with_reducible exact ih1 _ _ _ _ _ _ _ _)
  | (with_reducible exact ih2 _ _ _ _ _ _ _)
  | (with_reducible exact kimberliteref03_Out.mono _ _ _ _)
  | (with_reducible exact kimberliteref03_Valid.mono _ _ _ _)
  | (with_reducible exact kimberliteref03_ranged.mono _ _ _)
  | (with_reducible exact LeO.refl _)
  | (with_reducible exact LeO.none _)
  | (with_reducible refine LeO.ite ?_ ?_)
  | (with_reducible refine LeO.bind ?_ (fun _ => ?_))
  | exact ih0 _ _ _ _ _ _ _
  | exact ih1 _ _ _ _ _ _ _ _
  | exact ih2 _ _ _ _ _ _ _
  | exact kimberliteref03_Out.mono _ _ _ _
  | exact kimberliteref03_Valid.mono _ _ _ _
  | exact kimberliteref03_ranged.mono _ _ _
  | exact LeO.none _
  | refine LeO.ite ?_ ?_
  | refine LeO.bind ?_ (fun _ => ?_)
def kimberliteref03_Part.T11 : Bool × List (List Nat × List Nat) := (true, [([], []), ([0], [0]), ([], []), ([], []), ([2, 3], [2, 3]), ([4], [4]), ([1, 5, 4], [1, 5]), ([0, 1, 2, 3, 4, 5, 6], []), ([7, 6, 6, 0, 1, 2, 3, 4, 5, 6], [6, 7])])
def kimberliteref03_Part.B11 : List Nat := [0, 1, 0, 0, 12, 28, 63, 127, 255]
theorem kimberliteref03_Part.tab11 : rtab .any (opsOf Try.f48 11) = kimberliteref03_Part.T11 := by kernel_rfl
theorem kimberliteref03_Part.bits11 : waitsOk kimberliteref03_Part.T11.2 kimberliteref03_Part.B11 = true := by kernel_rfl
set_option maxHeartbeats 8000000 in
set_option maxRecDepth 100000 in
theorem kimberliteref03_Part.calls (k : Nat) (a0_0 : Int) (a0_1 : Int) (A0_2 : Option Addr) (c0_2 : Nat) (l0_2 : List Int) (a1 : Int) (a2 : Int) (r1 : Int) (r2 : Int) (r3 : List Int) (r4 : Int) (w : World) (hr0_2 : Kd.C (Kd.int .i64) w A0_2 l0_2.length l0_2) (hc0_2 : l0_2.length ≤ c0_2) (h : kimberliteref03_Part.f k a0_0 a0_1 l0_2 a1 a2 = some (r1, r2, r3, r4)) :
 Calls Try.prog 48 #[.agg #[.int .i64 a0_0, .int .i64 a0_1, .slice A0_2 l0_2.length c0_2], .int .i64 a1, .int .i64 a2] w fun e w' => ∃ v2_ : Value, e = .returned (.tuple #[.agg #[.int .i64 r1, .int .i64 r2, v2_], .int .i64 r4]) ∧ Kd.R (Kd.int .i64) 3 w' w.heap.size (fun _ => True) v2_ r3 ∧ Below w.heap.size w w' := by
 have hu24 := Try.underlying24; have hu78 := Try.underlying78; have HR0_2 := Aside0.mk hr0_2; have HC0_2 := Aside0.mk hc0_2; clear hr0_2 hc0_2; have HB := Aside0.mk (Below.refl w.heap.size w); have H : ((kimberliteref03_Valid.f k a0_0 a0_1 l0_2).bind fun t333 => (if t333 = true then ((kimberliteref03_Out.f k a0_0 a0_1 l0_2).bind fun bt334 => (kimberliteref03_Part.l0 k a1 a2 bt334.1 bt334.1 bt334.2 0 ([] : List Int))) else (some (0, 0, ([] : List Int), 2)))) = some (r1, r2, r3, r4) := h; clear h; replace H := Option.bind_eq_some_iff.mp H; obtain ⟨t333, A40, H⟩ := H; replace H : (if t333 = true then ((kimberliteref03_Out.f k a0_0 a0_1 l0_2).bind fun bt334 => (kimberliteref03_Part.l0 k a1 a2 bt334.1 bt334.1 bt334.2 0 ([] : List Int))) else (some (0, 0, ([] : List Int), 2))) = some (r1, r2, r3, r4) := H; have A4 := Aside0.mk A40; clear A40
 by_cases c5 : t333 = true
 · subst c5; replace H : ((kimberliteref03_Out.f k a0_0 a0_1 l0_2).bind fun bt334 => (kimberliteref03_Part.l0 k a1 a2 bt334.1 bt334.1 bt334.2 0 ([] : List Int))) = some (r1, r2, r3, r4) := by rw [if_pos rfl] at H; exact H
   replace H := Option.bind_eq_some_iff.mp H; obtain ⟨⟨t334, t335⟩, A60, H⟩ := H; replace H : (kimberliteref03_Part.l0 k a1 a2 t334 t334 t335 0 ([] : List Int)) = some (r1, r2, r3, r4) := H; have A6 := Aside0.mk A60; clear A60; have H' := Aside0.mk H; clear H; go_enter Try.func48, Try.ntmps48
   go_wp2_with (first | ((with_reducible refine gate_dst (N := 3) rfl ?_); refine box_event ?hg (N := 3) ?hd (cs := #[.int .i64 a0_0, .int .i64 a0_1, .slice A0_2 l0_2.length c0_2]) (t := 24) ?hr ?_; (case hd => rfl); (case hg => rfl); (case hr => first | (go_simp; done) | (go_simp; rfl)); intro gb331 hg w7 hbox hb; have BK331 := Aside0.mk (hbox); have GW331 := Aside0.mk ((by rw [hg]; exact (below_size (nC HB)) : w.heap.size ≤ gb331)); have GE331 := Aside0.mk ((by rw [hg]; exact (below_size (nC HB)) : w.heap.size ≤ gb331)); replace HB := Aside0.mk (below_step (nC HB) hb); clear hb hbox hg) | ((with_reducible refine gate_dst (N := 6) rfl ?_); refine box_event ?hg (N := 6) ?hd (cs := #[.int .i64 0, .int .i64 0, .slice none 0 0]) (t := 24) ?hr ?_; (case hd => rfl); (case hg => rfl); (case hr => first | (go_simp; done) | (go_simp; rfl)); intro gb332 hg w8 hbox hb; have BK332 := Aside0.mk (hbox); have GW332 := Aside0.mk ((by rw [hg]; exact (below_size (nC HB)) : w.heap.size ≤ gb332)); have GE332 := Aside0.mk ((by rw [hg]; exact (below_size (nC HB)) : w.heap.size ≤ gb332)); replace HB := Aside0.mk (below_step (nC HB) hb); have NB331_332 := Aside0.mk ((by rw [hg]; exact Nat.ne_of_lt (blk_lt (nK BK331)) : gb331 ≠ gb332)); have NB332_331 := Aside0.mk ((by rw [hg]; exact Nat.ne_of_gt (blk_lt (nK BK331)) : gb332 ≠ gb331)); replace BK331 := Aside0.mk (nB BK331 hb); clear hb hbox hg; have hnb9 := NB331_332.out; have hnc9 := NB332_331.out; obtain ⟨hcz10_0, hcz10_1, hcz10_2, hfz10_0, hfz10_1, hfz10_2⟩ := cz3 BK331) | ((with_reducible refine gate_callee (f := 30) rfl ?_); refine gL (some 12) Try.func30 #[.agg #[.int .i64 a0_0, .int .i64 a0_1, .slice A0_2 l0_2.length c0_2]] ?_; (with_reducible refine (kimberliteref03_Valid.calls k a0_0 a0_1 _ _ l0_2 true _ ?side1 ?side2 A4.out).mono ?_); (case side1 => exact nS HR0_2 HB); (case side2 => exact HC0_2.out); rintro e w11 ⟨rfl, hb⟩; refine ⟨_, rfl, ?_⟩; replace BK331 := Aside0.mk (nB BK331 hb); replace BK332 := Aside0.mk (nB BK332 hb); replace HB := Aside0.mk (below_step (nC HB) hb); (try clear hb); (try clear hb2); (try clear hk); (try clear hi); obtain ⟨hcz12_0, hcz12_1, hcz12_2, hfz12_0, hfz12_1, hfz12_2⟩ := cz3 BK331) | ((with_reducible refine gate_callee (f := 64) rfl ?_); refine gL (some 16) Try.func64 #[.agg #[.int .i64 a0_0, .int .i64 a0_1, .slice A0_2 l0_2.length c0_2]] ?_; (with_reducible refine (kimberliteref03_Out.calls k a0_0 a0_1 _ _ l0_2 t334 t335 _ ?side1 ?side2 A6.out).mono ?_); (case side1 => exact nS HR0_2 HB); (case side2 => exact HC0_2.out); rintro e w13 ⟨v336, rfl, ho0, hb⟩; refine ⟨_, rfl, ?_⟩; have HO337 := Aside0.mk (Kd.R_lower ho0 (below_size (nC HB))); replace BK331 := Aside0.mk (nB BK331 hb); replace BK332 := Aside0.mk (nB BK332 hb); replace HB := Aside0.mk (below_step (nC HB) hb); (try clear hb); (try clear hb2); (try clear hk); (try clear hi); (try clear ho0)) | ((with_reducible refine gate_dst (N := 8) rfl ?_); refine box_event ?hg (N := 8) ?hd (cs := #[.int .i64 0, .slice none 0 0]) (t := 78) ?hr ?_; (case hd => rfl); (case hg => rfl); (case hr => first | (go_simp; done) | (go_simp; rfl)); intro gb338 hg w14 hbox hb; replace HO337 := Aside0.mk (Kd.R_below (nR HO337) hb); have BK338 := Aside0.mk (hbox); have GW338 := Aside0.mk ((by rw [hg]; exact (below_size (nC HB)) : w.heap.size ≤ gb338)); have GE338 := Aside0.mk ((by rw [hg]; exact (below_size (nC HB)) : w.heap.size ≤ gb338)); replace HB := Aside0.mk (below_step (nC HB) hb); have NB331_338 := Aside0.mk ((by rw [hg]; exact Nat.ne_of_lt (blk_lt (nK BK331)) : gb331 ≠ gb338)); have NB338_331 := Aside0.mk ((by rw [hg]; exact Nat.ne_of_gt (blk_lt (nK BK331)) : gb338 ≠ gb331)); replace BK331 := Aside0.mk (nB BK331 hb); have NB332_338 := Aside0.mk ((by rw [hg]; exact Nat.ne_of_lt (blk_lt (nK BK332)) : gb332 ≠ gb338)); have NB338_332 := Aside0.mk ((by rw [hg]; exact Nat.ne_of_gt (blk_lt (nK BK332)) : gb338 ≠ gb332)); replace BK332 := Aside0.mk (nB BK332 hb); clear hb hbox hg; have hnb15 := NB338_331.out; have hnc15 := NB331_338.out; have hnb16 := NB338_332.out; have hnc16 := NB332_338.out; obtain ⟨hcz17_0, hcz17_1, hfz17_0, hfz17_1⟩ := cz2 BK338; obtain ⟨Ao18, co18, eo18⟩ := Kd.R_slice HO337.out; subst eo18) | ((with_reducible refine gate_dst (N := 9) rfl ?_); refine box_event ?hg (N := 9) ?hd (cs := #[.int .i64 0, .slice none 0 0]) (t := 78) ?hr ?_; (case hd => rfl); (case hg => rfl); (case hr => first | (go_simp; done) | (go_simp; rfl)); intro gb339 hg w19 hbox hb; replace HO337 := Aside0.mk (Kd.R_below (by (with_reducible repeat (first | apply Kd.R_alloc | apply Kd.R_drewN | apply Kd.R_drew)); exact (Kd.R_mono (Kd.R_far (p := ⟨gb338, 1, none⟩) (Kd.R_far (p := ⟨gb338, 0, none⟩) (Kd.R_types HO337.out BK338.out (by decide)) (fun _ hk => hk.2) (.int .i64 t334)) (fun _ hk => hk.2) (.slice Ao18 t335.length co18)) (fun _ h_ => h_.1))) hb); have BK339 := Aside0.mk (hbox); have GW339 := Aside0.mk ((by rw [hg]; exact (below_size (nC HB)) : w.heap.size ≤ gb339)); have GE339 := Aside0.mk ((by rw [hg]; exact (below_size (nC HB)) : w.heap.size ≤ gb339)); replace HB := Aside0.mk (below_step (nC HB) hb); have NB331_339 := Aside0.mk ((by rw [hg]; exact Nat.ne_of_lt (blk_lt (g := gb331) (o := .cells #[.int .i64 a0_0, .int .i64 a0_1, .slice A0_2 l0_2.length c0_2] 24 (0, 0)) (by (with_reducible repeat (first | refine blk_drewN ?_ _ | refine blk_drew ?_ | refine blk_alloc ?_ _)); refine blk_far ?_ NB331_338.out _; (with_reducible repeat (first | refine blk_drewN ?_ _ | refine blk_drew ?_ | refine blk_alloc ?_ _)); refine blk_far ?_ NB331_338.out _; (with_reducible repeat (first | refine blk_drewN ?_ _ | refine blk_drew ?_ | refine blk_alloc ?_ _)); exact BK331.out)) : gb331 ≠ gb339)); have NB339_331 := Aside0.mk ((by rw [hg]; exact Nat.ne_of_gt (blk_lt (g := gb331) (o := .cells #[.int .i64 a0_0, .int .i64 a0_1, .slice A0_2 l0_2.length c0_2] 24 (0, 0)) (by (with_reducible repeat (first | refine blk_drewN ?_ _ | refine blk_drew ?_ | refine blk_alloc ?_ _)); refine blk_far ?_ NB331_338.out _; (with_reducible repeat (first | refine blk_drewN ?_ _ | refine blk_drew ?_ | refine blk_alloc ?_ _)); refine blk_far ?_ NB331_338.out _; (with_reducible repeat (first | refine blk_drewN ?_ _ | refine blk_drew ?_ | refine blk_alloc ?_ _)); exact BK331.out)) : gb339 ≠ gb331)); replace BK331 := Aside0.mk (blk_below (g := gb331) (o := .cells #[.int .i64 a0_0, .int .i64 a0_1, .slice A0_2 l0_2.length c0_2] 24 (0, 0)) (by (with_reducible repeat (first | refine blk_drewN ?_ _ | refine blk_drew ?_ | refine blk_alloc ?_ _)); refine blk_far ?_ NB331_338.out _; (with_reducible repeat (first | refine blk_drewN ?_ _ | refine blk_drew ?_ | refine blk_alloc ?_ _)); refine blk_far ?_ NB331_338.out _; (with_reducible repeat (first | refine blk_drewN ?_ _ | refine blk_drew ?_ | refine blk_alloc ?_ _)); exact BK331.out) hb); have NB332_339 := Aside0.mk ((by rw [hg]; exact Nat.ne_of_lt (blk_lt (g := gb332) (o := .cells #[.int .i64 0, .int .i64 0, .slice none 0 0] 24 (0, 0)) (by (with_reducible repeat (first | refine blk_drewN ?_ _ | refine blk_drew ?_ | refine blk_alloc ?_ _)); refine blk_far ?_ NB332_338.out _; (with_reducible repeat (first | refine blk_drewN ?_ _ | refine blk_drew ?_ | refine blk_alloc ?_ _)); refine blk_far ?_ NB332_338.out _; (with_reducible repeat (first | refine blk_drewN ?_ _ | refine blk_drew ?_ | refine blk_alloc ?_ _)); exact BK332.out)) : gb332 ≠ gb339)); have NB339_332 := Aside0.mk ((by rw [hg]; exact Nat.ne_of_gt (blk_lt (g := gb332) (o := .cells #[.int .i64 0, .int .i64 0, .slice none 0 0] 24 (0, 0)) (by (with_reducible repeat (first | refine blk_drewN ?_ _ | refine blk_drew ?_ | refine blk_alloc ?_ _)); refine blk_far ?_ NB332_338.out _; (with_reducible repeat (first | refine blk_drewN ?_ _ | refine blk_drew ?_ | refine blk_alloc ?_ _)); refine blk_far ?_ NB332_338.out _; (with_reducible repeat (first | refine blk_drewN ?_ _ | refine blk_drew ?_ | refine blk_alloc ?_ _)); exact BK332.out)) : gb339 ≠ gb332)); replace BK332 := Aside0.mk (blk_below (g := gb332) (o := .cells #[.int .i64 0, .int .i64 0, .slice none 0 0] 24 (0, 0)) (by (with_reducible repeat (first | refine blk_drewN ?_ _ | refine blk_drew ?_ | refine blk_alloc ?_ _)); refine blk_far ?_ NB332_338.out _; (with_reducible repeat (first | refine blk_drewN ?_ _ | refine blk_drew ?_ | refine blk_alloc ?_ _)); refine blk_far ?_ NB332_338.out _; (with_reducible repeat (first | refine blk_drewN ?_ _ | refine blk_drew ?_ | refine blk_alloc ?_ _)); exact BK332.out) hb); have NB338_339 := Aside0.mk ((by rw [hg]; exact Nat.ne_of_lt (blk_lt (g := gb338) (o := .cells #[.int .i64 t334, .slice Ao18 t335.length co18] 78 (0, 0)) (by (with_reducible repeat (first | refine blk_drewN ?_ _ | refine blk_drew ?_ | refine blk_alloc ?_ _)); refine blk_put (cs := #[.int .i64 t334, .slice none 0 0]) ?_ 1 _ rfl; (with_reducible repeat (first | refine blk_drewN ?_ _ | refine blk_drew ?_ | refine blk_alloc ?_ _)); refine blk_put (cs := #[.int .i64 0, .slice none 0 0]) ?_ 0 _ rfl; (with_reducible repeat (first | refine blk_drewN ?_ _ | refine blk_drew ?_ | refine blk_alloc ?_ _)); exact BK338.out)) : gb338 ≠ gb339)); have NB339_338 := Aside0.mk ((by rw [hg]; exact Nat.ne_of_gt (blk_lt (g := gb338) (o := .cells #[.int .i64 t334, .slice Ao18 t335.length co18] 78 (0, 0)) (by (with_reducible repeat (first | refine blk_drewN ?_ _ | refine blk_drew ?_ | refine blk_alloc ?_ _)); refine blk_put (cs := #[.int .i64 t334, .slice none 0 0]) ?_ 1 _ rfl; (with_reducible repeat (first | refine blk_drewN ?_ _ | refine blk_drew ?_ | refine blk_alloc ?_ _)); refine blk_put (cs := #[.int .i64 0, .slice none 0 0]) ?_ 0 _ rfl; (with_reducible repeat (first | refine blk_drewN ?_ _ | refine blk_drew ?_ | refine blk_alloc ?_ _)); exact BK338.out)) : gb339 ≠ gb338)); replace BK338 := Aside0.mk (blk_below (g := gb338) (o := .cells #[.int .i64 t334, .slice Ao18 t335.length co18] 78 (0, 0)) (by (with_reducible repeat (first | refine blk_drewN ?_ _ | refine blk_drew ?_ | refine blk_alloc ?_ _)); refine blk_put (cs := #[.int .i64 t334, .slice none 0 0]) ?_ 1 _ rfl; (with_reducible repeat (first | refine blk_drewN ?_ _ | refine blk_drew ?_ | refine blk_alloc ?_ _)); refine blk_put (cs := #[.int .i64 0, .slice none 0 0]) ?_ 0 _ rfl; (with_reducible repeat (first | refine blk_drewN ?_ _ | refine blk_drew ?_ | refine blk_alloc ?_ _)); exact BK338.out) hb); clear hb hbox hg; have hnb20 := NB339_331.out; have hnc20 := NB331_339.out; have hnb21 := NB339_332.out; have hnc21 := NB332_339.out; have hnb22 := NB339_338.out; have hnc22 := NB338_339.out; obtain ⟨hcz23_0, hcz23_1, hfz23_0, hfz23_1⟩ := cz2 BK339; obtain ⟨hcz24_0, hcz24_1, hfz24_0, hfz24_1⟩ := cz2 BK338))
   go_loopg [10] k (fun kq v10 w' => ∃ (x10_1 : Int) (x340000_1 : Int) (x340001_1 : List Int) (u340001 : Value), v10 = .int .i64 x10_1 ∧ Aside0 (kimberliteref03_Part.l0 kq a1 a2 x10_1 t334 t335 x340000_1 x340001_1 = some (r1, r2, r3, r4)) ∧ Aside0 (kq ≤ k) ∧ Aside0 (Kd.R (Kd.int .i64) 3 w' w.heap.size (fun k_ => some k_ ≠ (u340001 : Value).ownBlock) (.slice Ao18 t335.length co18) t335) ∧ Aside0 (Kd.R (Kd.int .i64) 3 w' w.heap.size (fun k_ => some k_ ≠ ((.slice Ao18 t335.length co18) : Value).ownBlock) u340001 x340001_1) ∧ Aside0 (w'.heap[gb331]? = some (.cells #[.int .i64 a0_0, .int .i64 a0_1, (.slice A0_2 l0_2.length c0_2)] 24 (0, 0))) ∧ Aside0 (w'.heap[gb332]? = some (.cells #[.int .i64 0, .int .i64 0, (.slice none 0 0)] 24 (0, 0))) ∧ Aside0 (w'.heap[gb338]? = some (.cells #[.int .i64 t334, (.slice Ao18 t335.length co18)] 78 (0, 0))) ∧ Aside0 (w'.heap[gb339]? = some (.cells #[.int .i64 x340000_1, u340001] 78 (0, 0))) ∧ Aside0 (Below w.heap.size w w'))
   case atStart => exact ⟨(t334), (0), (([] : List Int)), (.slice none 0 0), (by first | rfl | (simp; done) | (simp [*]; done)), H', ⟨Nat.le_refl _⟩, ⟨by (with_reducible repeat (first | apply Kd.R_alloc | apply Kd.R_drewN | apply Kd.R_drew)); exact Kd.R_mono (Kd.R_far (p := ⟨gb339, 1, none⟩) (Kd.R_far (p := ⟨gb339, 0, none⟩) (Kd.R_types HO337.out BK339.out (by decide)) (fun _ hk => hk.2) (.int .i64 0)) (fun _ hk => hk.2) (.slice none 0 0)) (fun _ hk => (by simp [Value.ownBlock]))⟩, ⟨by first | exact Kd.R_nil _ _ _ _ _ | exact Kd.N_nil _ _ _ _ _ | exact Kd.V_nil _ _ _ _ _ | exact Kd.Q_nil _ _ _ _ _ | exact Kd.S_nil _ _ _ _ _⟩, ⟨by (with_reducible repeat (first | refine blk_drewN ?_ _ | refine blk_drew ?_ | refine blk_alloc ?_ _)); refine blk_far ?_ NB331_339.out _; (with_reducible repeat (first | refine blk_drewN ?_ _ | refine blk_drew ?_ | refine blk_alloc ?_ _)); refine blk_far ?_ NB331_339.out _; (with_reducible repeat (first | refine blk_drewN ?_ _ | refine blk_drew ?_ | refine blk_alloc ?_ _)); exact BK331.out⟩, ⟨by (with_reducible repeat (first | refine blk_drewN ?_ _ | refine blk_drew ?_ | refine blk_alloc ?_ _)); refine blk_far ?_ NB332_339.out _; (with_reducible repeat (first | refine blk_drewN ?_ _ | refine blk_drew ?_ | refine blk_alloc ?_ _)); refine blk_far ?_ NB332_339.out _; (with_reducible repeat (first | refine blk_drewN ?_ _ | refine blk_drew ?_ | refine blk_alloc ?_ _)); exact BK332.out⟩, ⟨by (with_reducible repeat (first | refine blk_drewN ?_ _ | refine blk_drew ?_ | refine blk_alloc ?_ _)); refine blk_far ?_ NB338_339.out _; (with_reducible repeat (first | refine blk_drewN ?_ _ | refine blk_drew ?_ | refine blk_alloc ?_ _)); refine blk_far ?_ NB338_339.out _; (with_reducible repeat (first | refine blk_drewN ?_ _ | refine blk_drew ?_ | refine blk_alloc ?_ _)); exact BK338.out⟩, ⟨by (with_reducible repeat (first | refine blk_drewN ?_ _ | refine blk_drew ?_ | refine blk_alloc ?_ _)); refine blk_put (cs := #[.int .i64 0, .slice none 0 0]) ?_ 1 _ rfl; (with_reducible repeat (first | refine blk_drewN ?_ _ | refine blk_drew ?_ | refine blk_alloc ?_ _)); refine blk_put (cs := #[.int .i64 0, .slice none 0 0]) ?_ 0 _ rfl; (with_reducible repeat (first | refine blk_drewN ?_ _ | refine blk_drew ?_ | refine blk_alloc ?_ _)); exact BK339.out⟩, ⟨nC HB⟩⟩
   case round =>
    clear H'; obtain ⟨x10_1, x340000_1, x340001_1, u340001, rfl, HA, HK1, HO_339001, HO_340001, BK331, BK332, BK338, BK339, HB⟩ := hrel
    cases gk with
    | zero => exact absurd HA.out (by simp [kimberliteref03_Part.l0])
    | succ k1 =>
     have H := HA.out; clear HA; simp only [kimberliteref03_Part.l0] at H; replace H := Option.bind_eq_some_iff.mp H; obtain ⟨t340, A250, H⟩ := H; replace H : (if x10_1 ≤ t340 then (if x10_1 < a1 then (kimberliteref03_Part.j1 k1 a1 a2 x10_1 true t334 t335 x340000_1 x340001_1) else (kimberliteref03_Part.j1 k1 a1 a2 x10_1 (decide (x10_1 > a2)) t334 t335 x340000_1 x340001_1)) else (if (x340001_1.length : Int) = 0 then (some (0, 0, ([] : List Int), 6)) else ((kimberliteref03_ranged.f k1 x340000_1 x340001_1).bind fun bt345 => (some (bt345.1, bt345.2.1, bt345.2.2.1, bt345.2.2.2))))) = some (r1, r2, r3, r4) := H; have A25 := Aside0.mk A250; clear A250
     by_cases c26 : x10_1 ≤ t340
     · rw [if_pos c26] at H; have c26b0 : decide (x10_1 ≤ t340) = true := decide_eq_true c26; clear c26; have HC27 := Aside0.mk H; clear H; have hnb28 := NB338_331.out; have hnc28 := NB331_338.out; have hnb29 := NB338_332.out; have hnc29 := NB332_338.out; have hnb30 := NB338_339.out; have hnc30 := NB339_338.out; obtain ⟨hcz31_0, hcz31_1, hfz31_0, hfz31_1⟩ := cz2 BK338; go_upto_region 8 with (first | ((with_reducible refine gate_callee (f := 65) rfl ?_); refine gL (some 22) Try.func65 #[.agg #[.int .i64 t334, .slice Ao18 t335.length co18]] ?_; (with_reducible refine (kimberliteref03_Row_To.calls t334 _ _ t335 t340 _ ?side1 ?side2 A25.out).mono ?_); (case side1 => repeat (first | exact (Kd.R_reads' HO_339001.out).2.2 | (with_reducible refine Kd.C_alloc ?_ _) | (with_reducible refine Kd.C_drewN ?_ _) | (with_reducible refine Kd.C_drew ?_))); (case side2 => exact (Kd.R_reads' HO_339001.out).2.1); rintro e w32 ⟨rfl, hb⟩; refine ⟨_, rfl, ?_⟩; replace HO_339001 := Aside0.mk (Kd.R_below (nR HO_339001) hb); replace HO_340001 := Aside0.mk (Kd.R_below (nR HO_340001) hb); replace BK331 := Aside0.mk (nB BK331 hb); replace BK332 := Aside0.mk (nB BK332 hb); replace BK338 := Aside0.mk (nB BK338 hb); replace BK339 := Aside0.mk (nB BK339 hb); replace HB := Aside0.mk (below_step (nC HB) hb); (try clear hb); (try clear hb2); (try clear hk); (try clear hi)))
       (try simp only [Act.put, zs1, zs2, zs3]); go_cut [33] (fun v33 wc => ∃ (kq : Nat) (x33_26 : Bool), v33 = .bool x33_26 ∧ Aside0 (kimberliteref03_Part.j1 kq a1 a2 x10_1 x33_26 t334 t335 x340000_1 x340001_1 = some (r1, r2, r3, r4)) ∧ Aside0 (kq ≤ k1) ∧ Aside0 (Kd.R (Kd.int .i64) 3 wc w.heap.size (fun k_ => some k_ ≠ (u340001 : Value).ownBlock) (.slice Ao18 t335.length co18) t335) ∧ Aside0 (Kd.R (Kd.int .i64) 3 wc w.heap.size (fun k_ => some k_ ≠ ((.slice Ao18 t335.length co18) : Value).ownBlock) u340001 x340001_1) ∧ Aside0 (wc.heap[gb331]? = some (.cells #[.int .i64 a0_0, .int .i64 a0_1, (.slice A0_2 l0_2.length c0_2)] 24 (0, 0))) ∧ Aside0 (wc.heap[gb332]? = some (.cells #[.int .i64 0, .int .i64 0, (.slice none 0 0)] 24 (0, 0))) ∧ Aside0 (wc.heap[gb338]? = some (.cells #[.int .i64 t334, (.slice Ao18 t335.length co18)] 78 (0, 0))) ∧ Aside0 (wc.heap[gb339]? = some (.cells #[.int .i64 x340000_1, u340001] 78 (0, 0))) ∧ Aside0 (Below w.heap.size w wc))
       case first =>
        have H := HC27.out; clear HC27
        by_cases c33 : x10_1 < a1
        · rw [if_pos c33] at H; have c33b0 : decide (x10_1 < a1) = true := decide_eq_true c33; clear c33; (first | rw [c33b0] | (simp only [i64_w, i32_w]; rw [c33b0]) | skip); have H' := Aside0.mk H; clear H; go_wp2
          go_meet
          case rel => exact ⟨_, (true), (by first | rfl | (simp; done) | (simp [*]; done)), H', ⟨by have := HK1.out; first | omega | exact Nat.le_refl _⟩, ⟨nR HO_339001⟩, ⟨nR HO_340001⟩, ⟨nK BK331⟩, ⟨nK BK332⟩, ⟨nK BK338⟩, ⟨nK BK339⟩, ⟨nC HB⟩⟩
        · rw [if_neg c33] at H; have c33b0 : decide (x10_1 < a1) = false := decide_eq_false c33; clear c33; (first | rw [c33b0] | (simp only [i64_w, i32_w]; rw [c33b0]) | skip); have H' := Aside0.mk H; clear H; go_wp2
          go_meet
          case rel => exact ⟨_, (decide (x10_1 > a2)), (by first | rfl | (simp; done) | (simp [*]; done)), H', ⟨by have := HK1.out; first | omega | exact Nat.le_refl _⟩, ⟨nR HO_339001⟩, ⟨nR HO_340001⟩, ⟨nK BK331⟩, ⟨nK BK332⟩, ⟨nK BK338⟩, ⟨nK BK339⟩, ⟨nC HB⟩⟩
       case rest =>
        clear HC27; obtain ⟨kq, x33_26, rfl, HA, HJ26, HO_339001, HO_340001, BK331, BK332, BK338, BK339, HB⟩ := hcut
        cases kq with
        | zero => exact absurd HA.out (by simp [kimberliteref03_Part.j1])
        | succ kj26 =>
         have H := HA.out; clear HA; simp only [kimberliteref03_Part.j1] at H
         by_cases c34 : x33_26 = true
         · subst c34; replace H : (kimberliteref03_Part.l0 kj26 a1 a2 (wrap64 (x10_1 + 1)) t334 t335 x340000_1 x340001_1) = some (r1, r2, r3, r4) := by rw [if_pos rfl] at H; exact H
           have H' := Aside0.mk H; clear H; go_wp2
           go_roundg kj26
           case measure => have := HK1.out; have := HJ26.out; omega
           case rel => exact ⟨(wrap64 (x10_1 + 1)), (x340000_1), (x340001_1), (u340001), (by first | rfl | (simp; done) | (simp [*]; done)), H', ⟨by have := HK1.out; have := HJ26.out; omega⟩, ⟨nR HO_339001⟩, ⟨nR HO_340001⟩, ⟨nK BK331⟩, ⟨nK BK332⟩, ⟨nK BK338⟩, ⟨nK BK339⟩, ⟨nC HB⟩⟩
         · replace c34 := Bool.eq_false_iff.mpr c34; subst c34; replace H : (if (x340001_1.length : Int) = 0 then (kimberliteref03_Part.j2 kj26 a1 a2 x10_1 t334 t335 x10_1 x340001_1) else (kimberliteref03_Part.j2 kj26 a1 a2 x10_1 t334 t335 x340000_1 x340001_1)) = some (r1, r2, r3, r4) := by rw [if_neg (show ¬ (false = true) by decide)] at H; exact H
           have HC35 := Aside0.mk H; clear H; have hnb36 := NB339_331.out; have hnc36 := NB331_339.out; have hnb37 := NB339_332.out; have hnc37 := NB332_339.out; have hnb38 := NB339_338.out; have hnc38 := NB338_339.out; obtain ⟨hcz39_0, hcz39_1, hfz39_0, hfz39_1⟩ := cz2 BK339; obtain ⟨Ao40, co40, eo40⟩ := Kd.R_slice HO_340001.out; subst eo40; go_upto_if 37 with (fail)
           go_cut [] (fun wc => ∃ (kq : Nat) (x340000_34 : Int), Aside0 (kimberliteref03_Part.j2 kq a1 a2 x10_1 t334 t335 x340000_34 x340001_1 = some (r1, r2, r3, r4)) ∧ Aside0 (kq ≤ kj26) ∧ Aside0 (Kd.R (Kd.int .i64) 3 wc w.heap.size (fun k_ => some k_ ≠ ((.slice Ao40 x340001_1.length co40) : Value).ownBlock) (.slice Ao18 t335.length co18) t335) ∧ Aside0 (Kd.R (Kd.int .i64) 3 wc w.heap.size (fun k_ => some k_ ≠ ((.slice Ao18 t335.length co18) : Value).ownBlock) (.slice Ao40 x340001_1.length co40) x340001_1) ∧ Aside0 (wc.heap[gb331]? = some (.cells #[.int .i64 a0_0, .int .i64 a0_1, (.slice A0_2 l0_2.length c0_2)] 24 (0, 0))) ∧ Aside0 (wc.heap[gb332]? = some (.cells #[.int .i64 0, .int .i64 0, (.slice none 0 0)] 24 (0, 0))) ∧ Aside0 (wc.heap[gb338]? = some (.cells #[.int .i64 t334, (.slice Ao18 t335.length co18)] 78 (0, 0))) ∧ Aside0 (wc.heap[gb339]? = some (.cells #[.int .i64 x340000_34, (.slice Ao40 x340001_1.length co40)] 78 (0, 0))) ∧ Aside0 (Below w.heap.size w wc))
           case first =>
            have H := HC35.out; clear HC35
            by_cases c41 : (x340001_1.length : Int) = 0
            · rw [if_pos c41] at H; have c41b0 : ((x340001_1.length : Int) == 0) = true := beq_iff_eq.mpr c41; have c41b1 : ((x340001_1.length : Int) != 0) = false := bne_eq_false_iff_eq.mpr c41; clear c41; (first | rw [c41b0] | (simp only [i64_w, i32_w]; rw [c41b0]) | skip); have H' := Aside0.mk H; clear H; have hnb42 := NB339_331.out; have hnc42 := NB331_339.out; have hnb43 := NB339_332.out; have hnc43 := NB332_339.out; have hnb44 := NB339_338.out; have hnc44 := NB338_339.out; obtain ⟨hcz45_0, hcz45_1, hfz45_0, hfz45_1⟩ := cz2 BK339; go_wp2
              go_meet
              case rel => exact ⟨_, (x10_1), H', ⟨by have := HK1.out; have := HJ26.out; first | omega | exact Nat.le_refl _⟩, ⟨by (with_reducible repeat (first | apply Kd.R_alloc | apply Kd.R_drewN | apply Kd.R_drew)); exact Kd.R_mono (Kd.R_far (p := ⟨gb339, 0, none⟩) (Kd.R_types HO_339001.out BK339.out (by decide)) (fun _ hk => hk.2) (.int .i64 x10_1)) (fun _ hk => hk.1)⟩, ⟨by (with_reducible repeat (first | apply Kd.R_alloc | apply Kd.R_drewN | apply Kd.R_drew)); exact Kd.R_mono (Kd.R_far (p := ⟨gb339, 0, none⟩) (Kd.R_types HO_340001.out BK339.out (by decide)) (fun _ hk => hk.2) (.int .i64 x10_1)) (fun _ hk => hk.1)⟩, ⟨by (with_reducible repeat (first | refine blk_drewN ?_ _ | refine blk_drew ?_ | refine blk_alloc ?_ _)); refine blk_far ?_ NB331_339.out _; (with_reducible repeat (first | refine blk_drewN ?_ _ | refine blk_drew ?_ | refine blk_alloc ?_ _)); exact BK331.out⟩, ⟨by (with_reducible repeat (first | refine blk_drewN ?_ _ | refine blk_drew ?_ | refine blk_alloc ?_ _)); refine blk_far ?_ NB332_339.out _; (with_reducible repeat (first | refine blk_drewN ?_ _ | refine blk_drew ?_ | refine blk_alloc ?_ _)); exact BK332.out⟩, ⟨by (with_reducible repeat (first | refine blk_drewN ?_ _ | refine blk_drew ?_ | refine blk_alloc ?_ _)); refine blk_far ?_ NB338_339.out _; (with_reducible repeat (first | refine blk_drewN ?_ _ | refine blk_drew ?_ | refine blk_alloc ?_ _)); exact BK338.out⟩, ⟨by (with_reducible repeat (first | refine blk_drewN ?_ _ | refine blk_drew ?_ | refine blk_alloc ?_ _)); refine blk_put (cs := #[.int .i64 x340000_1, .slice Ao40 x340001_1.length co40]) ?_ 0 _ rfl; (with_reducible repeat (first | refine blk_drewN ?_ _ | refine blk_drew ?_ | refine blk_alloc ?_ _)); exact BK339.out⟩, ⟨nC HB⟩⟩
            · rw [if_neg c41] at H; have c41b0 : ((x340001_1.length : Int) == 0) = false := beq_eq_false_iff_ne.mpr c41; have c41b1 : ((x340001_1.length : Int) != 0) = true := bne_iff_ne.mpr c41; have c41b2 : ¬ (x340001_1 = []) := fun h_ => c41 (by rw [h_]; rfl)
              (first | rw [c41b0] | (simp only [i64_w, i32_w]; rw [c41b0]) | skip); have H' := Aside0.mk H; clear H; go_wp2
              go_meet
              case rel => exact ⟨_, (x340000_1), H', ⟨by have := HK1.out; have := HJ26.out; first | omega | exact Nat.le_refl _⟩, ⟨nR HO_339001⟩, ⟨nR HO_340001⟩, ⟨nK BK331⟩, ⟨nK BK332⟩, ⟨nK BK338⟩, ⟨nK BK339⟩, ⟨nC HB⟩⟩
           case rest =>
            clear HC35; obtain ⟨kq, x340000_34, HA, HJ34, HO_339001, HO_340001, BK331, BK332, BK338, BK339, HB⟩ := hcut
            cases kq with
            | zero => exact absurd HA.out (by simp [kimberliteref03_Part.j2])
            | succ kj34 =>
             have H := HA.out; clear HA; simp only [kimberliteref03_Part.j2] at H; replace H := Option.bind_eq_some_iff.mp H; obtain ⟨t341, A460, H⟩ := H; replace H : (if x340001_1.length < 17592186044416 then (kimberliteref03_Part.l0 kj34 a1 a2 (wrap64 (x10_1 + 1)) t334 t335 x340000_34 (x340001_1 ++ [t341])) else (none)) = some (r1, r2, r3, r4) := H; have A46 := Aside0.mk A460; clear A460
             by_cases c47 : x340001_1.length < 17592186044416
             · rw [if_pos c47] at H; have LMc47 := Aside0.mk c47; clear c47; obtain ⟨y342, hy342⟩ : ∃ y_ : List Int, y_ = (x340001_1 ++ [t341]) := ⟨_, rfl⟩; replace H : (kimberliteref03_Part.l0 kj34 a1 a2 (wrap64 (x10_1 + 1)) t334 t335 x340000_34 y342) = some (r1, r2, r3, r4) := by first | (rw [hy342]; with_reducible exact H) | (have H2_ := (Option.bind_some _ _).symm.trans H; rw [hy342]; with_reducible exact H2_) | (have H2_ := (Option.bind_some _ _).symm.trans H; with_reducible exact H2_) | with_reducible exact H | (rw [hy342]; exact H) | exact H
               have Ny342 := Aside0.mk hy342; clear hy342; have H' := Aside0.mk H; clear H; try go_wp2
               replace HO_339001 := Aside0.mk (Kd.R_drew HO_339001.out); replace HO_340001 := Aside0.mk (Kd.R_drew HO_340001.out); replace BK331 := Aside0.mk (blk_drew BK331.out); replace BK332 := Aside0.mk (blk_drew BK332.out); replace BK338 := Aside0.mk (blk_drew BK338.out); replace BK339 := Aside0.mk (blk_drew BK339.out); replace HB := Aside0.mk (below_drew1 HB.out); refine start_ (n := 9) (S := fun w' => w'.cell? ⟨gb339, 0, none⟩ = some (.int .i64 x340000_34) ∧ w'.cell? ⟨gb339, 1, none⟩ = some (.slice Ao40 x340001_1.length co40) ∧ w'.cell? ⟨gb338, 0, none⟩ = some (.int .i64 t334) ∧ w'.cell? ⟨gb338, 1, none⟩ = some (.slice Ao18 t335.length co18)) (ds := [8]) #[false, false, false, false, false, false, false, false, false] (by kernel_rfl) rfl rfl ⟨(blk_cell BK339.out 0).trans rfl, (blk_cell BK339.out 1).trans rfl, (blk_cell BK338.out 0).trans rfl, (blk_cell BK338.out 1).trans rfl⟩ (fun hHeld => ?_); refine with_tabW kimberliteref03_Part.tab11 kimberliteref03_Part.bits11 (fun HT_ HW_ => ?_); generalize wc.drew = w48 at HO_339001 HO_340001 BK331 BK332 BK338 BK339 HB hHeld ⊢; refine pure_ (i := 0) (N := some 40) (v := ?_) (a' := ?_) #[true, false, false, false, false, false, false, false, false] rfl rfl (any_of HT_.out (by kernel_rfl)) (fun _ _ _ h => h) (Or.inl ⟨by rfl, ?_⟩) ?_ ?_; rotate_left
               · intro w'; go_simp
                 with_reducible rfl
               rotate_left
               · simp only [Act.put, zs1, zs2, zs3, i64_w, i32_w]; rfl
               refine pure_ (i := 3) (N := some 43) (v := ?_) (a' := ?_) #[true, false, false, true, false, false, false, false, false] rfl rfl (any_of HT_.out (by kernel_rfl)) (fun _ _ _ h => h) (Or.inl ⟨by rfl, ?_⟩) ?_ ?_; rotate_left
               · intro w'; go_simp
                 with_reducible rfl
               rotate_left
               · simp only [Act.put, zs1, zs2, zs3, i64_w, i32_w]; rfl
               refine take_ (i := 1) (N := some 41) (v := ?_) (a' := ?_) #[true, true, false, true, false, false, false, false, false] rfl rfl (take_ofW HT_.out HW_.out (by kernel_rfl)) (fun _ _ _ h => h) (Or.inl ⟨by rfl, ?_⟩) hHeld ?_ ?_; rotate_left
               · rintro w' ⟨s0, zs1, zs2, zs3⟩; go_simp
                 with_reducible rfl
               rotate_left
               · simp only [Act.put, zs1, zs2, zs3, i64_w, i32_w]; rfl
               refine take_ (i := 2) (N := some 42) (v := ?_) (a' := ?_) #[true, true, true, true, false, false, false, false, false] rfl rfl (take_ofW HT_.out HW_.out (by kernel_rfl)) (fun _ _ _ h => h) (Or.inl ⟨by rfl, ?_⟩) hHeld ?_ ?_; rotate_left
               · rintro w' ⟨s0, zs1, zs2, zs3⟩; go_simp
                 with_reducible rfl
               rotate_left
               · simp only [Act.put, zs1, zs2, zs3, i64_w, i32_w]; rfl
               refine one_ (i := 4) (N := some 44) #[true, true, true, true, true, false, false, false, false] rfl rfl (one_of HT_.out (by kernel_rfl)) (by decide) (fun K hK => ?_); refine gO Try.func68 #[.agg #[.int .i64 t334, .slice Ao18 t335.length co18], .int .i64 x10_1] ?_
               with_reducible refine (kimberliteref03_Row_Value.calls t334 _ _ t335 x10_1 t341 _ ?side1 ?side2 A46.out).mono ?_
               (case side1 => repeat (first | exact (Kd.R_reads' HO_339001.out).2.2 | (with_reducible refine Kd.C_alloc ?_ _) | (with_reducible refine Kd.C_drewN ?_ _) | (with_reducible refine Kd.C_drew ?_))); (case side2 => exact (Kd.R_reads' HO_339001.out).2.1); rintro e w49 ⟨rfl, hb⟩; refine ⟨_, rfl, ?_⟩; replace HO_339001 := Aside0.mk (Kd.R_below (nR HO_339001) hb); replace HO_340001 := Aside0.mk (Kd.R_below (nR HO_340001) hb); replace BK331 := Aside0.mk (nB BK331 hb); replace BK332 := Aside0.mk (nB BK332 hb); replace BK338 := Aside0.mk (nB BK338 hb); replace BK339 := Aside0.mk (nB BK339 hb); replace HB := Aside0.mk (below_step (nC HB) hb); (try clear hb); (try clear hb2); (try clear hk); (try clear hi); refine hK.out _ _ ⟨(blk_cell BK339.out 0).trans rfl, (blk_cell BK339.out 1).trans rfl, (blk_cell BK338.out 0).trans rfl, (blk_cell BK338.out 1).trans rfl⟩ (fun hHeld => ?_); clear hK K; refine norm_ (a' := ?_) ?_ ?_; rotate_left
               · show Act.put _ (some 44) _ = _; simp only [Act.put, zs1, zs2, zs3, i64_w, i32_w]; rfl
               refine one_ (i := 5) (N := some 45) #[true, true, true, true, true, true, false, false, false] rfl rfl (one_of HT_.out (by kernel_rfl)) (by decide) (fun K hK => ?_); refine value_ (w1 := ?_) (v := ?_) (by rfl) rfl ?_ ?_; rotate_left 2
               · go_simp
                 constructor
                 · rfl
                 · rfl
               refine hK.out _ _ ⟨(blk_cell (blk_alloc BK339.out _) 0).trans rfl, (blk_cell (blk_alloc BK339.out _) 1).trans rfl, (blk_cell (blk_alloc BK338.out _) 0).trans rfl, (blk_cell (blk_alloc BK338.out _) 1).trans rfl⟩ (fun hHeld => ?_); clear hK K; refine norm_ (a' := ?_) ?_ ?_; rotate_left
               · show Act.put _ (some 45) _ = _; simp only [Act.put, zs1, zs2, zs3, i64_w, i32_w]; rfl
               refine one_ (i := 6) (N := some 46) #[true, true, true, true, true, true, true, false, false] rfl rfl (one_of HT_.out (by kernel_rfl)) (by decide) (fun K hK => ?_); refine Kd.R_append_step (Kd.int .i64) (w0 := w) w.heap.size (by rfl) (.tmp 41) (.tmp 45) 22 3 (.int .i64 0) 8 rfl Try.underlying22 info3 rfl (by decide) (by omega) (.slice Ao40 x340001_1.length co40) x340001_1 t341 [.int .i64 t341] (fun k_ => some k_ ≠ (.slice Ao18 t335.length co18 : Value).ownBlock) (fun _ => False) rfl rfl ?aP (fun _ hk => hk.elim) ?aF ?aO ?aB ?aS ?aL ?_; (case aP => exact rfl); (case aB => exact (nC HB)); (case aF => exact (fun k_ hk => Kd.fresh' (Kd.R_lt (nR HO_339001)) k_ hk)); (case aO => exact (nR HO_340001)); (case aS => exact (below_size (nC HB))); (case aL => have := LMc47.out; omega); intro v343 w50 ho hb hg hat; rw [← Ny342.out] at ho; replace HO_339001 := Aside0.mk (Kd.R_after (ok := (fun _ => True)) (by (with_reducible repeat (first | apply Kd.R_alloc | apply Kd.R_drewN | apply Kd.R_drew)); exact Kd.R_mono HO_339001.out (fun _ hk => ⟨trivial, hk⟩)) hg hat); replace BK331 := Aside0.mk (blk_grown (g := gb331) (o := .cells #[.int .i64 a0_0, .int .i64 a0_1, .slice A0_2 l0_2.length c0_2] 24 (0, 0)) (nK BK331) hg (Kd.R_ne HO_340001.out BK331.out (by decide))); replace BK332 := Aside0.mk (blk_grown (g := gb332) (o := .cells #[.int .i64 0, .int .i64 0, .slice none 0 0] 24 (0, 0)) (nK BK332) hg (Kd.R_ne HO_340001.out BK332.out (by decide))); replace BK338 := Aside0.mk (blk_grown (g := gb338) (o := .cells #[.int .i64 t334, .slice Ao18 t335.length co18] 78 (0, 0)) (nK BK338) hg (Kd.R_ne HO_340001.out BK338.out (by decide))); replace BK339 := Aside0.mk (blk_grown (g := gb339) (o := .cells #[.int .i64 x340000_34, .slice Ao40 x340001_1.length co40] 78 (0, 0)) (nK BK339) hg (Kd.R_ne HO_340001.out BK339.out (by decide))); replace HB := Aside0.mk (hb); have HO344 := Aside0.mk (ho); clear HO_340001; clear ho hb hg hat; obtain ⟨Ao51, co51, eo51⟩ := Kd.R_slice HO344.out; (first | subst eo51 | (injection eo51 with f1_ f2_ f3_; have f4_ := f1_.symm; have f5_ := f3_.symm; clear f1_ f2_ f3_; subst f4_; subst f5_)); refine hK.out _ _ ⟨(blk_cell BK339.out 0).trans rfl, (blk_cell BK339.out 1).trans rfl, (blk_cell BK338.out 0).trans rfl, (blk_cell BK338.out 1).trans rfl⟩ (fun hHeld => ?_); clear hK K; refine norm_ (a' := ?_) ?_ ?_; rotate_left
               · show Act.put _ (some 46) _ = _; simp only [Act.put, zs1, zs2, zs3, i64_w, i32_w]; rfl
               refine pure_ (i := 7) (N := some 47) (v := ?_) (a' := ?_) #[true, true, true, true, true, true, true, true, false] rfl rfl (any_of HT_.out (by kernel_rfl)) (fun _ _ _ h => h) (Or.inl ⟨by rfl, ?_⟩) ?_ ?_; rotate_left
               · intro w'; go_simp
                 with_reducible rfl
               rotate_left
               · simp only [Act.put, zs1, zs2, zs3, i64_w, i32_w]; rfl
               refine last_ (i := 8) (N := none) #[true, true, true, true, true, true, true, true, true] rfl rfl (one_of HT_.out (by kernel_rfl)) (by decide) (fun K hK => ?_); have hs52 : w50.cell? ⟨gb339, 1, none⟩ = some (.slice Ao40 x340001_1.length co40) := (blk_cell BK339.out 1).trans rfl; have hfs52 := blk_frozen BK339.out 1; have hns52_0 := NB331_339.out; have hns52_1 := NB332_339.out; have hns52_2 := NB338_339.out; have hms52_0 := NB339_331.out; have hms52_1 := NB339_332.out; have hms52_2 := NB339_338.out; refine skip_ (w1 := ?_) (by rfl) rfl ?_ ?_; rotate_left
               · go_simp
                 rfl
               refine hK.out _ _ ?_; clear hK K; refine done_ (done_of HT_.out (by kernel_rfl)) ?_; try go_wp2
               go_roundg kj34
               case measure => have := HK1.out; have := HJ26.out; have := HJ34.out; omega
               case rel => exact ⟨(wrap64 (x10_1 + 1)), (x340000_34), (y342), (.slice Ao51 y342.length co51), (by first | rfl | (simp; done) | (simp [*]; done)), H', ⟨by have := HK1.out; have := HJ26.out; have := HJ34.out; omega⟩, ⟨by (with_reducible repeat (first | apply Kd.R_alloc | apply Kd.R_drewN | apply Kd.R_drew)); exact Kd.R_mono (Kd.R_far (p := ⟨gb339, 1, none⟩) (Kd.R_types HO_339001.out BK339.out (by decide)) (fun _ hk => hk.2) (.slice Ao51 y342.length co51)) (fun _ hk => hk.1.2)⟩, ⟨by (with_reducible repeat (first | apply Kd.R_alloc | apply Kd.R_drewN | apply Kd.R_drew)); exact Kd.R_mono (Kd.R_far (p := ⟨gb339, 1, none⟩) (Kd.R_types HO344.out BK339.out (by decide)) (fun _ hk => hk.2) (.slice Ao51 y342.length co51)) (fun _ hk => hk.1)⟩, ⟨by (with_reducible repeat (first | refine blk_drewN ?_ _ | refine blk_drew ?_ | refine blk_alloc ?_ _)); refine blk_far ?_ NB331_339.out _; (with_reducible repeat (first | refine blk_drewN ?_ _ | refine blk_drew ?_ | refine blk_alloc ?_ _)); exact BK331.out⟩, ⟨by (with_reducible repeat (first | refine blk_drewN ?_ _ | refine blk_drew ?_ | refine blk_alloc ?_ _)); refine blk_far ?_ NB332_339.out _; (with_reducible repeat (first | refine blk_drewN ?_ _ | refine blk_drew ?_ | refine blk_alloc ?_ _)); exact BK332.out⟩, ⟨by (with_reducible repeat (first | refine blk_drewN ?_ _ | refine blk_drew ?_ | refine blk_alloc ?_ _)); refine blk_far ?_ NB338_339.out _; (with_reducible repeat (first | refine blk_drewN ?_ _ | refine blk_drew ?_ | refine blk_alloc ?_ _)); exact BK338.out⟩, ⟨by (with_reducible repeat (first | refine blk_drewN ?_ _ | refine blk_drew ?_ | refine blk_alloc ?_ _)); refine blk_put (cs := #[.int .i64 x340000_34, .slice Ao40 x340001_1.length co40]) ?_ 1 _ rfl; (with_reducible repeat (first | refine blk_drewN ?_ _ | refine blk_drew ?_ | refine blk_alloc ?_ _)); exact BK339.out⟩, ⟨nC HB⟩⟩
             · rw [if_neg c47] at H; exact absurd H (by simp)
     · rw [if_neg c26] at H; have c26b0 : decide (x10_1 ≤ t340) = false := decide_eq_false c26; clear c26
       by_cases c53 : (x340001_1.length : Int) = 0
       · rw [if_pos c53] at H; have c53b0 : ((x340001_1.length : Int) == 0) = true := beq_iff_eq.mpr c53; have c53b1 : ((x340001_1.length : Int) != 0) = false := bne_eq_false_iff_eq.mpr c53; clear c53; simp only [Option.some.injEq, Prod.mk.injEq] at H; obtain ⟨rfl, rfl, rfl, rfl⟩ := H; have hnb54 := NB338_331.out; have hnc54 := NB331_338.out; have hnb55 := NB338_332.out; have hnc55 := NB332_338.out; have hnb56 := NB338_339.out; have hnc56 := NB339_338.out; obtain ⟨hcz57_0, hcz57_1, hfz57_0, hfz57_1⟩ := cz2 BK338; go_wp2_with (first | ((with_reducible refine gate_callee (f := 65) rfl ?_); refine gL (some 22) Try.func65 #[.agg #[.int .i64 t334, .slice Ao18 t335.length co18]] ?_; (with_reducible refine (kimberliteref03_Row_To.calls t334 _ _ t335 t340 _ ?side1 ?side2 A25.out).mono ?_); (case side1 => repeat (first | exact (Kd.R_reads' HO_339001.out).2.2 | (with_reducible refine Kd.C_alloc ?_ _) | (with_reducible refine Kd.C_drewN ?_ _) | (with_reducible refine Kd.C_drew ?_))); (case side2 => exact (Kd.R_reads' HO_339001.out).2.1); rintro e w58 ⟨rfl, hb⟩; refine ⟨_, rfl, ?_⟩; replace HO_339001 := Aside0.mk (Kd.R_below (nR HO_339001) hb); replace HO_340001 := Aside0.mk (Kd.R_below (nR HO_340001) hb); replace BK331 := Aside0.mk (nB BK331 hb); replace BK332 := Aside0.mk (nB BK332 hb); replace BK338 := Aside0.mk (nB BK338 hb); replace BK339 := Aside0.mk (nB BK339 hb); replace HB := Aside0.mk (below_step (nC HB) hb); (try clear hb); (try clear hb2); (try clear hk); (try clear hi); have hnb59 := NB339_331.out; have hnc59 := NB331_339.out; have hnb60 := NB339_332.out; have hnc60 := NB332_339.out; obtain ⟨hcz61_0, hcz61_1, hfz61_0, hfz61_1⟩ := cz2 BK339; obtain ⟨Ao62, co62, eo62⟩ := Kd.R_slice HO_340001.out; subst eo62; have hnb63 := NB332_331.out; have hnc63 := NB331_332.out; obtain ⟨hcz64_0, hcz64_1, hcz64_2, hfz64_0, hfz64_1, hfz64_2⟩ := cz3 BK332))
         refine bodyPost_ret (results_ct rfl _ _ gb332 24 #[.int .i64 0, .int .i64 0, .slice none 0 0] (0, 0) _ rfl (by (with_reducible repeat (first | refine blk_drewN ?_ _ | refine blk_drew ?_ | refine blk_alloc ?_ _)); refine blk_put (cs := #[.int .i64 0, .int .i64 0, .slice none 0 0]) ?_ 2 _ rfl; (with_reducible repeat (first | refine blk_drewN ?_ _ | refine blk_drew ?_ | refine blk_alloc ?_ _)); refine blk_put (cs := #[.int .i64 0, .int .i64 0, .slice none 0 0]) ?_ 1 _ rfl; (with_reducible repeat (first | refine blk_drewN ?_ _ | refine blk_drew ?_ | refine blk_alloc ?_ _)); refine blk_put (cs := #[.int .i64 0, .int .i64 0, .slice none 0 0]) ?_ 0 _ rfl; (with_reducible repeat (first | refine blk_drewN ?_ _ | refine blk_drew ?_ | refine blk_alloc ?_ _)); exact BK332.out) Try.underlying24 rfl (by kernel_rfl)) rfl ?_; exact ⟨_, by first | rfl | (simp [errW_none, errW_some] <;> rfl) | (simp [*, errW_none, errW_some] <;> rfl), by first | exact Kd.R_nil _ _ _ _ _ | exact Kd.N_nil _ _ _ _ _ | exact Kd.V_nil _ _ _ _ _ | exact Kd.Q_nil _ _ _ _ _ | exact Kd.S_nil _ _ _ _ _, nC HB⟩
       · rw [if_neg c53] at H; have c53b0 : ((x340001_1.length : Int) == 0) = false := beq_eq_false_iff_ne.mpr c53; have c53b1 : ((x340001_1.length : Int) != 0) = true := bne_iff_ne.mpr c53; have c53b2 : ¬ (x340001_1 = []) := fun h_ => c53 (by rw [h_]; rfl)
         replace H := Option.bind_eq_some_iff.mp H; obtain ⟨⟨t345, t346, t347, t350⟩, A650, H⟩ := H; replace H : (some (t345, t346, t347, t350)) = some (r1, r2, r3, r4) := H; have A65 := Aside0.mk A650; clear A650; simp only [Option.some.injEq, Prod.mk.injEq] at H; obtain ⟨rfl, rfl, rfl, rfl⟩ := H; have hnb66 := NB338_331.out; have hnc66 := NB331_338.out; have hnb67 := NB338_332.out; have hnc67 := NB332_338.out; have hnb68 := NB338_339.out; have hnc68 := NB339_338.out; obtain ⟨hcz69_0, hcz69_1, hfz69_0, hfz69_1⟩ := cz2 BK338; go_wp2_with (first | ((with_reducible refine gate_callee (f := 65) rfl ?_); refine gL (some 22) Try.func65 #[.agg #[.int .i64 t334, .slice Ao18 t335.length co18]] ?_; (with_reducible refine (kimberliteref03_Row_To.calls t334 _ _ t335 t340 _ ?side1 ?side2 A25.out).mono ?_); (case side1 => repeat (first | exact (Kd.R_reads' HO_339001.out).2.2 | (with_reducible refine Kd.C_alloc ?_ _) | (with_reducible refine Kd.C_drewN ?_ _) | (with_reducible refine Kd.C_drew ?_))); (case side2 => exact (Kd.R_reads' HO_339001.out).2.1); rintro e w70 ⟨rfl, hb⟩; refine ⟨_, rfl, ?_⟩; replace HO_339001 := Aside0.mk (Kd.R_below (nR HO_339001) hb); replace HO_340001 := Aside0.mk (Kd.R_below (nR HO_340001) hb); replace BK331 := Aside0.mk (nB BK331 hb); replace BK332 := Aside0.mk (nB BK332 hb); replace BK338 := Aside0.mk (nB BK338 hb); replace BK339 := Aside0.mk (nB BK339 hb); replace HB := Aside0.mk (below_step (nC HB) hb); (try clear hb); (try clear hb2); (try clear hk); (try clear hi); have hnb71 := NB339_331.out; have hnc71 := NB331_339.out; have hnb72 := NB339_332.out; have hnc72 := NB332_339.out; obtain ⟨hcz73_0, hcz73_1, hfz73_0, hfz73_1⟩ := cz2 BK339; obtain ⟨Ao74, co74, eo74⟩ := Kd.R_slice HO_340001.out; subst eo74) | ((with_reducible refine gate_callee (f := 72) rfl ?_); refine gL (some 54) Try.func72 #[.agg #[.int .i64 x340000_1, .slice Ao74 x340001_1.length co74]] ?_; (with_reducible refine (kimberliteref03_ranged.calls k1 x340000_1 _ _ x340001_1 t345 t346 t347 t350 _ ?side1 ?side2 A65.out).mono ?_); (case side1 => repeat (first | exact (Kd.R_reads' HO_340001.out).2.2 | (with_reducible refine Kd.C_alloc ?_ _) | (with_reducible refine Kd.C_drewN ?_ _) | (with_reducible refine Kd.C_drew ?_))); (case side2 => exact (Kd.R_reads' HO_340001.out).2.1); rintro e w75 ⟨v348, rfl, ho0, hb⟩; refine ⟨_, rfl, ?_⟩; have HO349 := Aside0.mk (Kd.R_lower (Kd.R_new' (Kd.R_new' ho0 (Kd.R_lt (nR HO_339001))) (Kd.R_lt (nR HO_340001))) (below_size (nC HB))); replace HO_339001 := Aside0.mk (Kd.R_elder' (nR HO_339001) (Kd.R_base ho0) hb); replace HO_340001 := Aside0.mk (Kd.R_elder' (nR HO_340001) (Kd.R_base ho0) hb); replace BK331 := Aside0.mk (nB BK331 hb); replace BK332 := Aside0.mk (nB BK332 hb); replace BK338 := Aside0.mk (nB BK338 hb); replace BK339 := Aside0.mk (nB BK339 hb); replace HB := Aside0.mk (below_step (nC HB) hb); (try clear hb); (try clear hb2); (try clear hk); (try clear hi); (try clear ho0); have hnb76 := NB332_331.out; have hnc76 := NB331_332.out; obtain ⟨hcz77_0, hcz77_1, hcz77_2, hfz77_0, hfz77_1, hfz77_2⟩ := cz3 BK332; obtain ⟨Ao78, co78, eo78⟩ := Kd.R_slice HO349.out; subst eo78))
         refine bodyPost_ret (results_ct rfl _ _ gb332 24 #[.int .i64 t345, .int .i64 t346, .slice Ao78 t347.length co78] (0, 0) _ rfl (by (with_reducible repeat (first | refine blk_drewN ?_ _ | refine blk_drew ?_ | refine blk_alloc ?_ _)); refine blk_put (cs := #[.int .i64 t345, .int .i64 t346, .slice none 0 0]) ?_ 2 _ rfl; (with_reducible repeat (first | refine blk_drewN ?_ _ | refine blk_drew ?_ | refine blk_alloc ?_ _)); refine blk_put (cs := #[.int .i64 t345, .int .i64 0, .slice none 0 0]) ?_ 1 _ rfl; (with_reducible repeat (first | refine blk_drewN ?_ _ | refine blk_drew ?_ | refine blk_alloc ?_ _)); refine blk_put (cs := #[.int .i64 0, .int .i64 0, .slice none 0 0]) ?_ 0 _ rfl; (with_reducible repeat (first | refine blk_drewN ?_ _ | refine blk_drew ?_ | refine blk_alloc ?_ _)); exact BK332.out) Try.underlying24 rfl (by kernel_rfl)) rfl ?_; exact ⟨_, by first | rfl | (simp [errW_none, errW_some] <;> rfl) | (simp [*, errW_none, errW_some] <;> rfl), by (with_reducible repeat (first | apply Kd.R_alloc | apply Kd.R_drewN | apply Kd.R_drew)); exact Kd.R_mono (Kd.R_far (p := ⟨gb332, 2, none⟩) (Kd.R_far (p := ⟨gb332, 1, none⟩) (Kd.R_far (p := ⟨gb332, 0, none⟩) (Kd.R_types HO349.out BK332.out (by decide)) (fun _ hk => hk.2) (.int .i64 t345)) (fun _ hk => hk.2) (.int .i64 t346)) (fun _ hk => hk.2) (.slice Ao78 t347.length co78)) (fun _ hk => trivial), nC HB⟩
 · replace c5 := Bool.eq_false_iff.mpr c5; subst c5; replace H : (some (0, 0, ([] : List Int), 2)) = some (r1, r2, r3, r4) := by rw [if_neg (show ¬ (false = true) by decide)] at H; exact H
   simp only [Option.some.injEq, Prod.mk.injEq] at H; obtain ⟨rfl, rfl, rfl, rfl⟩ := H; go_enter Try.func48, Try.ntmps48
   go_wp2_with (first | ((with_reducible refine gate_dst (N := 3) rfl ?_); refine box_event ?hg (N := 3) ?hd (cs := #[.int .i64 a0_0, .int .i64 a0_1, .slice A0_2 l0_2.length c0_2]) (t := 24) ?hr ?_; (case hd => rfl); (case hg => rfl); (case hr => first | (go_simp; done) | (go_simp; rfl)); intro gb331 hg w79 hbox hb; have BK331 := Aside0.mk (hbox); have GW331 := Aside0.mk ((by rw [hg]; exact (below_size (nC HB)) : w.heap.size ≤ gb331)); have GE331 := Aside0.mk ((by rw [hg]; exact (below_size (nC HB)) : w.heap.size ≤ gb331)); replace HB := Aside0.mk (below_step (nC HB) hb); clear hb hbox hg) | ((with_reducible refine gate_dst (N := 6) rfl ?_); refine box_event ?hg (N := 6) ?hd (cs := #[.int .i64 0, .int .i64 0, .slice none 0 0]) (t := 24) ?hr ?_; (case hd => rfl); (case hg => rfl); (case hr => first | (go_simp; done) | (go_simp; rfl)); intro gb332 hg w80 hbox hb; have BK332 := Aside0.mk (hbox); have GW332 := Aside0.mk ((by rw [hg]; exact (below_size (nC HB)) : w.heap.size ≤ gb332)); have GE332 := Aside0.mk ((by rw [hg]; exact (below_size (nC HB)) : w.heap.size ≤ gb332)); replace HB := Aside0.mk (below_step (nC HB) hb); have NB331_332 := Aside0.mk ((by rw [hg]; exact Nat.ne_of_lt (blk_lt (nK BK331)) : gb331 ≠ gb332)); have NB332_331 := Aside0.mk ((by rw [hg]; exact Nat.ne_of_gt (blk_lt (nK BK331)) : gb332 ≠ gb331)); replace BK331 := Aside0.mk (nB BK331 hb); clear hb hbox hg; have hnb81 := NB331_332.out; have hnc81 := NB332_331.out; obtain ⟨hcz82_0, hcz82_1, hcz82_2, hfz82_0, hfz82_1, hfz82_2⟩ := cz3 BK331) | ((with_reducible refine gate_callee (f := 30) rfl ?_); refine gL (some 12) Try.func30 #[.agg #[.int .i64 a0_0, .int .i64 a0_1, .slice A0_2 l0_2.length c0_2]] ?_; (with_reducible refine (kimberliteref03_Valid.calls k a0_0 a0_1 _ _ l0_2 false _ ?side1 ?side2 A4.out).mono ?_); (case side1 => exact nS HR0_2 HB); (case side2 => exact HC0_2.out); rintro e w83 ⟨rfl, hb⟩; refine ⟨_, rfl, ?_⟩; replace BK331 := Aside0.mk (nB BK331 hb); replace BK332 := Aside0.mk (nB BK332 hb); replace HB := Aside0.mk (below_step (nC HB) hb); (try clear hb); (try clear hb2); (try clear hk); (try clear hi); obtain ⟨hcz84_0, hcz84_1, hcz84_2, hfz84_0, hfz84_1, hfz84_2⟩ := cz3 BK332))
   refine bodyPost_ret (results_ct rfl _ _ gb332 24 #[.int .i64 0, .int .i64 0, .slice none 0 0] (0, 0) _ rfl (by (with_reducible repeat (first | refine blk_drewN ?_ _ | refine blk_drew ?_ | refine blk_alloc ?_ _)); refine blk_put (cs := #[.int .i64 0, .int .i64 0, .slice none 0 0]) ?_ 2 _ rfl; (with_reducible repeat (first | refine blk_drewN ?_ _ | refine blk_drew ?_ | refine blk_alloc ?_ _)); refine blk_put (cs := #[.int .i64 0, .int .i64 0, .slice none 0 0]) ?_ 1 _ rfl; (with_reducible repeat (first | refine blk_drewN ?_ _ | refine blk_drew ?_ | refine blk_alloc ?_ _)); refine blk_put (cs := #[.int .i64 0, .int .i64 0, .slice none 0 0]) ?_ 0 _ rfl; (with_reducible repeat (first | refine blk_drewN ?_ _ | refine blk_drew ?_ | refine blk_alloc ?_ _)); exact BK332.out) Try.underlying24 rfl (by kernel_rfl)) rfl ?_; exact ⟨_, by first | rfl | (simp [errW_none, errW_some] <;> rfl) | (simp [*, errW_none, errW_some] <;> rfl), by first | exact Kd.R_nil _ _ _ _ _ | exact Kd.N_nil _ _ _ _ _ | exact Kd.V_nil _ _ _ _ _ | exact Kd.Q_nil _ _ _ _ _ | exact Kd.S_nil _ _ _ _ _, nC HB⟩
end Go.Proofs.Ytingjpcgehgiiaa.Pr
end
section
namespace Go.Proofs.Ytingjpcgehgiiaa.Pr
open Go.RowKit Go.Proofs.YtingjpcgehgiiaaW.PrintWords Go.Proofs.YtingjpcgehgiiaaW.PrintLast Go.Proofs.YtingjpcgehgiiaaW.PrintMore
set_option linter.unusedVariables false
set_option linter.unusedSimpArgs false
theorem dif_out (d : S24) : difL (outL d (d.f2.length + 1)) d.f2.length = d.f2 := by
  apply List.ext_getElem?
  intro j
  by_cases hj : j < d.f2.length
  · rw [List.getElem?_eq_getElem (by rw [difL_len]; exact hj), List.getElem?_eq_getElem hj]
    unfold difL
    rw [List.getElem_map, List.getElem_range, outL_rd _ _ _ (by omega), outL_rd _ _ _ (by omega), val_succ d j hj, rd_nat _ _ hj]
    congr 1
    omega
  · rw [List.getElem?_eq_none (by rw [difL_len]; omega), List.getElem?_eq_none (by omega)]
theorem thr_out (d : S24) : thrC d.f0 (outL d (d.f2.length + 1)) = d := by
  unfold thrC
  rw [outL_len, show d.f2.length + 1 - 1 = d.f2.length by omega, dif_out]
  have e : rd (outL d (d.f2.length + 1)) ((0 : Nat) : Int) = d.f1 := by
    rw [outL_rd _ _ _ (by omega), show d.f0 + ((0 : Nat) : Int) = d.f0 by omega, val_first]
  rw [show (0 : Int) = ((0 : Nat) : Int) from rfl, e]
theorem ranged_out {d : S24} (hl : d.f2.length ≤ 200) (hs : ∀ s ∈ d.f2, -4194304 ≤ s ∧ s ≤ 4194304) : Ev (fun k => kimberliteref03_ranged.f k d.f0 (outL d (d.f2.length + 1))) (madeR d) := by
  have h := ranged_ev d.f0 (outL d (d.f2.length + 1)) (by rw [outL_len]; omega) (by rw [outL_len]; omega) (fun i hi => by
    rw [outL_len] at hi
    rw [outL_rd _ _ _ (by omega), outL_rd _ _ _ (by omega), val_succ d i (by omega)]
    have := hs (rd d.f2 (i : Int)) (by rw [rd_nat _ _ (by omega)]; exact List.getElem_mem _)
    omega)
  rw [thr_out] at h
  exact h
theorem nil_out (d : S24) : outL d 0 = [] := rfl
theorem negs_mem {l : List Int} (h : ∀ s ∈ l, -1048576 ≤ s ∧ s ≤ 1048576) : ∀ s ∈ negs l, -1048576 ≤ s ∧ s ≤ 1048576 := by
  intro s hs
  unfold negs at hs
  rw [List.mem_map] at hs
  obtain ⟨t, ht, rfl⟩ := hs
  have := h t ht
  unfold wrap64
  omega
theorem rflip_loop {c : S24} (h : Vc c) : ∀ n i : Nat, i + n = c.f2.length + 1 → Ev (fun k => kimberliteref03_Flip.l0 k (toC c - (i : Int)) c.f0 (outL c (c.f2.length + 1)) (flipC c).f0 (outL (flipC c) i)) (madeR (flipC c))
  | 0, i, hi => by
    obtain ⟨h1, h2, h3, h4, h5, _, h7⟩ := vc_parts h
    have hr := ranged_out (d := flipC c) (by rw [flip_len]; omega) (fun s hs => by have := negs_mem (fun t ht => h7 t (List.mem_reverse.1 ht)) s hs; omega)
    rw [flip_len, ← show i = c.f2.length + 1 by omega] at hr
    refine Ev.step (fun k => ?_) (Ev.bind hr (Ev.now (madeR (flipC c))))
    simp only [kimberliteref03_Flip.l0]
    rw [if_neg (by unfold toC; omega)]
  | n + 1, i, hi => by
    obtain ⟨h1, h2, h3, h4, h5, _, h7⟩ := vc_parts h
    have ih := rflip_loop h n (i + 1) (by omega)
    have hx : inC c (toC c - (i : Int)) := by unfold inC toC; omega
    have ew : wrap64 (toC c - (i : Int) - 1) = toC c - ((i + 1 : Nat) : Int) := by unfold toC wrap64; omega
    have hv : valC (flipC c) ((flipC c).f0 + (i : Int)) = valC c (toC c - (i : Int)) := by
      rw [flip_f0 h, show -(toC c) + (i : Int) = -(toC c - (i : Int)) by omega, val_flip h hx]
    refine Ev.step (fun k => ?_) ih
    simp only [kimberliteref03_Flip.l0]
    rw [if_pos (show toC c - (i : Int) ≥ c.f0 from hx.1), row_value h hx, Option.bind_some, if_pos (by rw [outL_len]; omega), ew, outL_succ (flipC c) i, hv]
theorem rflip_ev (c : S24) : Ev (fun k => kimberliteref03_Flip.f k c.f0 c.f1 c.f2) (flipR c) := by
  unfold kimberliteref03_Flip.f
  refine Ev.bind (rvalid_ev c) ?_
  by_cases h : Vc c
  · refine Ev.congr (fun k => if_pos (decide_eq_true h)) (Ev.bind (out_ev h) ?_)
    have hl := rflip_loop h (c.f2.length + 1) 0 (by omega)
    have e : flipR c = madeR (flipC c) := if_pos h
    have e0 : toC c - ((0 : Nat) : Int) = toC c := by omega
    rw [e0] at hl
    rw [e]
    refine Ev.congr (fun k => ?_) hl
    simp only
    rw [row_to h, Option.bind_some, Option.bind_some]
    rfl
  · have e : flipR c = (0, 0, [], 2) := if_neg h
    rw [e]
    exact Ev.congr (f := fun _ => some _) (fun k => if_neg (by rw [decide_eq_true_eq]; exact h)) (Ev.now _)
theorem tilt_mem {l : List Int} {p : Int} (hp : -1048576 ≤ p ∧ p ≤ 1048576) (h : ∀ s ∈ l, -1048576 ≤ s ∧ s ≤ 1048576) : ∀ s ∈ l.map (fun s => s + p), -4194304 ≤ s ∧ s ≤ 4194304 := by
  intro s hs
  rw [List.mem_map] at hs
  obtain ⟨t, ht, rfl⟩ := hs
  have := h t ht
  omega
theorem rtilt_loop {c : S24} (h : Vc c) {p : Int} (hp : -1048576 ≤ p ∧ p ≤ 1048576) : ∀ n i : Nat, i + n = c.f2.length + 1 → Ev (fun k => kimberliteref03_Tilt.l0 k p (c.f0 + (i : Int)) c.f0 (outL c (c.f2.length + 1)) (tiltC c p).f0 (outL (tiltC c p) i)) (madeR (tiltC c p))
  | 0, i, hi => by
    obtain ⟨h1, h2, h3, h4, h5, _, h7⟩ := vc_parts h
    have el : (tiltC c p).f2.length = c.f2.length := List.length_map _
    have hr := ranged_out (d := tiltC c p) (by rw [el]; omega) (tilt_mem hp h7)
    rw [el, ← show i = c.f2.length + 1 by omega] at hr
    refine Ev.step (fun k => ?_) (Ev.bind hr (Ev.now (madeR (tiltC c p))))
    simp only [kimberliteref03_Tilt.l0]
    rw [row_to h, Option.bind_some, if_neg (by omega)]
  | n + 1, i, hi => by
    obtain ⟨h1, h2, h3, h4, h5, _, h7⟩ := vc_parts h
    have ih := rtilt_loop h hp n (i + 1) (by omega)
    have hx : inC c (c.f0 + (i : Int)) := by unfold inC; omega
    have ew : wrap64 (c.f0 + (i : Int) + 1) = c.f0 + ((i + 1 : Nat) : Int) := by unfold wrap64; omega
    have hb := val_bound h (c.f0 + (i : Int))
    have hm := mul_bound (P := 1048576) (X := 2097152) hp (in_bound h hx)
    have e1 : wrap64 (p * (c.f0 + (i : Int))) = p * (c.f0 + (i : Int)) := by unfold wrap64; omega
    have e2 : wrap64 (valC c (c.f0 + (i : Int)) + p * (c.f0 + (i : Int))) = valC c (c.f0 + (i : Int)) + p * (c.f0 + (i : Int)) := by unfold wrap64; omega
    have hv : valC (tiltC c p) ((tiltC c p).f0 + (i : Int)) = valC c (c.f0 + (i : Int)) + p * (c.f0 + (i : Int)) := val_tilt hx
    refine Ev.step (fun k => ?_) ih
    simp only [kimberliteref03_Tilt.l0]
    rw [row_to h, Option.bind_some, if_pos (show c.f0 + (i : Int) ≤ c.f0 + (c.f2.length : Int) from hx.2), row_value h hx, Option.bind_some, if_pos (by rw [outL_len]; omega), ew, e1, e2, outL_succ (tiltC c p) i, hv]
theorem rtilt_ev (c : S24) (p : Int) : Ev (fun k => kimberliteref03_Tilt.f k c.f0 c.f1 c.f2 p) (tiltR c p) := by
  have bad : Ev (fun k => kimberliteref03_Tilt.j0 k p true c.f0 c.f1 c.f2) (0, 0, [], 2) := by
    refine Ev.step (f := fun _ => some (0, 0, [], 2)) (fun k => ?_) (Ev.now _)
    simp only [kimberliteref03_Tilt.j0]
    rfl
  unfold kimberliteref03_Tilt.f tiltR
  refine Ev.bind (rvalid_ev c) ?_
  by_cases h : Vc c
  · refine Ev.congr (fun k => if_pos (decide_eq_true h)) ?_
    by_cases h1 : p < -1048576
    · rw [if_neg (fun e => by have := (inB_iff.1 e.2).1; omega)]
      exact Ev.congr (fun k => if_pos h1) bad
    · refine Ev.congr (fun k => if_neg h1) ?_
      by_cases h2 : p > 1048576
      · rw [decide_eq_true h2, if_neg (fun e => by have := (inB_iff.1 e.2).2; omega)]
        exact bad
      · have hp : -1048576 ≤ p ∧ p ≤ 1048576 := by omega
        rw [decide_eq_false h2, if_pos ⟨h, inB_iff.2 hp⟩]
        have hl := rtilt_loop h hp (c.f2.length + 1) 0 (by omega)
        rw [show c.f0 + ((0 : Nat) : Int) = c.f0 by omega] at hl
        refine Ev.step (f := fun k => (kimberliteref03_Out.f k c.f0 c.f1 c.f2).bind fun bt295 => (kimberliteref03_Tilt.l0 k p bt295.1 bt295.1 bt295.2 bt295.1 ([] : List Int))) (fun k => ?_) (Ev.bind (out_ev h) hl)
        simp only [kimberliteref03_Tilt.j0]
        rw [if_neg (by simp)]
  · rw [if_neg (fun e => h e.1)]
    exact Ev.congr (fun k => if_neg (by rw [decide_eq_true_eq]; exact h)) bad
theorem rmove_loop {c : S24} (h : Vc c) {x y : Int} (hx : -1048576 ≤ x ∧ x ≤ 1048576) (hy : -1099511627776 ≤ y ∧ y ≤ 1099511627776) : ∀ n i : Nat, i + n = c.f2.length + 1 → Ev (fun k => kimberliteref03_Move.l0 k y (i : Int) c.f0 (outL c (c.f2.length + 1)) (moveC c x y).f0 (outL (moveC c x y) i)) (madeR (moveC c x y))
  | 0, i, hi => by
    obtain ⟨h1, h2, h3, h4, h5, _, h7⟩ := vc_parts h
    have hr := ranged_out (d := moveC c x y) (show c.f2.length ≤ 200 by omega) (fun s hs => by have := h7 s hs; omega)
    rw [show (moveC c x y).f2.length + 1 = i from hi.symm] at hr
    refine Ev.step (fun k => ?_) (Ev.bind hr (Ev.now (madeR (moveC c x y))))
    simp only [kimberliteref03_Move.l0]
    rw [if_neg (by rw [outL_len]; omega)]
  | n + 1, i, hi => by
    obtain ⟨h1, h2, h3, h4, h5, _, h7⟩ := vc_parts h
    have ih := rmove_loop h hx hy n (i + 1) (by omega)
    have ew : wrap64 ((i : Int) + 1) = ((i + 1 : Nat) : Int) := by unfold wrap64; omega
    have hb := val_bound h (c.f0 + (i : Int))
    have hv : valC (moveC c x y) ((moveC c x y).f0 + (i : Int)) = valC c (c.f0 + (i : Int)) + y := by
      rw [← val_move (c := c) (x := x) (y := y) (z := c.f0 + (i : Int))]
      congr 1
      unfold moveC
      simp only
      omega
    have e2 : wrap64 (valC c (c.f0 + (i : Int)) + y) = valC c (c.f0 + (i : Int)) + y := by unfold wrap64; omega
    refine Ev.step (fun k => ?_) ih
    simp only [kimberliteref03_Move.l0]
    rw [if_pos (by rw [outL_len]; omega), if_pos (by omega), if_pos (by rw [outL_len]; omega), ew, outL_rd c _ i (by omega), e2, outL_succ (moveC c x y) i, hv]
theorem rmove_ev (c : S24) (x y : Int) : Ev (fun k => kimberliteref03_Move.f k c.f0 c.f1 c.f2 x y) (moveR c x y) := by
  have bad : Ev (fun k => kimberliteref03_Move.j0 k x y true c.f0 c.f1 c.f2) (0, 0, [], 2) := by
    refine Ev.step (f := fun _ => some (0, 0, [], 2)) (fun k => ?_) (Ev.now _)
    simp only [kimberliteref03_Move.j0]
    rfl
  unfold kimberliteref03_Move.f moveR
  refine Ev.bind (rvalid_ev c) ?_
  by_cases h : Vc c
  · refine Ev.congr (fun k => if_pos (decide_eq_true h)) ?_
    by_cases h1 : x < -1048576
    · rw [if_neg (fun e => by have := (inB_iff.1 e.2.1).1; omega)]
      exact Ev.congr (fun k => if_pos h1) bad
    · refine Ev.congr (fun k => if_neg h1) ?_
      by_cases h2 : x > 1048576
      · rw [if_neg (fun e => by have := (inB_iff.1 e.2.1).2; omega)]
        exact Ev.congr (fun k => if_pos h2) bad
      · refine Ev.congr (fun k => if_neg h2) ?_
        by_cases h3 : y < -1099511627776
        · rw [if_neg (fun e => by have := (inB_iff.1 e.2.2).1; omega)]
          exact Ev.congr (fun k => if_pos h3) bad
        · refine Ev.congr (fun k => if_neg h3) ?_
          by_cases h4 : y > 1099511627776
          · rw [decide_eq_true h4, if_neg (fun e => by have := (inB_iff.1 e.2.2).2; omega)]
            exact bad
          · have hx : -1048576 ≤ x ∧ x ≤ 1048576 := by omega
            have hy : -1099511627776 ≤ y ∧ y ≤ 1099511627776 := by omega
            rw [decide_eq_false h4, if_pos ⟨h, inB_iff.2 hx, inB_iff.2 hy⟩]
            obtain ⟨p1, p2, _⟩ := vc_parts h
            have ew : wrap64 (c.f0 + x) = c.f0 + x := by unfold wrap64; omega
            have hl := rmove_loop h hx hy (c.f2.length + 1) 0 (by omega)
            refine Ev.step (f := fun k => (kimberliteref03_Out.f k c.f0 c.f1 c.f2).bind fun bt315 => (kimberliteref03_Move.l0 k y 0 bt315.1 bt315.2 (wrap64 (bt315.1 + x)) ([] : List Int))) (fun k => ?_) (Ev.bind (out_ev h) ?_)
            · simp only [kimberliteref03_Move.j0]
              rw [if_neg (by simp)]
            · simp only
              rw [ew]
              exact hl
  · rw [if_neg (fun e => h e.1)]
    exact Ev.congr (fun k => if_neg (by rw [decide_eq_true_eq]; exact h)) bad
end Go.Proofs.Ytingjpcgehgiiaa.Pr
end
